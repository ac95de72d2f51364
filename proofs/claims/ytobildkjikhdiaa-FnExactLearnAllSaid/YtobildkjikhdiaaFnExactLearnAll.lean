/-
  For every input the law FnExactLearnAll returns true and leaves its arguments as they were; no condition beyond the statement's own.
-/
import Derived.Test.YtobildkjikhdiaaRows
import Derived.Test.YtobildkjikhdiaaOpens
import Derived.Test.YtobildkjikhdiaaTo
import Derived.Test.YtobildkjikhdiaaEq
import Derived.Test.YtobildkjikhdiaaLearn
import Derived.WalkKit
import Derived.ProofKit
import Derived.OpenShut
import Derived.ShutString
import Derived.ChangeOld
import Derived.Below
import Derived.Deep.RegionHeld3
import Derived.Test.YtobildkjikhdiaaMark
import Derived.Test.YtobildkjikhdiaaMarkC
namespace Go.Proofs.Ytobildkjikhdiaa.fnExactLearnAll
open Go.ChangeShapes Go.WideShapes Go.ChangeAt Go.RowKit
open Go.ChangeMaps (open_string shut_string)
set_option linter.unusedVariables false
set_option linter.unusedSimpArgs false

theorem own : ownKnob Try.prog.godebug = none := by kernel_rfl
theorem laidOut : laidOutB Try.prog = true := by kernel_rfl

set_option maxRecDepth 100000 in
set_option maxHeartbeats 4000000 in
theorem walk (csB : List Value) (xB : BoxD) (ASeen : Option Addr) (nSeen kSeen : Nat) (lSeen : List ObservationD) (w : World) (rB : (rBox maxLen).rep w csB xB) (rSeen : RS maxLen (rObservation maxLen) w ASeen nSeen kSeen lSeen) :
    Calls Try.prog 3 #[.agg csB.toArray, .slice ASeen nSeen kSeen] w fun e w' => e = .returned (.bool true) ∧ Below w.heap.size w w' := by
  have hB : Below w.heap.size w w := Below.refl _ _
  have qB := rB
  obtain ⟨ABLow, nBLow, cBLow, ABHigh, nBHigh, cBHigh, rfl, hBLow, hBHigh⟩ := rBox_rep.1 qB
  clear qB
  go_enter Try.func3, Try.ntmps3
  have hA1 := (Below.refl (World.heap (w)).size (w)).alloc (Nat.le_refl _) (.cells #[.slice ABLow nBLow cBLow, .slice ABHigh nBHigh cBHigh] 24)
  replace hB := hB.trans (hA1.mono hB.size)
  have bxB := Bx.new (w) [.slice ABLow nBLow cBLow, .slice ABHigh nBHigh cBHigh] 24
  clear hA1
  go_wp2_with fail
  refine (szBox_c _ xB _ _ ((rBox_ok maxLen).keep rB (cells_below hB)) (by omega) (by omega)).mono ?_
  rintro e w3 ⟨rfl, hb2⟩
  have z4 := hb2.size
  try simp only [World.size_alloc] at z4
  have Hz4 := Lib.hid z4; clear z4
  replace hB := hB.trans (hb2.mono hB.size)
  replace bxB := bxB.below hb2
  clear hb2
  by_cases hszB : ((bulkBox xB : Nat) : Int) ≤ 1048576
  rotate_left
  · rw [lessBy_no hszB]
    go_wp2
    go_ret
    exact ⟨rfl, hB⟩
  rw [lessBy_yes hszB]
  have sB := smallBox rB (by omega)
  obtain ⟨L5, hL5⟩ : ∃ L : Int, L = 1048576 - ((bulkBox xB : Nat) : Int) := ⟨_, rfl⟩
  rw [← hL5]
  have pL5 : 0 ≤ L5 := by omega
  have uL5 : L5 ≤ 1048576 := by omega
  clear hL5
  go_wp2_with fail
  refine (szObservationS_c _ _ _ _ _ _ (rSeen.below (rObservation_ok maxLen) hB) (by omega) (by omega)).mono ?_
  rintro e w7 ⟨rfl, hb6⟩
  have z8 := hb6.size
  try simp only [World.size_alloc] at z8
  have Hz8 := Lib.hid z8; clear z8
  replace hB := hB.trans (hb6.mono hB.size)
  replace bxB := bxB.below hb6
  clear hb6
  by_cases hszSeen : ((lSeen.length : Nat) : Int) ≤ L5
  rotate_left
  · rw [lessBy_no hszSeen]
    go_wp2
    go_ret
    exact ⟨rfl, hB⟩
  rw [lessBy_yes hszSeen]
  have sSeen := smallObservationS rSeen (by omega)
  obtain ⟨L9, hL9⟩ : ∃ L : Int, L = L5 - ((lSeen.length : Nat) : Int) := ⟨_, rfl⟩
  rw [← hL9]
  have pL9 : 0 ≤ L9 := by omega
  have uL9 : L9 ≤ 1048576 := by omega
  clear hL9
  have cbxB_0 := bxB 0 _ rfl
  have cbxB_1 := bxB 1 _ rfl
  go_wp2_with fail
  refine (toBox_c _ xB _ ((rBox_ok NB).keep sB (cells_below hB))).mono ?_
  rintro e w11 ⟨csv10, fv10, rfl, ov10, frv10, hb12⟩
  have z13 := hb12.size
  try simp only [World.size_alloc] at z13
  have Hz13 := Lib.hid z13; clear z13
  replace hB := hB.trans (hb12.mono hB.size)
  replace bxB := bxB.below hb12
  clear hb12 cbxB_0 cbxB_1
  have Rv10 := (rBox_ok NB).toRep ov10
  have cbxB_0 := bxB 0 _ rfl
  have cbxB_1 := bxB 1 _ rfl
  go_wp2_with fail
  refine (toObservationS_c _ _ _ _ _ (sSeen.below (rObservation_ok NB) hB)).mono ?_
  rintro e w15 ⟨Av14, nv14, cv14, rfl, ⟨fv14, Mv14, frv14⟩, hb16⟩
  have z17 := hb16.size
  try simp only [World.size_alloc] at z17
  have Hz17 := Lib.hid z17; clear z17
  replace hB := hB.trans (hb16.mono hB.size)
  replace bxB := bxB.below hb16
  replace Rv10 := (rBox_ok NB).keep Rv10 (cells_below hb16)
  clear hb16 cbxB_0 cbxB_1
  have Rv14 := Mv14.rs (rObservation_ok NB)
  have cbxB_0 := bxB 0 _ rfl
  have cbxB_1 := bxB 1 _ rfl
  go_wp2_with fail
  refine (sLearnAll_c _ xB _ _ _ _ _ Rv10 Rv14).mono ?_
  rintro e w18 ⟨csw0, fw0, rfl, ow0, frw0, hb19⟩
  have z20 := hb19.size
  try simp only [World.size_alloc] at z20
  have Hz20 := Lib.hid z20; clear z20
  replace hB := hB.trans (hb19.mono hB.size)
  replace bxB := bxB.below hb19
  clear hb19 cbxB_0 cbxB_1
  obtain ⟨Aw0Low, nw0Low, cw0Low, Aw0High, nw0High, cw0High, rfl, _, _⟩ := rBox_rep.1 ((rBox_ok NB).toRep ow0)
  have ltw0 := Lib.hid ((rBox_ok NB).lt ow0)
  have fsw0 := frw0
  have HFw0 : Hid (∀ k ∈ fw0, _ ≤ k) := fsw0.ge
  try simp only [World.size_alloc] at HFw0
  have ndw0 := fsw0.nd; have NDw0 := Lib.hid ndw0; clear ndw0 fsw0
  have hA21 := (Below.refl w18.heap.size w18).alloc (Nat.le_refl _) (.cells #[.slice Aw0Low nw0Low cw0Low, .slice Aw0High nw0High cw0High] 28)
  replace ow0 := (rBox_ok NB).ownB ow0 hA21
  replace hB := hB.trans (hA21.mono hB.size)
  replace bxB := bxB.below hA21
  have bxw0 := Bx.new w18 [.slice Aw0Low nw0Low cw0Low, .slice Aw0High nw0High cw0High] 28
  clear hA21
  have cbxB_0 := bxB 0 _ rfl
  have cbxB_1 := bxB 1 _ rfl
  go_wp2_with fail
  refine (toBox_c _ xB _ ((rBox_ok NB).keep sB (cells_below hB))).mono ?_
  rintro e w22 ⟨csx0, fx0, rfl, ox0, frx0, hb23⟩
  have z24 := hb23.size
  try simp only [World.size_alloc] at z24
  have Hz24 := Lib.hid z24; clear z24
  replace ow0 := (rBox_ok NB).ownB ow0 hb23
  replace hB := hB.trans (hb23.mono hB.size)
  replace bxB := bxB.below hb23
  replace bxw0 := bxw0.below hb23
  clear hb23 cbxB_0 cbxB_1
  have ltx0 := Lib.hid ((rBox_ok NB).lt ox0)
  have fsx0 := frx0
  have HFx0 : Hid (∀ k ∈ fx0, _ ≤ k) := fsx0.ge
  try simp only [World.size_alloc] at HFx0
  have ndx0 := fsx0.nd; have NDx0 := Lib.hid ndx0; clear ndx0 fsx0
  obtain ⟨Ax0Low, nx0Low, cx0Low, Ax0High, nx0High, cx0High, rfl, _, _⟩ := rBox_rep.1 ((rBox_ok NB).toRep ox0)
  have hA25 := (Below.refl w22.heap.size w22).alloc (Nat.le_refl _) (.cells #[.slice Ax0Low nx0Low cx0Low, .slice Ax0High nx0High cx0High] 28)
  replace ow0 := (rBox_ok NB).ownB ow0 hA25
  replace ox0 := (rBox_ok NB).ownB ox0 hA25
  replace hB := hB.trans (hA25.mono hB.size)
  replace bxB := bxB.below hA25
  replace bxw0 := bxw0.below hA25
  have bxx0 := Bx.new w22 [.slice Ax0Low nx0Low cx0Low, .slice Ax0High nx0High cx0High] 28
  clear hA25
  go_wp2_with fail
  refine (toObservationS_c _ _ _ _ _ (sSeen.below (rObservation_ok NB) hB)).mono ?_
  rintro e w26 ⟨Ax1, nx1, cx1, rfl, ⟨fx1, ox1, frx1⟩, hb27⟩
  have z28 := hb27.size
  try simp only [World.size_alloc] at z28
  have Hz28 := Lib.hid z28; clear z28
  replace ow0 := (rBox_ok NB).ownB ow0 hb27
  replace ox0 := (rBox_ok NB).ownB ox0 hb27
  replace hB := hB.trans (hb27.mono hB.size)
  replace bxB := bxB.below hb27
  replace bxw0 := bxw0.below hb27
  replace bxx0 := bxx0.below hb27
  clear hb27
  have ltx1 := Lib.hid (ox1.lt (rObservation_ok NB))
  have fsx1 := frx1
  have HFx1 : Hid (∀ k ∈ fx1, _ ≤ k) := fsx1.ge
  try simp only [World.size_alloc] at HFx1
  have ndx1 := fsx1.nd; have NDx1 := Lib.hid ndx1; clear ndx1 fsx1
  have cbxx0_0 := bxx0 0 _ rfl
  have cbxx0_1 := bxx0 1 _ rfl
  go_wp2_with fail
  refine (iLearnAll_c _ xB _ _ _ _ _ ((rBox_ok NB).toRep ox0) (ox1.rs (rObservation_ok NB))).mono ?_
  rintro e w29 ⟨csg0, fg0, rfl, og0, frg0, hb30⟩
  have z31 := hb30.size
  try simp only [World.size_alloc] at z31
  have Hz31 := Lib.hid z31; clear z31
  replace ow0 := (rBox_ok NB).ownB ow0 hb30
  replace ox0 := (rBox_ok NB).ownB ox0 hb30
  replace ox1 := ox1.belowS (rObservation_ok NB) hb30
  replace hB := hB.trans (hb30.mono hB.size)
  replace bxB := bxB.below hb30
  replace bxw0 := bxw0.below hb30
  replace bxx0 := bxx0.below hb30
  clear hb30 cbxx0_0 cbxx0_1
  obtain ⟨Ag0Low, ng0Low, cg0Low, Ag0High, ng0High, cg0High, rfl, _, _⟩ := rBox_rep.1 ((rBox_ok NB).toRep og0)
  have ltg0 := Lib.hid ((rBox_ok NB).lt og0)
  have fsg0 := frg0
  have HFg0 : Hid (∀ k ∈ fg0, _ ≤ k) := fsg0.ge
  try simp only [World.size_alloc] at HFg0
  have ndg0 := fsg0.nd; have NDg0 := Lib.hid ndg0; clear ndg0 fsg0
  have hA32 := (Below.refl w29.heap.size w29).alloc (Nat.le_refl _) (.cells #[.slice Ag0Low ng0Low cg0Low, .slice Ag0High ng0High cg0High] 28)
  replace ow0 := (rBox_ok NB).ownB ow0 hA32
  replace ox0 := (rBox_ok NB).ownB ox0 hA32
  replace ox1 := ox1.belowS (rObservation_ok NB) hA32
  replace og0 := (rBox_ok NB).ownB og0 hA32
  replace hB := hB.trans (hA32.mono hB.size)
  replace bxB := bxB.below hA32
  replace bxw0 := bxw0.below hA32
  replace bxx0 := bxx0.below hA32
  have bxg0 := Bx.new w29 [.slice Ag0Low ng0Low cg0Low, .slice Ag0High ng0High cg0High] 28
  clear hA32
  have hnei : ∀ v : Int, (v != v) = false := fun v => by simp
  have hneb : ∀ v : Bool, (v == v) = true := fun v => by simp
  have cbxw0_0 := bxw0 0 _ rfl
  have cbxw0_1 := bxw0 1 _ rfl
  have cbxg0_0 := bxg0 0 _ rfl
  have cbxg0_1 := bxg0 1 _ rfl
  go_wp2_with fail
  refine (eqBox_c _ _ ((learnAll xB lSeen).1) ((learnAll xB lSeen).1) _ ((rBox_ok NB).toRep og0) ((rBox_ok NB).toRep ow0)).mono ?_
  rintro e w33 ⟨rfl, hb34⟩
  have z35 := hb34.size
  try simp only [World.size_alloc] at z35
  have Hz35 := Lib.hid z35; clear z35
  replace ow0 := (rBox_ok NB).ownB ow0 hb34
  replace ox0 := (rBox_ok NB).ownB ox0 hb34
  replace ox1 := ox1.belowS (rObservation_ok NB) hb34
  replace og0 := (rBox_ok NB).ownB og0 hb34
  replace hB := hB.trans (hb34.mono hB.size)
  replace bxB := bxB.below hb34
  replace bxw0 := bxw0.below hb34
  replace bxx0 := bxx0.below hb34
  replace bxg0 := bxg0.below hb34
  clear hb34 cbxw0_0 cbxw0_1 cbxg0_0 cbxg0_1
  have hdr36 : decide (((learnAll xB lSeen).1) = ((learnAll xB lSeen).1)) = true := by simp
  go_wp2_with fail
  have SS37 : ∀ w', Below w33.heap.size w33 w' → (Below w33.heap.size w33 w' ∧ w'.cell? ⟨w.heap.size, 0, none⟩ = some (.slice ABLow nBLow cBLow) ∧ w'.cell? ⟨w.heap.size, 1, none⟩ = some (.slice ABHigh nBHigh cBHigh) ∧ w'.cell? ⟨w22.heap.size, 0, none⟩ = some (.slice Ax0Low nx0Low cx0Low) ∧ w'.cell? ⟨w22.heap.size, 1, none⟩ = some (.slice Ax0High nx0High cx0High)) := fun w' hb => ⟨hb, bxB.below hb 0 _ rfl, bxB.below hb 1 _ rfl, bxx0.below hb 0 _ rfl, bxx0.below hb 1 _ rfl⟩
  have HSS37 := Lib.hid SS37; clear SS37
  have tok42 : True := trivial
  have tok46 : True := trivial
  go_region_held3 (fun w' => Below w33.heap.size w33 w' ∧ w'.cell? ⟨w.heap.size, 0, none⟩ = some (.slice ABLow nBLow cBLow) ∧ w'.cell? ⟨w.heap.size, 1, none⟩ = some (.slice ABHigh nBHigh cBHigh) ∧ w'.cell? ⟨w22.heap.size, 0, none⟩ = some (.slice Ax0Low nx0Low cx0Low) ∧ w'.cell? ⟨w22.heap.size, 1, none⟩ = some (.slice Ax0High nx0High cx0High)) (first | exact HSS37.out _ (Below.refl _ _).drew | exact HSS37.out _ (by assumption)) (first | (go_at_call 18; have _t := tok42; refine (toBox_c _ xB _ ((rBox_ok NB).keep sB (cells_below (hB.trans (Below.mono ((Below.refl w33.heap.size w33).drew) hB.size))))).mono ?_; rintro e w39 ⟨csv38, fv38, rfl, ov38, frv38, hb40⟩; have hC41 : Below w33.heap.size w33 w39 := Below.trans ((Below.refl w33.heap.size w33).drew) (hb40.mono ((Below.refl w33.heap.size w33).drew).size); have Rv38 := (rBox_ok NB).toRep ov38; clear tok42) | (go_at_call 21; have _t := tok46; refine (eqBox_c _ _ xB xB _ ((rBox_ok NB).keep ((rBox_ok NB).toRep ox0) (cells_below (hC41))) Rv38).mono ?_; rintro e w43 ⟨rfl, hb44⟩; have hC45 : Below w33.heap.size w33 w43 := Below.trans (hC41) (hb44.mono (hC41).size); clear tok46))
  have z47 := hC45.size
  try simp only [World.size_alloc] at z47
  have Hz47 := Lib.hid z47; clear z47
  replace ow0 := (rBox_ok NB).ownB ow0 hC45
  replace ox0 := (rBox_ok NB).ownB ox0 hC45
  replace ox1 := ox1.belowS (rObservation_ok NB) hC45
  replace og0 := (rBox_ok NB).ownB og0 hC45
  replace hB := hB.trans (hC45.mono hB.size)
  replace bxB := bxB.below hC45
  replace bxw0 := bxw0.below hC45
  replace bxx0 := bxx0.below hC45
  replace bxg0 := bxg0.below hC45
  clear HSS37 hC45
  have hdx0 : decide (xB = xB) = true := by simp
  go_wp2_with fail
  refine (toObservationS_c _ _ _ _ _ (sSeen.below (rObservation_ok NB) hB)).mono ?_
  rintro e w48 ⟨Av50, nv50, cv50, rfl, ⟨fv50, Mv50, frv50⟩, hb49⟩
  have z51 := hb49.size
  try simp only [World.size_alloc] at z51
  have Hz51 := Lib.hid z51; clear z51
  replace ow0 := (rBox_ok NB).ownB ow0 hb49
  replace ox0 := (rBox_ok NB).ownB ox0 hb49
  replace ox1 := ox1.belowS (rObservation_ok NB) hb49
  replace og0 := (rBox_ok NB).ownB og0 hb49
  replace hB := hB.trans (hb49.mono hB.size)
  replace bxB := bxB.below hb49
  replace bxw0 := bxw0.below hb49
  replace bxx0 := bxx0.below hb49
  replace bxg0 := bxg0.below hb49
  clear hb49
  have Rv50 := Mv50.rs (rObservation_ok NB)
  go_wp2_with fail
  refine (eqObservationS_b _ _ _ _ _ _ _ _ _ (ox1.rs (rObservation_ok NB)) Rv50).mono ?_
  rintro e w52 ⟨rfl, hb53⟩
  have z54 := hb53.size
  try simp only [World.size_alloc] at z54
  have Hz54 := Lib.hid z54; clear z54
  replace ow0 := (rBox_ok NB).ownB ow0 hb53
  replace ox0 := (rBox_ok NB).ownB ox0 hb53
  replace ox1 := ox1.belowS (rObservation_ok NB) hb53
  replace og0 := (rBox_ok NB).ownB og0 hb53
  replace hB := hB.trans (hb53.mono hB.size)
  replace bxB := bxB.below hb53
  replace bxw0 := bxw0.below hb53
  replace bxx0 := bxx0.below hb53
  replace bxg0 := bxg0.below hb53
  clear hb53
  have hdx1 : decide (lSeen = lSeen) = true := by simp
  have hcbr : Hid ((cnt_Box ((learnAll xB lSeen).1)) ≤ 1099511627776) := (by show _ ≤ _; exact (by have e := cnto_Box og0; omega))
  have cbxx0_0 := bxx0 0 _ rfl
  have cbxx0_1 := bxx0 1 _ rfl
  go_wp2_with fail
  have hcbw55 : (cnt_Box (xB)) ≤ 1099511627776 := (by have e := cntb_Box xB; omega)
  refine (markBox_m _ (xB) 1 _ fx0 ox0 NDx0.out (by omega) (by omega)).mono ?_
  rintro e w55 ⟨rfl, omw55, hc56⟩
  replace hB := hB.trans (hc56.toBelow hB.size (fun k hk => by have := HFx0.out k hk; have := Hz4.out; have := Hz8.out; have := Hz13.out; have := Hz17.out; have := Hz20.out; have := Hz24.out; have := Hz28.out; have := Hz31.out; have := Hz35.out; have := Hz47.out; have := Hz51.out; have := Hz54.out; omega))
  replace bxB := bxB.chg hc56 (fun hk => by have := HFx0.out _ hk; have := ltx0.out _ hk; have := Hz4.out; have := Hz8.out; have := Hz13.out; have := Hz17.out; have := Hz20.out; have := Hz24.out; have := Hz28.out; have := Hz31.out; have := Hz35.out; have := Hz47.out; have := Hz51.out; have := Hz54.out; omega)
  replace bxw0 := bxw0.chg hc56 (fun hk => by have := HFx0.out _ hk; have := ltx0.out _ hk; have := Hz4.out; have := Hz8.out; have := Hz13.out; have := Hz17.out; have := Hz20.out; have := Hz24.out; have := Hz28.out; have := Hz31.out; have := Hz35.out; have := Hz47.out; have := Hz51.out; have := Hz54.out; omega)
  replace bxx0 := bxx0.chg hc56 (fun hk => by have := HFx0.out _ hk; have := ltx0.out _ hk; have := Hz4.out; have := Hz8.out; have := Hz13.out; have := Hz17.out; have := Hz20.out; have := Hz24.out; have := Hz28.out; have := Hz31.out; have := Hz35.out; have := Hz47.out; have := Hz51.out; have := Hz54.out; omega)
  replace bxg0 := bxg0.chg hc56 (fun hk => by have := HFx0.out _ hk; have := ltx0.out _ hk; have := Hz4.out; have := Hz8.out; have := Hz13.out; have := Hz17.out; have := Hz20.out; have := Hz24.out; have := Hz28.out; have := Hz31.out; have := Hz35.out; have := Hz47.out; have := Hz51.out; have := Hz54.out; omega)
  replace ow0 := (rBox_ok NB).ownC ow0 hc56 (fun k hk hk' => by have := HFw0.out k hk; have := ltw0.out k hk; have := HFx0.out k hk'; have := ltx0.out k hk'; have := Hz4.out; have := Hz8.out; have := Hz13.out; have := Hz17.out; have := Hz20.out; have := Hz24.out; have := Hz28.out; have := Hz31.out; have := Hz35.out; have := Hz47.out; have := Hz51.out; have := Hz54.out; omega)
  replace ox1 := ox1.chg (rObservation_ok NB) hc56 (fun k hk hk' => by have := HFx1.out k hk; have := ltx1.out k hk; have := HFx0.out k hk'; have := ltx0.out k hk'; have := Hz4.out; have := Hz8.out; have := Hz13.out; have := Hz17.out; have := Hz20.out; have := Hz24.out; have := Hz28.out; have := Hz31.out; have := Hz35.out; have := Hz47.out; have := Hz51.out; have := Hz54.out; omega)
  replace og0 := (rBox_ok NB).ownC og0 hc56 (fun k hk hk' => by have := HFg0.out k hk; have := ltg0.out k hk; have := HFx0.out k hk'; have := ltx0.out k hk'; have := Hz4.out; have := Hz8.out; have := Hz13.out; have := Hz17.out; have := Hz20.out; have := Hz24.out; have := Hz28.out; have := Hz31.out; have := Hz35.out; have := Hz47.out; have := Hz51.out; have := Hz54.out; omega)
  clear ox0; have ox0 := omw55; clear omw55
  have Hz57 := Lib.hid hc56.size
  try simp only [World.size_alloc] at Hz57
  clear hc56 cbxx0_0 cbxx0_1
  obtain ⟨kk58, hkk58⟩ : ∃ q : Int, q = 1 + ((cnt_Box (xB)) : Nat) := ⟨_, rfl⟩
  rw [← hkk58]
  have pkk58 : 0 ≤ kk58 := by omega
  have ukk58 : kk58 ≤ 2199023255552 := by omega
  have Hkkk58 := Lib.hid hkk58; clear hkk58 hcbw55
  go_wp2_with fail
  have hcbw59 : (cnt_ObservationS (lSeen)) ≤ 1099511627776 := (by have e := cntb_ObservationS lSeen; omega)
  refine (markObservationS_m _ _ _ _ kk58 _ _ ox1 NDx1.out (by omega) (by omega)).mono ?_
  rintro e w59 ⟨rfl, omw59, hc60⟩
  replace hB := hB.trans (hc60.toBelow hB.size (fun k hk => by have := HFx1.out k hk; have := Hz4.out; have := Hz8.out; have := Hz13.out; have := Hz17.out; have := Hz20.out; have := Hz24.out; have := Hz28.out; have := Hz31.out; have := Hz35.out; have := Hz47.out; have := Hz51.out; have := Hz54.out; have := Hz57.out; omega))
  replace bxB := bxB.chg hc60 (fun hk => by have := HFx1.out _ hk; have := ltx1.out _ hk; have := Hz4.out; have := Hz8.out; have := Hz13.out; have := Hz17.out; have := Hz20.out; have := Hz24.out; have := Hz28.out; have := Hz31.out; have := Hz35.out; have := Hz47.out; have := Hz51.out; have := Hz54.out; have := Hz57.out; omega)
  replace bxw0 := bxw0.chg hc60 (fun hk => by have := HFx1.out _ hk; have := ltx1.out _ hk; have := Hz4.out; have := Hz8.out; have := Hz13.out; have := Hz17.out; have := Hz20.out; have := Hz24.out; have := Hz28.out; have := Hz31.out; have := Hz35.out; have := Hz47.out; have := Hz51.out; have := Hz54.out; have := Hz57.out; omega)
  replace bxx0 := bxx0.chg hc60 (fun hk => by have := HFx1.out _ hk; have := ltx1.out _ hk; have := Hz4.out; have := Hz8.out; have := Hz13.out; have := Hz17.out; have := Hz20.out; have := Hz24.out; have := Hz28.out; have := Hz31.out; have := Hz35.out; have := Hz47.out; have := Hz51.out; have := Hz54.out; have := Hz57.out; omega)
  replace bxg0 := bxg0.chg hc60 (fun hk => by have := HFx1.out _ hk; have := ltx1.out _ hk; have := Hz4.out; have := Hz8.out; have := Hz13.out; have := Hz17.out; have := Hz20.out; have := Hz24.out; have := Hz28.out; have := Hz31.out; have := Hz35.out; have := Hz47.out; have := Hz51.out; have := Hz54.out; have := Hz57.out; omega)
  replace ow0 := (rBox_ok NB).ownC ow0 hc60 (fun k hk hk' => by have := HFw0.out k hk; have := ltw0.out k hk; have := HFx1.out k hk'; have := ltx1.out k hk'; have := Hz4.out; have := Hz8.out; have := Hz13.out; have := Hz17.out; have := Hz20.out; have := Hz24.out; have := Hz28.out; have := Hz31.out; have := Hz35.out; have := Hz47.out; have := Hz51.out; have := Hz54.out; have := Hz57.out; omega)
  replace ox0 := (rBox_ok NB).ownC ox0 hc60 (fun k hk hk' => by have := HFx0.out k hk; have := ltx0.out k hk; have := HFx1.out k hk'; have := ltx1.out k hk'; have := Hz4.out; have := Hz8.out; have := Hz13.out; have := Hz17.out; have := Hz20.out; have := Hz24.out; have := Hz28.out; have := Hz31.out; have := Hz35.out; have := Hz47.out; have := Hz51.out; have := Hz54.out; have := Hz57.out; omega)
  replace og0 := (rBox_ok NB).ownC og0 hc60 (fun k hk hk' => by have := HFg0.out k hk; have := ltg0.out k hk; have := HFx1.out k hk'; have := ltx1.out k hk'; have := Hz4.out; have := Hz8.out; have := Hz13.out; have := Hz17.out; have := Hz20.out; have := Hz24.out; have := Hz28.out; have := Hz31.out; have := Hz35.out; have := Hz47.out; have := Hz51.out; have := Hz54.out; have := Hz57.out; omega)
  clear ox1; have ox1 := omw59; clear omw59
  have Hz61 := Lib.hid hc60.size
  try simp only [World.size_alloc] at Hz61
  clear hc60
  obtain ⟨kk62, hkk62⟩ : ∃ q : Int, q = kk58 + ((cnt_ObservationS (lSeen)) : Nat) := ⟨_, rfl⟩
  rw [← hkk62]
  have pkk62 : 0 ≤ kk62 := by omega
  have ukk62 : kk62 ≤ 4398046511104 := by omega
  have Hkkk62 := Lib.hid hkk62; clear hkk62 hcbw59
  have cbxw0_0 := bxw0 0 _ rfl
  have cbxw0_1 := bxw0 1 _ rfl
  have cbxg0_0 := bxg0 0 _ rfl
  have cbxg0_1 := bxg0 1 _ rfl
  go_wp2_with fail
  refine (eqBox_c _ _ ((learnAll xB lSeen).1) ((learnAll xB lSeen).1) _ ((rBox_ok NB).toRep og0) ((rBox_ok NB).toRep ow0)).mono ?_
  rintro e w63 ⟨rfl, hb64⟩
  have z65 := hb64.size
  try simp only [World.size_alloc] at z65
  have Hz65 := Lib.hid z65; clear z65
  replace ow0 := (rBox_ok NB).ownB ow0 hb64
  replace ox0 := (rBox_ok NB).ownB ox0 hb64
  replace ox1 := ox1.belowS (rObservation_ok NB) hb64
  replace og0 := (rBox_ok NB).ownB og0 hb64
  replace hB := hB.trans (hb64.mono hB.size)
  replace bxB := bxB.below hb64
  replace bxw0 := bxw0.below hb64
  replace bxx0 := bxx0.below hb64
  replace bxg0 := bxg0.below hb64
  clear hb64 cbxw0_0 cbxw0_1 cbxg0_0 cbxg0_1
  have hdr66 : decide (((learnAll xB lSeen).1) = ((learnAll xB lSeen).1)) = true := by simp
  have cbxg0_0 := bxg0 0 _ rfl
  have cbxg0_1 := bxg0 1 _ rfl
  go_wp2_with fail
  have hcbw67 : (cnt_Box ((learnAll xB lSeen).1)) ≤ 1099511627776 := hcbr.out
  refine (markBox_m _ ((learnAll xB lSeen).1) 1 _ fg0 og0 NDg0.out (by omega) (by omega)).mono ?_
  rintro e w67 ⟨rfl, omw67, hc68⟩
  replace hB := hB.trans (hc68.toBelow hB.size (fun k hk => by have := HFg0.out k hk; have := Hz4.out; have := Hz8.out; have := Hz13.out; have := Hz17.out; have := Hz20.out; have := Hz24.out; have := Hz28.out; have := Hz31.out; have := Hz35.out; have := Hz47.out; have := Hz51.out; have := Hz54.out; have := Hz57.out; have := Hz61.out; have := Hz65.out; omega))
  replace bxB := bxB.chg hc68 (fun hk => by have := HFg0.out _ hk; have := ltg0.out _ hk; have := Hz4.out; have := Hz8.out; have := Hz13.out; have := Hz17.out; have := Hz20.out; have := Hz24.out; have := Hz28.out; have := Hz31.out; have := Hz35.out; have := Hz47.out; have := Hz51.out; have := Hz54.out; have := Hz57.out; have := Hz61.out; have := Hz65.out; omega)
  replace bxw0 := bxw0.chg hc68 (fun hk => by have := HFg0.out _ hk; have := ltg0.out _ hk; have := Hz4.out; have := Hz8.out; have := Hz13.out; have := Hz17.out; have := Hz20.out; have := Hz24.out; have := Hz28.out; have := Hz31.out; have := Hz35.out; have := Hz47.out; have := Hz51.out; have := Hz54.out; have := Hz57.out; have := Hz61.out; have := Hz65.out; omega)
  replace bxx0 := bxx0.chg hc68 (fun hk => by have := HFg0.out _ hk; have := ltg0.out _ hk; have := Hz4.out; have := Hz8.out; have := Hz13.out; have := Hz17.out; have := Hz20.out; have := Hz24.out; have := Hz28.out; have := Hz31.out; have := Hz35.out; have := Hz47.out; have := Hz51.out; have := Hz54.out; have := Hz57.out; have := Hz61.out; have := Hz65.out; omega)
  replace bxg0 := bxg0.chg hc68 (fun hk => by have := HFg0.out _ hk; have := ltg0.out _ hk; have := Hz4.out; have := Hz8.out; have := Hz13.out; have := Hz17.out; have := Hz20.out; have := Hz24.out; have := Hz28.out; have := Hz31.out; have := Hz35.out; have := Hz47.out; have := Hz51.out; have := Hz54.out; have := Hz57.out; have := Hz61.out; have := Hz65.out; omega)
  replace ow0 := (rBox_ok NB).ownC ow0 hc68 (fun k hk hk' => by have := HFw0.out k hk; have := ltw0.out k hk; have := HFg0.out k hk'; have := ltg0.out k hk'; have := Hz4.out; have := Hz8.out; have := Hz13.out; have := Hz17.out; have := Hz20.out; have := Hz24.out; have := Hz28.out; have := Hz31.out; have := Hz35.out; have := Hz47.out; have := Hz51.out; have := Hz54.out; have := Hz57.out; have := Hz61.out; have := Hz65.out; omega)
  replace ox0 := (rBox_ok NB).ownC ox0 hc68 (fun k hk hk' => by have := HFx0.out k hk; have := ltx0.out k hk; have := HFg0.out k hk'; have := ltg0.out k hk'; have := Hz4.out; have := Hz8.out; have := Hz13.out; have := Hz17.out; have := Hz20.out; have := Hz24.out; have := Hz28.out; have := Hz31.out; have := Hz35.out; have := Hz47.out; have := Hz51.out; have := Hz54.out; have := Hz57.out; have := Hz61.out; have := Hz65.out; omega)
  replace ox1 := ox1.chg (rObservation_ok NB) hc68 (fun k hk hk' => by have := HFx1.out k hk; have := ltx1.out k hk; have := HFg0.out k hk'; have := ltg0.out k hk'; have := Hz4.out; have := Hz8.out; have := Hz13.out; have := Hz17.out; have := Hz20.out; have := Hz24.out; have := Hz28.out; have := Hz31.out; have := Hz35.out; have := Hz47.out; have := Hz51.out; have := Hz54.out; have := Hz57.out; have := Hz61.out; have := Hz65.out; omega)
  clear og0; have og0 := omw67; clear omw67
  have Hz69 := Lib.hid hc68.size
  try simp only [World.size_alloc] at Hz69
  clear hc68 cbxg0_0 cbxg0_1
  obtain ⟨kk70, hkk70⟩ : ∃ q : Int, q = 1 + ((cnt_Box ((learnAll xB lSeen).1)) : Nat) := ⟨_, rfl⟩
  rw [← hkk70]
  have pkk70 : 0 ≤ kk70 := by omega
  have ukk70 : kk70 ≤ 2199023255552 := by omega
  have Hkkk70 := Lib.hid hkk70; clear hkk70 hcbw67
  have cbxg0_0 := bxg0 0 _ rfl
  have cbxg0_1 := bxg0 1 _ rfl
  go_wp2_with fail
  have hcbw71 : (cnt_Box ((learnAll xB lSeen).1)) ≤ 1099511627776 := hcbr.out
  refine (heldBox_m _ ((learnAll xB lSeen).1) 1 _ ((rBox_ok NB).toRep og0) (by omega) (by omega)).mono ?_
  rintro e w71 ⟨rfl, hb72⟩
  have z73 := hb72.size
  try simp only [World.size_alloc] at z73
  have Hz73 := Lib.hid z73; clear z73
  replace ow0 := (rBox_ok NB).ownB ow0 hb72
  replace ox0 := (rBox_ok NB).ownB ox0 hb72
  replace ox1 := ox1.belowS (rObservation_ok NB) hb72
  replace og0 := (rBox_ok NB).ownB og0 hb72
  replace hB := hB.trans (hb72.mono hB.size)
  replace bxB := bxB.below hb72
  replace bxw0 := bxw0.below hb72
  replace bxx0 := bxx0.below hb72
  replace bxg0 := bxg0.below hb72
  clear hb72 hcbw71 cbxg0_0 cbxg0_1
  rw [← Hkkk70.out]
  have cbxB_0 := bxB 0 _ rfl
  have cbxB_1 := bxB 1 _ rfl
  go_wp2_with fail
  refine (toBox_c _ xB _ ((rBox_ok NB).keep sB (cells_below hB))).mono ?_
  rintro e w75 ⟨csv74, fv74, rfl, ov74, frv74, hb76⟩
  have z77 := hb76.size
  try simp only [World.size_alloc] at z77
  have Hz77 := Lib.hid z77; clear z77
  replace ow0 := (rBox_ok NB).ownB ow0 hb76
  replace ox0 := (rBox_ok NB).ownB ox0 hb76
  replace ox1 := ox1.belowS (rObservation_ok NB) hb76
  replace og0 := (rBox_ok NB).ownB og0 hb76
  replace hB := hB.trans (hb76.mono hB.size)
  replace bxB := bxB.below hb76
  replace bxw0 := bxw0.below hb76
  replace bxx0 := bxx0.below hb76
  replace bxg0 := bxg0.below hb76
  clear hb76 cbxB_0 cbxB_1
  have Rv74 := (rBox_ok NB).toRep ov74
  have cbxB_0 := bxB 0 _ rfl
  have cbxB_1 := bxB 1 _ rfl
  go_wp2_with fail
  refine (toObservationS_c _ _ _ _ _ (sSeen.below (rObservation_ok NB) hB)).mono ?_
  rintro e w79 ⟨Av78, nv78, cv78, rfl, ⟨fv78, Mv78, frv78⟩, hb80⟩
  have z81 := hb80.size
  try simp only [World.size_alloc] at z81
  have Hz81 := Lib.hid z81; clear z81
  replace ow0 := (rBox_ok NB).ownB ow0 hb80
  replace ox0 := (rBox_ok NB).ownB ox0 hb80
  replace ox1 := ox1.belowS (rObservation_ok NB) hb80
  replace og0 := (rBox_ok NB).ownB og0 hb80
  replace hB := hB.trans (hb80.mono hB.size)
  replace bxB := bxB.below hb80
  replace bxw0 := bxw0.below hb80
  replace bxx0 := bxx0.below hb80
  replace bxg0 := bxg0.below hb80
  replace Rv74 := (rBox_ok NB).keep Rv74 (cells_below hb80)
  clear hb80 cbxB_0 cbxB_1
  have Rv78 := Mv78.rs (rObservation_ok NB)
  have cbxB_0 := bxB 0 _ rfl
  have cbxB_1 := bxB 1 _ rfl
  go_wp2_with fail
  refine (iLearnAll_c _ xB _ _ _ _ _ Rv74 Rv78).mono ?_
  rintro e w82 ⟨csh0, fh0, rfl, oh0, frh0, hb83⟩
  have z84 := hb83.size
  try simp only [World.size_alloc] at z84
  have Hz84 := Lib.hid z84; clear z84
  replace ow0 := (rBox_ok NB).ownB ow0 hb83
  replace ox0 := (rBox_ok NB).ownB ox0 hb83
  replace ox1 := ox1.belowS (rObservation_ok NB) hb83
  replace og0 := (rBox_ok NB).ownB og0 hb83
  replace hB := hB.trans (hb83.mono hB.size)
  replace bxB := bxB.below hb83
  replace bxw0 := bxw0.below hb83
  replace bxx0 := bxx0.below hb83
  replace bxg0 := bxg0.below hb83
  clear hb83 cbxB_0 cbxB_1
  obtain ⟨Ah0Low, nh0Low, ch0Low, Ah0High, nh0High, ch0High, rfl, _, _⟩ := rBox_rep.1 ((rBox_ok NB).toRep oh0)
  have lth0 := Lib.hid ((rBox_ok NB).lt oh0)
  have fsh0 := frh0
  have HFh0 : Hid (∀ k ∈ fh0, _ ≤ k) := fsh0.ge
  try simp only [World.size_alloc] at HFh0
  have ndh0 := fsh0.nd; have NDh0 := Lib.hid ndh0; clear ndh0 fsh0
  have hA85 := (Below.refl w82.heap.size w82).alloc (Nat.le_refl _) (.cells #[.slice Ah0Low nh0Low ch0Low, .slice Ah0High nh0High ch0High] 28)
  replace ow0 := (rBox_ok NB).ownB ow0 hA85
  replace ox0 := (rBox_ok NB).ownB ox0 hA85
  replace ox1 := ox1.belowS (rObservation_ok NB) hA85
  replace og0 := (rBox_ok NB).ownB og0 hA85
  replace oh0 := (rBox_ok NB).ownB oh0 hA85
  replace hB := hB.trans (hA85.mono hB.size)
  replace bxB := bxB.below hA85
  replace bxw0 := bxw0.below hA85
  replace bxx0 := bxx0.below hA85
  replace bxg0 := bxg0.below hA85
  have bxh0 := Bx.new w82 [.slice Ah0Low nh0Low ch0Low, .slice Ah0High nh0High ch0High] 28
  clear hA85
  have cbxw0_0 := bxw0 0 _ rfl
  have cbxw0_1 := bxw0 1 _ rfl
  have cbxh0_0 := bxh0 0 _ rfl
  have cbxh0_1 := bxh0 1 _ rfl
  go_wp2_with fail
  refine (eqBox_c _ _ ((learnAll xB lSeen).1) ((learnAll xB lSeen).1) _ ((rBox_ok NB).toRep oh0) ((rBox_ok NB).toRep ow0)).mono ?_
  rintro e w86 ⟨rfl, hb87⟩
  have z88 := hb87.size
  try simp only [World.size_alloc] at z88
  have Hz88 := Lib.hid z88; clear z88
  replace ow0 := (rBox_ok NB).ownB ow0 hb87
  replace ox0 := (rBox_ok NB).ownB ox0 hb87
  replace ox1 := ox1.belowS (rObservation_ok NB) hb87
  replace og0 := (rBox_ok NB).ownB og0 hb87
  replace oh0 := (rBox_ok NB).ownB oh0 hb87
  replace hB := hB.trans (hb87.mono hB.size)
  replace bxB := bxB.below hb87
  replace bxw0 := bxw0.below hb87
  replace bxx0 := bxx0.below hb87
  replace bxg0 := bxg0.below hb87
  replace bxh0 := bxh0.below hb87
  clear hb87 cbxw0_0 cbxw0_1 cbxh0_0 cbxh0_1
  have hdr89 : decide (((learnAll xB lSeen).1) = ((learnAll xB lSeen).1)) = true := by simp
  have cbxg0_0 := bxg0 0 _ rfl
  have cbxg0_1 := bxg0 1 _ rfl
  go_wp2_with fail
  have hcbw90 : (cnt_Box ((learnAll xB lSeen).1)) ≤ 1099511627776 := hcbr.out
  refine (heldBox_m _ ((learnAll xB lSeen).1) 1 _ ((rBox_ok NB).toRep og0) (by omega) (by omega)).mono ?_
  rintro e w90 ⟨rfl, hb91⟩
  have z92 := hb91.size
  try simp only [World.size_alloc] at z92
  have Hz92 := Lib.hid z92; clear z92
  replace ow0 := (rBox_ok NB).ownB ow0 hb91
  replace ox0 := (rBox_ok NB).ownB ox0 hb91
  replace ox1 := ox1.belowS (rObservation_ok NB) hb91
  replace og0 := (rBox_ok NB).ownB og0 hb91
  replace oh0 := (rBox_ok NB).ownB oh0 hb91
  replace hB := hB.trans (hb91.mono hB.size)
  replace bxB := bxB.below hb91
  replace bxw0 := bxw0.below hb91
  replace bxx0 := bxx0.below hb91
  replace bxg0 := bxg0.below hb91
  replace bxh0 := bxh0.below hb91
  clear hb91 hcbw90 cbxg0_0 cbxg0_1
  rw [← Hkkk70.out]
  go_wp2
  go_ret
  exact ⟨rfl, hB⟩

set_option maxRecDepth 100000 in
theorem lifted (os : Os) (started : os.Started) (H : Type) (enc : TypeId × Value → H) :
    ReturnsInHanded {} Try.checked os 3 .any (Rows.fnExactLearnAllSpec.pre6 enc Try.prog Try.f3 Rows.fnExactLearnAllRow.domain false) (Rows.fnExactLearnAllSpec.post enc Try.prog Try.f3 false true false false) := by
  refine returnsInHanded_of_change (C := Try.checked) own started (by kernel_rfl) Try.func3
    (ChangeSpec.witness6 (enc := enc) (C := Try.checked) false ⟨#[], #[.agg #[.slice none 0 0, .slice none 0 0], .slice none 0 0], []⟩ 8 (by kernel_rfl) (by kernel_rfl) (by kernel_rfl) (by kernel_rfl)) ?_
  intro W base args ds gs before hval0 hW hcnd _
  have hval : ∀ (j : Nat) t v, Try.f3.params[j]? = some t → args[j]? = some v → Value.okWide Try.prog W .any base t v := hval0
  have hW' := hW
  obtain ⟨p, q, hA0, hV, rfl, hfz, hnd⟩ := hW
  have hA : DataW.TrodAll enc Try.prog W 0 (fun _ => true) true Try.f3.params.toList args.toList ds p := hA0
  rw [Try.params3] at hA hval
  obtain ⟨v0, vs0, d0, ds0, p0, q0, hargs, rfl, rfl, h0, r0⟩ := trodAll_cons hA
  obtain ⟨v1, vs1, d1, ds1, p1, q1, rfl, rfl, rfl, h1, r1⟩ := trodAll_cons r0
  obtain ⟨rfl, rfl, rfl⟩ := trodAll_nil r1
  obtain rfl : args = #[v0, v1] := by cases args; simp_all
  obtain ⟨rfl, rfl⟩ := trodVars_none hV
  obtain ⟨ca0, rfl, _⟩ := okWide_struct Try.underlying24 (hval 0 24 v0 rfl rfl)
  obtain ⟨cl0⟩ := ca0
  have k0 := h0
  have lt0 : ∀ x ∈ p0, x.block < W.heap.size := by obtain ⟨m, hm⟩ := k0; exact DataW.trod_lt m _ _ _ hm
  obtain ⟨x0, g0⟩ : ∃ x, (rBox maxLen).rep W cl0 x := by
    obtain ⟨fuel, hf⟩ := h0
    exact opensBox hf
  obtain ⟨A1, n1, c1, rfl⟩ := okWide_slice Try.underlying25 (hval 1 25 v1 rfl rfl)
  have k1 := h1
  have lt1 : ∀ x ∈ p1, x.block < W.heap.size := by obtain ⟨m, hm⟩ := k1; exact DataW.trod_lt m _ _ _ hm
  obtain ⟨l1, g1⟩ : ∃ l, RS maxLen (rObservation maxLen) W A1 n1 c1 l := by
    obtain ⟨fuel, hf⟩ := h1
    obtain ⟨l, A, n, c, e, hr⟩ := (opens_slice (rObservation_ok maxLen) Try.underlying25 (by kernel_rfl) opensObservation) hf
    simp [Value.cells] at e
    obtain ⟨rfl, rfl, rfl⟩ := e
    exact ⟨l, hr⟩
  clear hA0 hval0
  refine (walk cl0 x0 A1 n1 c1 l1 W g0 g1).mono fun e W' ⟨he, bel⟩ => ?_
  subst he
  exact ⟨_, rfl, _, _, _, [], _, [], hW', trodAll_mk1 (shut_bool Try.underlying4 _), (trodAll_cons_mk (Below.trod laidOut (by kernel_rfl) (of_decide_eq_true (by kernel_rfl)) k0 bel lt0) (trodAll_cons_mk (Below.trod laidOut (by kernel_rfl) (of_decide_eq_true (by kernel_rfl)) k1 bel lt1) trodAll_mk0)), rfl, bel.frame _, fun h => by cases h⟩

theorem over : Rows.fnExactLearnAllRow.holds Try.pinned (OpenSpec.ofChange Rows.fnExactLearnAllSpec) :=
  OpenClaim.holds_of_wide 3 Try.f3 rfl rfl rfl rfl rfl rfl rfl ⟨rfl, rfl, rfl, rfl, rfl⟩ rfl rfl rfl rfl rfl (by kernel_rfl) Try.func3 (by kernel_rfl)
    (of_decide_eq_true (by kernel_rfl)) (by unfold Func.isWrapper; first | (rw [if_pos (by decide +kernel)]; kernel_rfl) | (rw [if_neg (by decide +kernel)]; exact ⟨rfl, rfl⟩))
    (fun os started H enc _ => lifted os started H enc)

theorem proved : Rows.FnExactLearnAllSaid := over
#print axioms proved
end Go.Proofs.Ytobildkjikhdiaa.fnExactLearnAll
