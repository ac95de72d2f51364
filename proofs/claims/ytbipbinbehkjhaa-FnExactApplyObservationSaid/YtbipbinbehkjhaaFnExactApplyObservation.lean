/-
  For every input the law FnExactApplyObservation returns true and leaves its arguments as they were; no condition beyond the statement's own.
-/
import Derived.Test.YtbipbinbehkjhaaRows
import Derived.Test.YtbipbinbehkjhaaOpens
import Derived.Test.YtbipbinbehkjhaaTo
import Derived.Test.YtbipbinbehkjhaaEq
import Derived.Test.YtbipbinbehkjhaaApply
import Derived.Test.YtbipbinbehkjhaaMarkC
import Derived.Test.YtbipbinbehkjhaaCut
import Derived.WalkKit
import Derived.ProofKit
import Derived.OpenShut
import Derived.ShutString
import Derived.ChangeOld
import Derived.Below
import Derived.Deep.RegionHeld3
import Derived.Test.YtbipbinbehkjhaaMark
import Derived.Test.YtbipbinbehkjhaaMarkC
namespace Go.Proofs.Ytbipbinbehkjhaa.fnExactApplyObservation
open Go.ChangeShapes Go.WideShapes Go.ChangeAt Go.RowKit
open Go.ChangeMaps (open_string shut_string)
set_option linter.unusedVariables false
set_option linter.unusedSimpArgs false

theorem own : ownKnob Try.prog.godebug = none := by kernel_rfl
theorem laidOut : laidOutB Try.prog = true := by kernel_rfl

set_option maxRecDepth 100000 in
set_option maxHeartbeats 4000000 in
theorem walk (csB : List Value) (xB : BoxD) (csX : List Value) (xX : ObservationD) (w : World) (rB : (rBox maxLen).rep w csB xB) (rX : (rObservation maxLen).rep w csX xX) :
    Calls Try.prog 4 #[.agg csB.toArray, .agg csX.toArray] w fun e w' => e = .returned (.bool true) ∧ Below w.heap.size w w' := by
  have hB : Below w.heap.size w w := Below.refl _ _
  have qB := rB
  obtain ⟨ABLow, nBLow, cBLow, ABHigh, nBHigh, cBHigh, rfl, hBLow, hBHigh⟩ := rBox_rep.1 qB
  clear qB
  have qX := rX
  obtain ⟨rfl, hXMask, hXClass⟩ := rObservation_rep.1 qX
  clear qX
  go_enter Try.func4, Try.ntmps4
  have hA1 := (Below.refl (World.heap (w)).size (w)).alloc (Nat.le_refl _) (.cells #[.slice ABLow nBLow cBLow, .slice ABHigh nBHigh cBHigh] 34)
  replace hB := hB.trans (hA1.mono hB.size)
  have bxB := Bx.new (w) [.slice ABLow nBLow cBLow, .slice ABHigh nBHigh cBHigh] 34
  clear hA1
  have hA2 := (Below.refl (World.heap ((w).alloc (.cells #[.slice ABLow nBLow cBLow, .slice ABHigh nBHigh cBHigh] 34))).size ((w).alloc (.cells #[.slice ABLow nBLow cBLow, .slice ABHigh nBHigh cBHigh] 34))).alloc (Nat.le_refl _) (.cells #[.int .i64 xX.fMask, .int .i64 xX.fClass, .bool xX.fExact] 36)
  replace hB := hB.trans (hA2.mono hB.size)
  replace bxB := bxB.below hA2
  have bxX := Bx.new ((w).alloc (.cells #[.slice ABLow nBLow cBLow, .slice ABHigh nBHigh cBHigh] 34)) [.int .i64 xX.fMask, .int .i64 xX.fClass, .bool xX.fExact] 36
  simp only [World.size_alloc] at bxX
  clear hA2
  go_wp2_with fail
  refine (szBox_c _ xB _ _ ((rBox_ok maxLen).keep rB (cells_below hB)) (by omega) (by omega)).mono ?_
  rintro e w4 ⟨rfl, hb3⟩
  have z5 := hb3.size
  try simp only [World.size_alloc] at z5
  have Hz5 := Lib.hid z5; clear z5
  replace hB := hB.trans (hb3.mono hB.size)
  replace bxB := bxB.below hb3
  replace bxX := bxX.below hb3
  clear hb3
  by_cases hszB : ((bulkBox xB : Nat) : Int) ≤ 1048576
  rotate_left
  · rw [lessBy_no hszB]
    go_wp2
    go_ret
    exact ⟨rfl, hB⟩
  rw [lessBy_yes hszB]
  have sB := smallBox rB (by omega)
  obtain ⟨L6, hL6⟩ : ∃ L : Int, L = 1048576 - ((bulkBox xB : Nat) : Int) := ⟨_, rfl⟩
  rw [← hL6]
  have pL6 : 0 ≤ L6 := by omega
  have uL6 : L6 ≤ 1048576 := by omega
  clear hL6
  have sX := smallObservation rX
  go_upto_region 5 with fail
  have SS7 : ∀ w', Below w4.heap.size w4 w' → (w'.cell? ⟨w.heap.size, 0, none⟩ = some (.slice ABLow nBLow cBLow) ∧ w'.cell? ⟨w.heap.size, 1, none⟩ = some (.slice ABHigh nBHigh cBHigh) ∧ w'.cell? ⟨w.heap.size + 1, 0, none⟩ = some (.int .i64 xX.fMask) ∧ w'.cell? ⟨w.heap.size + 1, 1, none⟩ = some (.int .i64 xX.fClass) ∧ w'.cell? ⟨w.heap.size + 1, 2, none⟩ = some (.bool xX.fExact)) := fun w' hb => ⟨bxB.below hb 0 _ rfl, bxB.below hb 1 _ rfl, bxX.below hb 0 _ rfl, bxX.below hb 1 _ rfl, bxX.below hb 2 _ rfl⟩
  have HSS7 := Lib.hid SS7; clear SS7
  go_cut [6, 7] (fun s6 s7 wx => ∃ (cs : List Value) (f : List Nat) (g : Nat), s6 = .pointer (some ⟨g, 0, none⟩) ∧ s7 = .bool (applyObs xB xX).2 ∧ Left (rBox NB) 38 ((applyObs xB xX).1) w4 g f cs wx)
  case first =>
    go_region_held3 (fun w' => w'.cell? ⟨w.heap.size, 0, none⟩ = some (.slice ABLow nBLow cBLow) ∧ w'.cell? ⟨w.heap.size, 1, none⟩ = some (.slice ABHigh nBHigh cBHigh) ∧ w'.cell? ⟨w.heap.size + 1, 0, none⟩ = some (.int .i64 xX.fMask) ∧ w'.cell? ⟨w.heap.size + 1, 1, none⟩ = some (.int .i64 xX.fClass) ∧ w'.cell? ⟨w.heap.size + 1, 2, none⟩ = some (.bool xX.fExact)) (exact HSS7.out _ (by repeat' (first | with_reducible exact Below.refl _ _ | with_reducible refine Below.drw ?_ | with_reducible refine Below.drwN ?_ _ | with_reducible refine Below.alc ?_ _ | with_reducible refine Below.cll ?_ ?_ _ | with_reducible refine Below.sz ?_ | with_reducible exact Nat.le_refl _ | with_reducible refine Below.link ?_ (by assumption)))) (first | (go_at_call 21; refine (toBox_c _ xB _ ((rBox_ok NB).keep sB (cells_below (Below.link hB (by repeat' (first | with_reducible exact Below.refl _ _ | with_reducible refine Below.drw ?_ | with_reducible refine Below.drwN ?_ _ | with_reducible refine Below.alc ?_ _ | with_reducible refine Below.cll ?_ ?_ _ | with_reducible refine Below.sz ?_ | with_reducible exact Nat.le_refl _ | with_reducible refine Below.link ?_ (by assumption))))))).mono ?_; rintro e w9 ⟨csv8, fv8, rfl, ov8, frv8, hb10⟩; have Rv8 := (rBox_ok NB).toRep ov8; (try clear ltX); ((try have ltX := Bk.lt bkX); (try replace bkX := Bk.below bkX hb10); (try have bkX := Bk.made hb10); (try have bkX := Bk.madeD hb10); (try have ltX := Bk.madeLt hb10); (try have ltX := Bk.madeLtD hb10))) | (go_at_call 22; refine (toObservation_c _ xX _ ((rObservation_ok NB).keep sX (cells_below (Below.link hB (by repeat' (first | with_reducible exact Below.refl _ _ | with_reducible refine Below.drw ?_ | with_reducible refine Below.drwN ?_ _ | with_reducible refine Below.alc ?_ _ | with_reducible refine Below.cll ?_ ?_ _ | with_reducible refine Below.sz ?_ | with_reducible exact Nat.le_refl _ | with_reducible refine Below.link ?_ (by assumption))))))).mono ?_; rintro e w12 ⟨csv11, fv11, rfl, ov11, frv11, hb13⟩; have Rv11 := (rObservation_ok NB).toRep ov11; (try clear ltX); ((try have ltX := Bk.lt bkX); (try replace bkX := Bk.below bkX hb13); (try have bkX := Bk.made hb13); (try have bkX := Bk.madeD hb13); (try have ltX := Bk.madeLt hb13); (try have ltX := Bk.madeLtD hb13))) | (go_at_call 20; refine (sApplyObservation_c _ xB _ xX _ ((rBox_ok NB).keep Rv8 (cells_below (by repeat' (first | with_reducible exact Below.refl _ _ | with_reducible refine Below.drw ?_ | with_reducible refine Below.drwN ?_ _ | with_reducible refine Below.alc ?_ _ | with_reducible refine Below.cll ?_ ?_ _ | with_reducible refine Below.sz ?_ | with_reducible exact Nat.le_refl _ | with_reducible refine Below.link ?_ (by assumption))))) ((rObservation_ok NB).keep Rv11 (cells_below (by repeat' (first | with_reducible exact Below.refl _ _ | with_reducible refine Below.drw ?_ | with_reducible refine Below.drwN ?_ _ | with_reducible refine Below.alc ?_ _ | with_reducible refine Below.cll ?_ ?_ _ | with_reducible refine Below.sz ?_ | with_reducible exact Nat.le_refl _ | with_reducible refine Below.link ?_ (by assumption)))))).mono ?_; rintro e w14 ⟨csw0, fw0, rfl, ow0, frw0, hb15⟩; obtain ⟨Aw0Low, nw0Low, cw0Low, Aw0High, nw0High, cw0High, rfl, _, _⟩ := rBox_rep.1 ((rBox_ok NB).toRep ow0); (try clear ltX); ((try have ltX := Bk.lt bkX); (try replace bkX := Bk.below bkX hb15); (try have bkX := Bk.made hb15); (try have bkX := Bk.madeD hb15); (try have ltX := Bk.madeLt hb15); (try have ltX := Bk.madeLtD hb15)); (try have jf := bkX.frozen); (try have jc0 := bkX.bx 0 _ rfl); (try have jc1 := bkX.bx 1 _ rfl)))
    all_goals (
      (go_wp2_with fail)
      go_meet
      refine ⟨[.slice Aw0Low nw0Low cw0Low, .slice Aw0High nw0High cw0High], fw0, _, rfl, rfl, ?_⟩
      first
        | exact Left.last (rBox_ok NB) ow0 frw0 (by repeat' (first | with_reducible exact Below.refl _ _ | with_reducible refine Below.drw ?_ | with_reducible refine Below.drwN ?_ _ | with_reducible refine Below.alc ?_ _ | with_reducible refine Below.cll ?_ ?_ _ | with_reducible refine Below.sz ?_ | with_reducible exact Nat.le_refl _ | with_reducible refine Below.link ?_ (by assumption))) hb15
        | exact Left.first (rBox_ok NB) ow0 frw0 (by repeat' (first | with_reducible exact Below.refl _ _ | with_reducible refine Below.drw ?_ | with_reducible refine Below.drwN ?_ _ | with_reducible refine Below.alc ?_ _ | with_reducible refine Below.cll ?_ ?_ _ | with_reducible refine Below.sz ?_ | with_reducible exact Nat.le_refl _ | with_reducible refine Below.link ?_ (by assumption))) hb15 bkX ltX (by repeat' (first | with_reducible exact Below.refl _ _ | with_reducible refine Below.drw ?_ | with_reducible refine Below.drwN ?_ _ | with_reducible refine Below.alc ?_ _ | with_reducible refine Below.cll ?_ ?_ _ | with_reducible refine Below.sz ?_ | with_reducible exact Nat.le_refl _ | with_reducible refine Below.link ?_ (by assumption))) rfl)
  case rest =>
  obtain ⟨csw0, fw0, gw0, rfl, rfl, ⟨ow0, frw0, ngw0, ggw0, bkw0, hCw0⟩⟩ := hcut
  obtain ⟨wxw0, hwxw0⟩ : ∃ W : World, W = wc := ⟨_, rfl⟩
  subst hwxw0
  obtain ⟨Aw0Low, nw0Low, cw0Low, Aw0High, nw0High, cw0High, rfl, _, _⟩ := rBox_rep.1 ((rBox_ok NB).toRep ow0)
  have z17 := hCw0.size
  try simp only [World.size_alloc] at z17
  have Hz17 := Lib.hid z17; clear z17
  replace hB := hB.trans (hCw0.mono hB.size)
  replace bxB := bxB.below hCw0
  replace bxX := bxX.below hCw0
  clear HSS7
  have ltw0 := Lib.hid ((rBox_ok NB).lt ow0)
  have fsw0 := frw0
  have HFw0 : Hid (∀ k ∈ fw0, _ ≤ k) := fsw0.ge
  try simp only [World.size_alloc] at HFw0
  have ndw0 := fsw0.nd; have NDw0 := Lib.hid ndw0; clear ndw0 fsw0
  have GGw0 := Lib.hid (And.intro ggw0 (Bk.lt bkw0)); clear ggw0
  have NGw0 := Lib.hid ngw0; clear ngw0
  have bxw0 := Bk.bx bkw0; clear bkw0 hCw0
  have cbxB_0 := bxB 0 _ rfl
  have cbxB_1 := bxB 1 _ rfl
  go_wp2_with fail
  refine (toBox_c _ xB _ ((rBox_ok NB).keep sB (cells_below hB))).mono ?_
  rintro e w18 ⟨csx0, fx0, rfl, ox0, frx0, hb19⟩
  have z20 := hb19.size
  try simp only [World.size_alloc] at z20
  have Hz20 := Lib.hid z20; clear z20
  replace ow0 := (rBox_ok NB).ownB ow0 hb19
  replace hB := hB.trans (hb19.mono hB.size)
  replace bxB := bxB.below hb19
  replace bxX := bxX.below hb19
  replace bxw0 := bxw0.below hb19
  clear hb19 cbxB_0 cbxB_1
  have ltx0 := Lib.hid ((rBox_ok NB).lt ox0)
  have fsx0 := frx0
  have HFx0 : Hid (∀ k ∈ fx0, _ ≤ k) := fsx0.ge
  try simp only [World.size_alloc] at HFx0
  have ndx0 := fsx0.nd; have NDx0 := Lib.hid ndx0; clear ndx0 fsx0
  obtain ⟨Ax0Low, nx0Low, cx0Low, Ax0High, nx0High, cx0High, rfl, _, _⟩ := rBox_rep.1 ((rBox_ok NB).toRep ox0)
  have hA21 := (Below.refl w18.heap.size w18).alloc (Nat.le_refl _) (.cells #[.slice Ax0Low nx0Low cx0Low, .slice Ax0High nx0High cx0High] 38)
  replace ow0 := (rBox_ok NB).ownB ow0 hA21
  replace ox0 := (rBox_ok NB).ownB ox0 hA21
  replace hB := hB.trans (hA21.mono hB.size)
  replace bxB := bxB.below hA21
  replace bxX := bxX.below hA21
  replace bxw0 := bxw0.below hA21
  have bxx0 := Bx.new w18 [.slice Ax0Low nx0Low cx0Low, .slice Ax0High nx0High cx0High] 38
  clear hA21
  go_upto_region 7 with fail
  obtain ⟨wb22, hwb22⟩ : ∃ W : World, W = (w18.alloc (.cells #[.slice Ax0Low nx0Low cx0Low, .slice Ax0High nx0High cx0High] 38)) := ⟨_, rfl⟩
  rw [← hwb22]
  rw [← hwb22] at hB
  rw [← hwb22] at bxB
  rw [← hwb22] at bxX
  rw [← hwb22] at bxw0
  rw [← hwb22] at bxx0
  rw [← hwb22] at ow0
  rw [← hwb22] at ox0
  have zwb22 : wb22.heap.size = ((w18.alloc (.cells #[.slice Ax0Low nx0Low cx0Low, .slice Ax0High nx0High cx0High] 38))).heap.size := by rw [hwb22]
  simp only [World.size_alloc] at zwb22
  have Hzwb22 := Lib.hid zwb22; clear zwb22 hwb22
  have SS23 : ∀ w', Below wb22.heap.size wb22 w' → (w'.cell? ⟨w.heap.size + 1, 0, none⟩ = some (.int .i64 xX.fMask) ∧ w'.cell? ⟨w.heap.size + 1, 1, none⟩ = some (.int .i64 xX.fClass) ∧ w'.cell? ⟨w.heap.size + 1, 2, none⟩ = some (.bool xX.fExact) ∧ w'.cell? ⟨w18.heap.size, 0, none⟩ = some (.slice Ax0Low nx0Low cx0Low) ∧ w'.cell? ⟨w18.heap.size, 1, none⟩ = some (.slice Ax0High nx0High cx0High)) := fun w' hb => ⟨bxX.below hb 0 _ rfl, bxX.below hb 1 _ rfl, bxX.below hb 2 _ rfl, bxx0.below hb 0 _ rfl, bxx0.below hb 1 _ rfl⟩
  have HSS23 := Lib.hid SS23; clear SS23
  go_cut [9, 10] (fun s9 s10 wx => ∃ (cs : List Value) (f : List Nat) (g : Nat), s9 = .pointer (some ⟨g, 0, none⟩) ∧ s10 = .bool (applyObs xB xX).2 ∧ Left (rBox NB) 38 ((applyObs xB xX).1) wb22 g f cs wx)
  case first =>
    go_region_held3 (fun w' => w'.cell? ⟨w.heap.size + 1, 0, none⟩ = some (.int .i64 xX.fMask) ∧ w'.cell? ⟨w.heap.size + 1, 1, none⟩ = some (.int .i64 xX.fClass) ∧ w'.cell? ⟨w.heap.size + 1, 2, none⟩ = some (.bool xX.fExact) ∧ w'.cell? ⟨w18.heap.size, 0, none⟩ = some (.slice Ax0Low nx0Low cx0Low) ∧ w'.cell? ⟨w18.heap.size, 1, none⟩ = some (.slice Ax0High nx0High cx0High)) (exact HSS23.out _ (by repeat' (first | with_reducible exact Below.refl _ _ | with_reducible refine Below.drw ?_ | with_reducible refine Below.drwN ?_ _ | with_reducible refine Below.alc ?_ _ | with_reducible refine Below.cll ?_ ?_ _ | with_reducible refine Below.sz ?_ | with_reducible exact Nat.le_refl _ | with_reducible refine Below.link ?_ (by assumption)))) (first | (go_at_call 22; refine (toObservation_c _ xX _ ((rObservation_ok NB).keep sX (cells_below (Below.link hB (by repeat' (first | with_reducible exact Below.refl _ _ | with_reducible refine Below.drw ?_ | with_reducible refine Below.drwN ?_ _ | with_reducible refine Below.alc ?_ _ | with_reducible refine Below.cll ?_ ?_ _ | with_reducible refine Below.sz ?_ | with_reducible exact Nat.le_refl _ | with_reducible refine Below.link ?_ (by assumption))))))).mono ?_; rintro e w25 ⟨csv24, fv24, rfl, ov24, frv24, hb26⟩; have Rv24 := (rObservation_ok NB).toRep ov24; (try clear ltX); ((try have ltX := Bk.lt bkX); (try replace bkX := Bk.below bkX hb26); (try have bkX := Bk.made hb26); (try have bkX := Bk.madeD hb26); (try have ltX := Bk.madeLt hb26); (try have ltX := Bk.madeLtD hb26))) | (go_at_call 23; refine (iApplyObservation_c _ xB _ xX _ ((rBox_ok NB).keep ((rBox_ok NB).toRep ox0) (cells_below (by repeat' (first | with_reducible exact Below.refl _ _ | with_reducible refine Below.drw ?_ | with_reducible refine Below.drwN ?_ _ | with_reducible refine Below.alc ?_ _ | with_reducible refine Below.cll ?_ ?_ _ | with_reducible refine Below.sz ?_ | with_reducible exact Nat.le_refl _ | with_reducible refine Below.link ?_ (by assumption))))) ((rObservation_ok NB).keep Rv24 (cells_below (by repeat' (first | with_reducible exact Below.refl _ _ | with_reducible refine Below.drw ?_ | with_reducible refine Below.drwN ?_ _ | with_reducible refine Below.alc ?_ _ | with_reducible refine Below.cll ?_ ?_ _ | with_reducible refine Below.sz ?_ | with_reducible exact Nat.le_refl _ | with_reducible refine Below.link ?_ (by assumption)))))).mono ?_; rintro e w27 ⟨csg0, fg0, rfl, og0, frg0, hb28⟩; obtain ⟨Ag0Low, ng0Low, cg0Low, Ag0High, ng0High, cg0High, rfl, _, _⟩ := rBox_rep.1 ((rBox_ok NB).toRep og0); (try clear ltX); ((try have ltX := Bk.lt bkX); (try replace bkX := Bk.below bkX hb28); (try have bkX := Bk.made hb28); (try have bkX := Bk.madeD hb28); (try have ltX := Bk.madeLt hb28); (try have ltX := Bk.madeLtD hb28)); (try have jf := bkX.frozen); (try have jc0 := bkX.bx 0 _ rfl); (try have jc1 := bkX.bx 1 _ rfl)))
    all_goals (
      (go_wp2_with fail)
      go_meet
      refine ⟨[.slice Ag0Low ng0Low cg0Low, .slice Ag0High ng0High cg0High], fg0, _, rfl, rfl, ?_⟩
      first
        | exact Left.last (rBox_ok NB) og0 frg0 (by repeat' (first | with_reducible exact Below.refl _ _ | with_reducible refine Below.drw ?_ | with_reducible refine Below.drwN ?_ _ | with_reducible refine Below.alc ?_ _ | with_reducible refine Below.cll ?_ ?_ _ | with_reducible refine Below.sz ?_ | with_reducible exact Nat.le_refl _ | with_reducible refine Below.link ?_ (by assumption))) hb28
        | exact Left.first (rBox_ok NB) og0 frg0 (by repeat' (first | with_reducible exact Below.refl _ _ | with_reducible refine Below.drw ?_ | with_reducible refine Below.drwN ?_ _ | with_reducible refine Below.alc ?_ _ | with_reducible refine Below.cll ?_ ?_ _ | with_reducible refine Below.sz ?_ | with_reducible exact Nat.le_refl _ | with_reducible refine Below.link ?_ (by assumption))) hb28 bkX ltX (by repeat' (first | with_reducible exact Below.refl _ _ | with_reducible refine Below.drw ?_ | with_reducible refine Below.drwN ?_ _ | with_reducible refine Below.alc ?_ _ | with_reducible refine Below.cll ?_ ?_ _ | with_reducible refine Below.sz ?_ | with_reducible exact Nat.le_refl _ | with_reducible refine Below.link ?_ (by assumption))) rfl)
  case rest =>
  obtain ⟨csg0, fg0, gg0, rfl, rfl, ⟨og0, frg0, ngg0, ggg0, bkg0, hCg0⟩⟩ := hcut
  obtain ⟨wxg0, hwxg0⟩ : ∃ W : World, W = wc := ⟨_, rfl⟩
  subst hwxg0
  obtain ⟨Ag0Low, ng0Low, cg0Low, Ag0High, ng0High, cg0High, rfl, _, _⟩ := rBox_rep.1 ((rBox_ok NB).toRep og0)
  have z30 := hCg0.size
  try simp only [World.size_alloc] at z30
  have Hz30 := Lib.hid z30; clear z30
  replace ow0 := (rBox_ok NB).ownB ow0 hCg0
  replace ox0 := (rBox_ok NB).ownB ox0 hCg0
  replace hB := hB.trans (hCg0.mono hB.size)
  replace bxB := bxB.below hCg0
  replace bxX := bxX.below hCg0
  replace bxw0 := bxw0.below hCg0
  replace bxx0 := bxx0.below hCg0
  clear HSS23
  have ltg0 := Lib.hid ((rBox_ok NB).lt og0)
  have fsg0 := frg0
  have HFg0 : Hid (∀ k ∈ fg0, _ ≤ k) := fsg0.ge
  try simp only [World.size_alloc] at HFg0
  have ndg0 := fsg0.nd; have NDg0 := Lib.hid ndg0; clear ndg0 fsg0
  have GGg0 := Lib.hid (And.intro ggg0 (Bk.lt bkg0)); clear ggg0
  have NGg0 := Lib.hid ngg0; clear ngg0
  have bxg0 := Bk.bx bkg0; clear bkg0 hCg0
  have hnei : ∀ v : Int, (v != v) = false := fun v => by simp
  have hneb : ∀ v : Bool, (v == v) = true := fun v => by simp
  have cbxw0_0 := bxw0 0 _ rfl
  have cbxw0_1 := bxw0 1 _ rfl
  have cbxg0_0 := bxg0 0 _ rfl
  have cbxg0_1 := bxg0 1 _ rfl
  go_wp2_with fail
  refine (eqBox_c _ _ ((applyObs xB xX).1) ((applyObs xB xX).1) _ ((rBox_ok NB).toRep og0) ((rBox_ok NB).toRep ow0)).mono ?_
  rintro e w31 ⟨rfl, hb32⟩
  have z33 := hb32.size
  try simp only [World.size_alloc] at z33
  have Hz33 := Lib.hid z33; clear z33
  replace ow0 := (rBox_ok NB).ownB ow0 hb32
  replace ox0 := (rBox_ok NB).ownB ox0 hb32
  replace og0 := (rBox_ok NB).ownB og0 hb32
  replace hB := hB.trans (hb32.mono hB.size)
  replace bxB := bxB.below hb32
  replace bxX := bxX.below hb32
  replace bxw0 := bxw0.below hb32
  replace bxx0 := bxx0.below hb32
  replace bxg0 := bxg0.below hb32
  clear hb32 cbxw0_0 cbxw0_1 cbxg0_0 cbxg0_1
  have hdr34 : decide (((applyObs xB xX).1) = ((applyObs xB xX).1)) = true := by simp
  go_wp2_with fail
  have SS35 : ∀ w', Below w31.heap.size w31 w' → (Below w31.heap.size w31 w' ∧ w'.cell? ⟨w.heap.size, 0, none⟩ = some (.slice ABLow nBLow cBLow) ∧ w'.cell? ⟨w.heap.size, 1, none⟩ = some (.slice ABHigh nBHigh cBHigh) ∧ w'.cell? ⟨w18.heap.size, 0, none⟩ = some (.slice Ax0Low nx0Low cx0Low) ∧ w'.cell? ⟨w18.heap.size, 1, none⟩ = some (.slice Ax0High nx0High cx0High)) := fun w' hb => ⟨hb, bxB.below hb 0 _ rfl, bxB.below hb 1 _ rfl, bxx0.below hb 0 _ rfl, bxx0.below hb 1 _ rfl⟩
  have HSS35 := Lib.hid SS35; clear SS35
  have tok40 : True := trivial
  have tok44 : True := trivial
  go_region_held3 (fun w' => Below w31.heap.size w31 w' ∧ w'.cell? ⟨w.heap.size, 0, none⟩ = some (.slice ABLow nBLow cBLow) ∧ w'.cell? ⟨w.heap.size, 1, none⟩ = some (.slice ABHigh nBHigh cBHigh) ∧ w'.cell? ⟨w18.heap.size, 0, none⟩ = some (.slice Ax0Low nx0Low cx0Low) ∧ w'.cell? ⟨w18.heap.size, 1, none⟩ = some (.slice Ax0High nx0High cx0High)) (first | exact HSS35.out _ (Below.refl _ _).drew | exact HSS35.out _ (by assumption)) (first | (go_at_call 21; have _t := tok40; refine (toBox_c _ xB _ ((rBox_ok NB).keep sB (cells_below (hB.trans (Below.mono ((Below.refl w31.heap.size w31).drew) hB.size))))).mono ?_; rintro e w37 ⟨csv36, fv36, rfl, ov36, frv36, hb38⟩; have hC39 : Below w31.heap.size w31 w37 := Below.trans ((Below.refl w31.heap.size w31).drew) (hb38.mono ((Below.refl w31.heap.size w31).drew).size); have Rv36 := (rBox_ok NB).toRep ov36; clear tok40) | (go_at_call 24; have _t := tok44; refine (eqBox_c _ _ xB xB _ ((rBox_ok NB).keep ((rBox_ok NB).toRep ox0) (cells_below (hC39))) Rv36).mono ?_; rintro e w41 ⟨rfl, hb42⟩; have hC43 : Below w31.heap.size w31 w41 := Below.trans (hC39) (hb42.mono (hC39).size); clear tok44))
  have z45 := hC43.size
  try simp only [World.size_alloc] at z45
  have Hz45 := Lib.hid z45; clear z45
  replace ow0 := (rBox_ok NB).ownB ow0 hC43
  replace ox0 := (rBox_ok NB).ownB ox0 hC43
  replace og0 := (rBox_ok NB).ownB og0 hC43
  replace hB := hB.trans (hC43.mono hB.size)
  replace bxB := bxB.below hC43
  replace bxX := bxX.below hC43
  replace bxw0 := bxw0.below hC43
  replace bxx0 := bxx0.below hC43
  replace bxg0 := bxg0.below hC43
  clear HSS35 hC43
  have hdx0 : decide (xB = xB) = true := by simp
  have hcbr : Hid ((cnt_Box ((applyObs xB xX).1)) ≤ 1099511627776) := (by show _ ≤ _; exact (by have e := cnto_Box og0; omega))
  have cbxx0_0 := bxx0 0 _ rfl
  have cbxx0_1 := bxx0 1 _ rfl
  go_wp2_with fail
  have hcbw46 : (cnt_Box (xB)) ≤ 1099511627776 := (by have e := cntb_Box xB; omega)
  refine (markBox_m _ (xB) 1 _ fx0 ox0 NDx0.out (by omega) (by omega)).mono ?_
  rintro e w46 ⟨rfl, omw46, hc47⟩
  replace hB := hB.trans (hc47.toBelow hB.size (fun k hk => by have := HFx0.out k hk; have := Hz5.out; have := Hz17.out; have := GGw0.out; have := Hz20.out; have := Hzwb22.out; have := Hz30.out; have := GGg0.out; have := Hz33.out; have := Hz45.out; omega))
  replace bxB := bxB.chg hc47 (fun hk => by have := HFx0.out _ hk; have := ltx0.out _ hk; have := Hz5.out; have := Hz17.out; have := GGw0.out; have := Hz20.out; have := Hzwb22.out; have := Hz30.out; have := GGg0.out; have := Hz33.out; have := Hz45.out; omega)
  replace bxX := bxX.chg hc47 (fun hk => by have := HFx0.out _ hk; have := ltx0.out _ hk; have := Hz5.out; have := Hz17.out; have := GGw0.out; have := Hz20.out; have := Hzwb22.out; have := Hz30.out; have := GGg0.out; have := Hz33.out; have := Hz45.out; omega)
  replace bxw0 := bxw0.chg hc47 (fun hk => by have := HFx0.out _ hk; have := ltx0.out _ hk; have := Hz5.out; have := Hz17.out; have := GGw0.out; have := Hz20.out; have := Hzwb22.out; have := Hz30.out; have := GGg0.out; have := Hz33.out; have := Hz45.out; omega)
  replace bxx0 := bxx0.chg hc47 (fun hk => by have := HFx0.out _ hk; have := ltx0.out _ hk; have := Hz5.out; have := Hz17.out; have := GGw0.out; have := Hz20.out; have := Hzwb22.out; have := Hz30.out; have := GGg0.out; have := Hz33.out; have := Hz45.out; omega)
  replace bxg0 := bxg0.chg hc47 (fun hk => by have := HFx0.out _ hk; have := ltx0.out _ hk; have := Hz5.out; have := Hz17.out; have := GGw0.out; have := Hz20.out; have := Hzwb22.out; have := Hz30.out; have := GGg0.out; have := Hz33.out; have := Hz45.out; omega)
  replace ow0 := (rBox_ok NB).ownC ow0 hc47 (fun k hk hk' => by have := HFw0.out k hk; have := ltw0.out k hk; have := HFx0.out k hk'; have := ltx0.out k hk'; have := Hz5.out; have := Hz17.out; have := GGw0.out; have := Hz20.out; have := Hzwb22.out; have := Hz30.out; have := GGg0.out; have := Hz33.out; have := Hz45.out; omega)
  replace og0 := (rBox_ok NB).ownC og0 hc47 (fun k hk hk' => by have := HFg0.out k hk; have := ltg0.out k hk; have := HFx0.out k hk'; have := ltx0.out k hk'; have := Hz5.out; have := Hz17.out; have := GGw0.out; have := Hz20.out; have := Hzwb22.out; have := Hz30.out; have := GGg0.out; have := Hz33.out; have := Hz45.out; omega)
  clear ox0; have ox0 := omw46; clear omw46
  have Hz48 := Lib.hid hc47.size
  try simp only [World.size_alloc] at Hz48
  clear hc47 cbxx0_0 cbxx0_1
  obtain ⟨kk49, hkk49⟩ : ∃ q : Int, q = 1 + ((cnt_Box (xB)) : Nat) := ⟨_, rfl⟩
  rw [← hkk49]
  have pkk49 : 0 ≤ kk49 := by omega
  have ukk49 : kk49 ≤ 2199023255552 := by omega
  have Hkkk49 := Lib.hid hkk49; clear hkk49 hcbw46
  have cbxw0_0 := bxw0 0 _ rfl
  have cbxw0_1 := bxw0 1 _ rfl
  have cbxg0_0 := bxg0 0 _ rfl
  have cbxg0_1 := bxg0 1 _ rfl
  go_wp2_with fail
  refine (eqBox_c _ _ ((applyObs xB xX).1) ((applyObs xB xX).1) _ ((rBox_ok NB).toRep og0) ((rBox_ok NB).toRep ow0)).mono ?_
  rintro e w50 ⟨rfl, hb51⟩
  have z52 := hb51.size
  try simp only [World.size_alloc] at z52
  have Hz52 := Lib.hid z52; clear z52
  replace ow0 := (rBox_ok NB).ownB ow0 hb51
  replace ox0 := (rBox_ok NB).ownB ox0 hb51
  replace og0 := (rBox_ok NB).ownB og0 hb51
  replace hB := hB.trans (hb51.mono hB.size)
  replace bxB := bxB.below hb51
  replace bxX := bxX.below hb51
  replace bxw0 := bxw0.below hb51
  replace bxx0 := bxx0.below hb51
  replace bxg0 := bxg0.below hb51
  clear hb51 cbxw0_0 cbxw0_1 cbxg0_0 cbxg0_1
  have hdr53 : decide (((applyObs xB xX).1) = ((applyObs xB xX).1)) = true := by simp
  have cbxg0_0 := bxg0 0 _ rfl
  have cbxg0_1 := bxg0 1 _ rfl
  go_wp2_with fail
  have hcbw54 : (cnt_Box ((applyObs xB xX).1)) ≤ 1099511627776 := hcbr.out
  refine (markBox_m _ ((applyObs xB xX).1) 1 _ fg0 og0 NDg0.out (by omega) (by omega)).mono ?_
  rintro e w54 ⟨rfl, omw54, hc55⟩
  replace hB := hB.trans (hc55.toBelow hB.size (fun k hk => by have := HFg0.out k hk; have := Hz5.out; have := Hz17.out; have := GGw0.out; have := Hz20.out; have := Hzwb22.out; have := Hz30.out; have := GGg0.out; have := Hz33.out; have := Hz45.out; have := Hz48.out; have := Hz52.out; omega))
  replace bxB := bxB.chg hc55 (fun hk => by have := HFg0.out _ hk; have := ltg0.out _ hk; have := Hz5.out; have := Hz17.out; have := GGw0.out; have := Hz20.out; have := Hzwb22.out; have := Hz30.out; have := GGg0.out; have := Hz33.out; have := Hz45.out; have := Hz48.out; have := Hz52.out; omega)
  replace bxX := bxX.chg hc55 (fun hk => by have := HFg0.out _ hk; have := ltg0.out _ hk; have := Hz5.out; have := Hz17.out; have := GGw0.out; have := Hz20.out; have := Hzwb22.out; have := Hz30.out; have := GGg0.out; have := Hz33.out; have := Hz45.out; have := Hz48.out; have := Hz52.out; omega)
  replace bxw0 := bxw0.chg hc55 (fun hk => by have := HFg0.out _ hk; have := ltg0.out _ hk; have := Hz5.out; have := Hz17.out; have := GGw0.out; have := Hz20.out; have := Hzwb22.out; have := Hz30.out; have := GGg0.out; have := Hz33.out; have := Hz45.out; have := Hz48.out; have := Hz52.out; omega)
  replace bxx0 := bxx0.chg hc55 (fun hk => by have := HFg0.out _ hk; have := ltg0.out _ hk; have := Hz5.out; have := Hz17.out; have := GGw0.out; have := Hz20.out; have := Hzwb22.out; have := Hz30.out; have := GGg0.out; have := Hz33.out; have := Hz45.out; have := Hz48.out; have := Hz52.out; omega)
  replace bxg0 := bxg0.chg hc55 NGg0.out
  replace ow0 := (rBox_ok NB).ownC ow0 hc55 (fun k hk hk' => by have := HFw0.out k hk; have := ltw0.out k hk; have := HFg0.out k hk'; have := ltg0.out k hk'; have := Hz5.out; have := Hz17.out; have := GGw0.out; have := Hz20.out; have := Hzwb22.out; have := Hz30.out; have := GGg0.out; have := Hz33.out; have := Hz45.out; have := Hz48.out; have := Hz52.out; omega)
  replace ox0 := (rBox_ok NB).ownC ox0 hc55 (fun k hk hk' => by have := HFx0.out k hk; have := ltx0.out k hk; have := HFg0.out k hk'; have := ltg0.out k hk'; have := Hz5.out; have := Hz17.out; have := GGw0.out; have := Hz20.out; have := Hzwb22.out; have := Hz30.out; have := GGg0.out; have := Hz33.out; have := Hz45.out; have := Hz48.out; have := Hz52.out; omega)
  clear og0; have og0 := omw54; clear omw54
  have Hz56 := Lib.hid hc55.size
  try simp only [World.size_alloc] at Hz56
  clear hc55 cbxg0_0 cbxg0_1
  obtain ⟨kk57, hkk57⟩ : ∃ q : Int, q = 1 + ((cnt_Box ((applyObs xB xX).1)) : Nat) := ⟨_, rfl⟩
  rw [← hkk57]
  have pkk57 : 0 ≤ kk57 := by omega
  have ukk57 : kk57 ≤ 2199023255552 := by omega
  have Hkkk57 := Lib.hid hkk57; clear hkk57 hcbw54
  have cbxg0_0 := bxg0 0 _ rfl
  have cbxg0_1 := bxg0 1 _ rfl
  go_wp2_with fail
  have hcbw58 : (cnt_Box ((applyObs xB xX).1)) ≤ 1099511627776 := hcbr.out
  refine (heldBox_m _ ((applyObs xB xX).1) 1 _ ((rBox_ok NB).toRep og0) (by omega) (by omega)).mono ?_
  rintro e w58 ⟨rfl, hb59⟩
  have z60 := hb59.size
  try simp only [World.size_alloc] at z60
  have Hz60 := Lib.hid z60; clear z60
  replace ow0 := (rBox_ok NB).ownB ow0 hb59
  replace ox0 := (rBox_ok NB).ownB ox0 hb59
  replace og0 := (rBox_ok NB).ownB og0 hb59
  replace hB := hB.trans (hb59.mono hB.size)
  replace bxB := bxB.below hb59
  replace bxX := bxX.below hb59
  replace bxw0 := bxw0.below hb59
  replace bxx0 := bxx0.below hb59
  replace bxg0 := bxg0.below hb59
  clear hb59 hcbw58 cbxg0_0 cbxg0_1
  rw [← Hkkk57.out]
  go_upto_region 24 with fail
  have SS61 : ∀ w', Below w58.heap.size w58 w' → (w'.cell? ⟨w.heap.size, 0, none⟩ = some (.slice ABLow nBLow cBLow) ∧ w'.cell? ⟨w.heap.size, 1, none⟩ = some (.slice ABHigh nBHigh cBHigh) ∧ w'.cell? ⟨w.heap.size + 1, 0, none⟩ = some (.int .i64 xX.fMask) ∧ w'.cell? ⟨w.heap.size + 1, 1, none⟩ = some (.int .i64 xX.fClass) ∧ w'.cell? ⟨w.heap.size + 1, 2, none⟩ = some (.bool xX.fExact)) := fun w' hb => ⟨bxB.below hb 0 _ rfl, bxB.below hb 1 _ rfl, bxX.below hb 0 _ rfl, bxX.below hb 1 _ rfl, bxX.below hb 2 _ rfl⟩
  have HSS61 := Lib.hid SS61; clear SS61
  go_cut [14, 15] (fun s14 s15 wx => ∃ (cs : List Value) (f : List Nat) (g : Nat), s14 = .pointer (some ⟨g, 0, none⟩) ∧ s15 = .bool (applyObs xB xX).2 ∧ Left (rBox NB) 38 ((applyObs xB xX).1) w58 g f cs wx)
  case first =>
    go_region_held3 (fun w' => w'.cell? ⟨w.heap.size, 0, none⟩ = some (.slice ABLow nBLow cBLow) ∧ w'.cell? ⟨w.heap.size, 1, none⟩ = some (.slice ABHigh nBHigh cBHigh) ∧ w'.cell? ⟨w.heap.size + 1, 0, none⟩ = some (.int .i64 xX.fMask) ∧ w'.cell? ⟨w.heap.size + 1, 1, none⟩ = some (.int .i64 xX.fClass) ∧ w'.cell? ⟨w.heap.size + 1, 2, none⟩ = some (.bool xX.fExact)) (exact HSS61.out _ (by repeat' (first | with_reducible exact Below.refl _ _ | with_reducible refine Below.drw ?_ | with_reducible refine Below.drwN ?_ _ | with_reducible refine Below.alc ?_ _ | with_reducible refine Below.cll ?_ ?_ _ | with_reducible refine Below.sz ?_ | with_reducible exact Nat.le_refl _ | with_reducible refine Below.link ?_ (by assumption)))) (first | (go_at_call 21; refine (toBox_c _ xB _ ((rBox_ok NB).keep sB (cells_below (Below.link hB (by repeat' (first | with_reducible exact Below.refl _ _ | with_reducible refine Below.drw ?_ | with_reducible refine Below.drwN ?_ _ | with_reducible refine Below.alc ?_ _ | with_reducible refine Below.cll ?_ ?_ _ | with_reducible refine Below.sz ?_ | with_reducible exact Nat.le_refl _ | with_reducible refine Below.link ?_ (by assumption))))))).mono ?_; rintro e w63 ⟨csv62, fv62, rfl, ov62, frv62, hb64⟩; have Rv62 := (rBox_ok NB).toRep ov62; (try clear ltX); ((try have ltX := Bk.lt bkX); (try replace bkX := Bk.below bkX hb64); (try have bkX := Bk.made hb64); (try have bkX := Bk.madeD hb64); (try have ltX := Bk.madeLt hb64); (try have ltX := Bk.madeLtD hb64))) | (go_at_call 22; refine (toObservation_c _ xX _ ((rObservation_ok NB).keep sX (cells_below (Below.link hB (by repeat' (first | with_reducible exact Below.refl _ _ | with_reducible refine Below.drw ?_ | with_reducible refine Below.drwN ?_ _ | with_reducible refine Below.alc ?_ _ | with_reducible refine Below.cll ?_ ?_ _ | with_reducible refine Below.sz ?_ | with_reducible exact Nat.le_refl _ | with_reducible refine Below.link ?_ (by assumption))))))).mono ?_; rintro e w66 ⟨csv65, fv65, rfl, ov65, frv65, hb67⟩; have Rv65 := (rObservation_ok NB).toRep ov65; (try clear ltX); ((try have ltX := Bk.lt bkX); (try replace bkX := Bk.below bkX hb67); (try have bkX := Bk.made hb67); (try have bkX := Bk.madeD hb67); (try have ltX := Bk.madeLt hb67); (try have ltX := Bk.madeLtD hb67))) | (go_at_call 23; refine (iApplyObservation_c _ xB _ xX _ ((rBox_ok NB).keep Rv62 (cells_below (by repeat' (first | with_reducible exact Below.refl _ _ | with_reducible refine Below.drw ?_ | with_reducible refine Below.drwN ?_ _ | with_reducible refine Below.alc ?_ _ | with_reducible refine Below.cll ?_ ?_ _ | with_reducible refine Below.sz ?_ | with_reducible exact Nat.le_refl _ | with_reducible refine Below.link ?_ (by assumption))))) ((rObservation_ok NB).keep Rv65 (cells_below (by repeat' (first | with_reducible exact Below.refl _ _ | with_reducible refine Below.drw ?_ | with_reducible refine Below.drwN ?_ _ | with_reducible refine Below.alc ?_ _ | with_reducible refine Below.cll ?_ ?_ _ | with_reducible refine Below.sz ?_ | with_reducible exact Nat.le_refl _ | with_reducible refine Below.link ?_ (by assumption)))))).mono ?_; rintro e w68 ⟨csh0, fh0, rfl, oh0, frh0, hb69⟩; obtain ⟨Ah0Low, nh0Low, ch0Low, Ah0High, nh0High, ch0High, rfl, _, _⟩ := rBox_rep.1 ((rBox_ok NB).toRep oh0); (try clear ltX); ((try have ltX := Bk.lt bkX); (try replace bkX := Bk.below bkX hb69); (try have bkX := Bk.made hb69); (try have bkX := Bk.madeD hb69); (try have ltX := Bk.madeLt hb69); (try have ltX := Bk.madeLtD hb69)); (try have jf := bkX.frozen); (try have jc0 := bkX.bx 0 _ rfl); (try have jc1 := bkX.bx 1 _ rfl)))
    all_goals (
      (go_wp2_with fail)
      go_meet
      refine ⟨[.slice Ah0Low nh0Low ch0Low, .slice Ah0High nh0High ch0High], fh0, _, rfl, rfl, ?_⟩
      first
        | exact Left.last (rBox_ok NB) oh0 frh0 (by repeat' (first | with_reducible exact Below.refl _ _ | with_reducible refine Below.drw ?_ | with_reducible refine Below.drwN ?_ _ | with_reducible refine Below.alc ?_ _ | with_reducible refine Below.cll ?_ ?_ _ | with_reducible refine Below.sz ?_ | with_reducible exact Nat.le_refl _ | with_reducible refine Below.link ?_ (by assumption))) hb69
        | exact Left.first (rBox_ok NB) oh0 frh0 (by repeat' (first | with_reducible exact Below.refl _ _ | with_reducible refine Below.drw ?_ | with_reducible refine Below.drwN ?_ _ | with_reducible refine Below.alc ?_ _ | with_reducible refine Below.cll ?_ ?_ _ | with_reducible refine Below.sz ?_ | with_reducible exact Nat.le_refl _ | with_reducible refine Below.link ?_ (by assumption))) hb69 bkX ltX (by repeat' (first | with_reducible exact Below.refl _ _ | with_reducible refine Below.drw ?_ | with_reducible refine Below.drwN ?_ _ | with_reducible refine Below.alc ?_ _ | with_reducible refine Below.cll ?_ ?_ _ | with_reducible refine Below.sz ?_ | with_reducible exact Nat.le_refl _ | with_reducible refine Below.link ?_ (by assumption))) rfl)
  case rest =>
  obtain ⟨csh0, fh0, gh0, rfl, rfl, ⟨oh0, frh0, ngh0, ggh0, bkh0, hCh0⟩⟩ := hcut
  obtain ⟨wxh0, hwxh0⟩ : ∃ W : World, W = wc := ⟨_, rfl⟩
  subst hwxh0
  obtain ⟨Ah0Low, nh0Low, ch0Low, Ah0High, nh0High, ch0High, rfl, _, _⟩ := rBox_rep.1 ((rBox_ok NB).toRep oh0)
  have z71 := hCh0.size
  try simp only [World.size_alloc] at z71
  have Hz71 := Lib.hid z71; clear z71
  replace ow0 := (rBox_ok NB).ownB ow0 hCh0
  replace ox0 := (rBox_ok NB).ownB ox0 hCh0
  replace og0 := (rBox_ok NB).ownB og0 hCh0
  replace hB := hB.trans (hCh0.mono hB.size)
  replace bxB := bxB.below hCh0
  replace bxX := bxX.below hCh0
  replace bxw0 := bxw0.below hCh0
  replace bxx0 := bxx0.below hCh0
  replace bxg0 := bxg0.below hCh0
  clear HSS61
  have lth0 := Lib.hid ((rBox_ok NB).lt oh0)
  have fsh0 := frh0
  have HFh0 : Hid (∀ k ∈ fh0, _ ≤ k) := fsh0.ge
  try simp only [World.size_alloc] at HFh0
  have ndh0 := fsh0.nd; have NDh0 := Lib.hid ndh0; clear ndh0 fsh0
  have GGh0 := Lib.hid (And.intro ggh0 (Bk.lt bkh0)); clear ggh0
  have NGh0 := Lib.hid ngh0; clear ngh0
  have bxh0 := Bk.bx bkh0; clear bkh0 hCh0
  have cbxw0_0 := bxw0 0 _ rfl
  have cbxw0_1 := bxw0 1 _ rfl
  have cbxh0_0 := bxh0 0 _ rfl
  have cbxh0_1 := bxh0 1 _ rfl
  go_wp2_with fail
  refine (eqBox_c _ _ ((applyObs xB xX).1) ((applyObs xB xX).1) _ ((rBox_ok NB).toRep oh0) ((rBox_ok NB).toRep ow0)).mono ?_
  rintro e w72 ⟨rfl, hb73⟩
  have z74 := hb73.size
  try simp only [World.size_alloc] at z74
  have Hz74 := Lib.hid z74; clear z74
  replace ow0 := (rBox_ok NB).ownB ow0 hb73
  replace ox0 := (rBox_ok NB).ownB ox0 hb73
  replace og0 := (rBox_ok NB).ownB og0 hb73
  replace oh0 := (rBox_ok NB).ownB oh0 hb73
  replace hB := hB.trans (hb73.mono hB.size)
  replace bxB := bxB.below hb73
  replace bxX := bxX.below hb73
  replace bxw0 := bxw0.below hb73
  replace bxx0 := bxx0.below hb73
  replace bxg0 := bxg0.below hb73
  replace bxh0 := bxh0.below hb73
  clear hb73 cbxw0_0 cbxw0_1 cbxh0_0 cbxh0_1
  have hdr75 : decide (((applyObs xB xX).1) = ((applyObs xB xX).1)) = true := by simp
  have cbxg0_0 := bxg0 0 _ rfl
  have cbxg0_1 := bxg0 1 _ rfl
  go_wp2_with fail
  have hcbw76 : (cnt_Box ((applyObs xB xX).1)) ≤ 1099511627776 := hcbr.out
  refine (heldBox_m _ ((applyObs xB xX).1) 1 _ ((rBox_ok NB).toRep og0) (by omega) (by omega)).mono ?_
  rintro e w76 ⟨rfl, hb77⟩
  have z78 := hb77.size
  try simp only [World.size_alloc] at z78
  have Hz78 := Lib.hid z78; clear z78
  replace ow0 := (rBox_ok NB).ownB ow0 hb77
  replace ox0 := (rBox_ok NB).ownB ox0 hb77
  replace og0 := (rBox_ok NB).ownB og0 hb77
  replace oh0 := (rBox_ok NB).ownB oh0 hb77
  replace hB := hB.trans (hb77.mono hB.size)
  replace bxB := bxB.below hb77
  replace bxX := bxX.below hb77
  replace bxw0 := bxw0.below hb77
  replace bxx0 := bxx0.below hb77
  replace bxg0 := bxg0.below hb77
  replace bxh0 := bxh0.below hb77
  clear hb77 hcbw76 cbxg0_0 cbxg0_1
  rw [← Hkkk57.out]
  go_wp2
  go_ret
  exact ⟨rfl, hB⟩

set_option maxRecDepth 100000 in
theorem lifted (os : Os) (started : os.Started) (H : Type) (enc : TypeId × Value → H) :
    ReturnsInHanded {} Try.checked os 4 .any (Rows.fnExactApplyObservationSpec.pre6 enc Try.prog Try.f4 Rows.fnExactApplyObservationRow.domain false) (Rows.fnExactApplyObservationSpec.post enc Try.prog Try.f4 false true false false) := by
  refine returnsInHanded_of_change (C := Try.checked) own started (by kernel_rfl) Try.func4
    (ChangeSpec.witness6 (enc := enc) (C := Try.checked) false ⟨#[], #[.agg #[.slice none 0 0, .slice none 0 0], .agg #[.int .i64 0, .int .i64 0, .bool false]], []⟩ 8 (by kernel_rfl) (by kernel_rfl) (by kernel_rfl) (by kernel_rfl)) ?_
  intro W base args ds gs before hval0 hW hcnd _
  have hval : ∀ (j : Nat) t v, Try.f4.params[j]? = some t → args[j]? = some v → Value.okWide Try.prog W .any base t v := hval0
  have hW' := hW
  obtain ⟨p, q, hA0, hV, rfl, hfz, hnd⟩ := hW
  have hA : DataW.TrodAll enc Try.prog W 0 (fun _ => true) true Try.f4.params.toList args.toList ds p := hA0
  rw [Try.params4] at hA hval
  obtain ⟨v0, vs0, d0, ds0, p0, q0, hargs, rfl, rfl, h0, r0⟩ := trodAll_cons hA
  obtain ⟨v1, vs1, d1, ds1, p1, q1, rfl, rfl, rfl, h1, r1⟩ := trodAll_cons r0
  obtain ⟨rfl, rfl, rfl⟩ := trodAll_nil r1
  obtain rfl : args = #[v0, v1] := by cases args; simp_all
  obtain ⟨rfl, rfl⟩ := trodVars_none hV
  obtain ⟨ca0, rfl, _⟩ := okWide_struct Try.underlying34 (hval 0 34 v0 rfl rfl)
  obtain ⟨cl0⟩ := ca0
  have k0 := h0
  have lt0 : ∀ x ∈ p0, x.block < W.heap.size := by obtain ⟨m, hm⟩ := k0; exact DataW.trod_lt m _ _ _ hm
  obtain ⟨x0, g0⟩ : ∃ x, (rBox maxLen).rep W cl0 x := by
    obtain ⟨fuel, hf⟩ := h0
    exact opensBox hf
  obtain ⟨ca1, rfl, _⟩ := okWide_struct Try.underlying36 (hval 1 36 v1 rfl rfl)
  obtain ⟨cl1⟩ := ca1
  have k1 := h1
  have lt1 : ∀ x ∈ p1, x.block < W.heap.size := by obtain ⟨m, hm⟩ := k1; exact DataW.trod_lt m _ _ _ hm
  obtain ⟨x1, g1⟩ : ∃ x, (rObservation maxLen).rep W cl1 x := by
    obtain ⟨fuel, hf⟩ := h1
    exact opensObservation hf
  clear hA0 hval0
  refine (walk cl0 x0 cl1 x1 W g0 g1).mono fun e W' ⟨he, bel⟩ => ?_
  subst he
  exact ⟨_, rfl, _, _, _, [], _, [], hW', trodAll_mk1 (shut_bool Try.underlying4 _), (trodAll_cons_mk (Below.trod laidOut (by kernel_rfl) (of_decide_eq_true (by kernel_rfl)) k0 bel lt0) (trodAll_cons_mk (Below.trod laidOut (by kernel_rfl) (of_decide_eq_true (by kernel_rfl)) k1 bel lt1) trodAll_mk0)), rfl, bel.frame _, fun h => by cases h⟩

theorem over : Rows.fnExactApplyObservationRow.holds Try.pinned (OpenSpec.ofChange Rows.fnExactApplyObservationSpec) :=
  OpenClaim.holds_of_wide 4 Try.f4 rfl rfl rfl rfl rfl rfl rfl ⟨rfl, rfl, rfl, rfl, rfl⟩ rfl rfl rfl rfl rfl (by kernel_rfl) Try.func4 (by kernel_rfl)
    (of_decide_eq_true (by kernel_rfl)) (by unfold Func.isWrapper; first | (rw [if_pos (by decide +kernel)]; kernel_rfl) | (rw [if_neg (by decide +kernel)]; exact ⟨rfl, rfl⟩))
    (fun os started H enc _ => lifted os started H enc)

theorem proved : Rows.FnExactApplyObservationSaid := over
#print axioms proved
end Go.Proofs.Ytbipbinbehkjhaa.fnExactApplyObservation
