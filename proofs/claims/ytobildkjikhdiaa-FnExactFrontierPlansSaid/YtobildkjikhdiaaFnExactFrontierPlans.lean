/-
  For every input the law FnExactFrontierPlans returns true and leaves its arguments as they were; no condition beyond the statement's own.
-/
import Derived.Test.YtobildkjikhdiaaRows
import Derived.Test.YtobildkjikhdiaaOpens
import Derived.Test.YtobildkjikhdiaaTo
import Derived.Test.YtobildkjikhdiaaEq
import Derived.Test.YtobildkjikhdiaaFront
import Derived.WalkKit
import Derived.ProofKit
import Derived.OpenShut
import Derived.ShutString
import Derived.ChangeOld
import Derived.Below
import Derived.Deep.RegionHeld3
import Derived.Test.YtobildkjikhdiaaMark
import Derived.Test.YtobildkjikhdiaaMarkC
namespace Go.Proofs.Ytobildkjikhdiaa.fnExactFrontierPlans
open Go.ChangeShapes Go.WideShapes Go.ChangeAt Go.RowKit
open Go.ChangeMaps (open_string shut_string)
set_option linter.unusedVariables false
set_option linter.unusedSimpArgs false

theorem own : ownKnob Try.prog.godebug = none := by kernel_rfl
theorem laidOut : laidOutB Try.prog = true := by kernel_rfl

set_option maxRecDepth 100000 in
set_option maxHeartbeats 4000000 in
theorem walk (csS : List Value) (xS : SpaceD) (AFrontier : Option Addr) (nFrontier kFrontier : Nat) (lFrontier : List Int) (w : World) (rS : (rSpace maxLen).rep w csS xS) (rFrontier : RS maxLen rInt w AFrontier nFrontier kFrontier lFrontier) :
    Calls Try.prog 14 #[.agg csS.toArray, .slice AFrontier nFrontier kFrontier] w fun e w' => e = .returned (.bool true) ∧ Below w.heap.size w w' := by
  have hB : Below w.heap.size w w := Below.refl _ _
  have qS := rS
  obtain ⟨ASBoxLow, nSBoxLow, cSBoxLow, ASBoxHigh, nSBoxHigh, cSBoxHigh, ASCosts, nSCosts, cSCosts, ASChoices, nSChoices, cSChoices, ASPlans, nSPlans, cSPlans, rfl, hSBoxLow, hSBoxHigh, hSCosts, hSChoices, hSPlans⟩ := rSpace_rep.1 qS
  clear qS
  by_cases hsz : nFrontier ≤ 1048576
  rotate_left
  · have hnFrontier : nFrontier ≤ 9223372036854775807 := rFrontier.nb
    go_enter Try.func14, Try.ntmps14
    go_wp2
    go_ret
    exact ⟨rfl, (by repeat' (first | with_reducible exact hB | with_reducible refine Below.setCell ?_ ?_ _ | with_reducible refine Below.alloc ?_ ?_ _ | (simp; done) | (simp; omega) | omega))⟩
  have sFrontier := smallIntS rFrontier (by have := rFrontier.len; omega)
  go_enter Try.func14, Try.ntmps14
  have hA1 := (Below.refl (World.heap (w)).size (w)).alloc (Nat.le_refl _) (.cells #[.slice ASBoxLow nSBoxLow cSBoxLow, .slice ASBoxHigh nSBoxHigh cSBoxHigh, .slice ASCosts nSCosts cSCosts, .slice ASChoices nSChoices cSChoices, .slice ASPlans nSPlans cSPlans] 71)
  replace hB := hB.trans (hA1.mono hB.size)
  have bxS := Bx.new (w) [.slice ASBoxLow nSBoxLow cSBoxLow, .slice ASBoxHigh nSBoxHigh cSBoxHigh, .slice ASCosts nSCosts cSCosts, .slice ASChoices nSChoices cSChoices, .slice ASPlans nSPlans cSPlans] 71
  clear hA1
  go_wp2_with fail
  refine (szSpace_c _ xS _ _ ((rSpace_ok maxLen).keep rS (cells_below hB)) (by omega) (by omega)).mono ?_
  rintro e w3 ⟨rfl, hb2⟩
  have z4 := hb2.size
  try simp only [World.size_alloc] at z4
  have Hz4 := Lib.hid z4; clear z4
  replace hB := hB.trans (hb2.mono hB.size)
  replace bxS := bxS.below hb2
  clear hb2
  by_cases hszS : ((bulkSpace xS : Nat) : Int) ≤ 1048576
  rotate_left
  · rw [lessBy_no hszS]
    go_wp2
    go_ret
    exact ⟨rfl, hB⟩
  rw [lessBy_yes hszS]
  have sS := smallSpace rS (by omega)
  obtain ⟨L5, hL5⟩ : ∃ L : Int, L = 1048576 - ((bulkSpace xS : Nat) : Int) := ⟨_, rfl⟩
  rw [← hL5]
  have pL5 : 0 ≤ L5 := by omega
  have uL5 : L5 ≤ 1048576 := by omega
  clear hL5
  have cbxS_0 := bxS 0 _ rfl
  have cbxS_1 := bxS 1 _ rfl
  have cbxS_2 := bxS 2 _ rfl
  have cbxS_3 := bxS 3 _ rfl
  have cbxS_4 := bxS 4 _ rfl
  go_wp2_with fail
  refine (toSpace_c _ xS _ ((rSpace_ok NB).keep sS (cells_below hB))).mono ?_
  rintro e w7 ⟨csv6, fv6, rfl, ov6, frv6, hb8⟩
  have z9 := hb8.size
  try simp only [World.size_alloc] at z9
  have Hz9 := Lib.hid z9; clear z9
  replace hB := hB.trans (hb8.mono hB.size)
  replace bxS := bxS.below hb8
  clear hb8 cbxS_0 cbxS_1 cbxS_2 cbxS_3 cbxS_4
  have Rv6 := (rSpace_ok NB).toRep ov6
  have cbxS_0 := bxS 0 _ rfl
  have cbxS_1 := bxS 1 _ rfl
  have cbxS_2 := bxS 2 _ rfl
  have cbxS_3 := bxS 3 _ rfl
  have cbxS_4 := bxS 4 _ rfl
  go_wp2_with fail
  refine (toIntS_c _ _ _ _ _ (sFrontier.below rInt_ok hB)).mono ?_
  rintro e w11 ⟨Av10, nv10, cv10, rfl, ⟨fv10, Mv10, frv10⟩, hb12⟩
  have z13 := hb12.size
  try simp only [World.size_alloc] at z13
  have Hz13 := Lib.hid z13; clear z13
  replace hB := hB.trans (hb12.mono hB.size)
  replace bxS := bxS.below hb12
  replace Rv6 := (rSpace_ok NB).keep Rv6 (cells_below hb12)
  clear hb12 cbxS_0 cbxS_1 cbxS_2 cbxS_3 cbxS_4
  have Rv10 := Mv10.rs rInt_ok
  have cbxS_0 := bxS 0 _ rfl
  have cbxS_1 := bxS 1 _ rfl
  have cbxS_2 := bxS 2 _ rfl
  have cbxS_3 := bxS 3 _ rfl
  have cbxS_4 := bxS 4 _ rfl
  go_wp2_with fail
  refine (sFrontierPlans_c _ xS _ _ _ _ _ Rv6 Rv10).mono ?_
  rintro e w14 ⟨Aw0, nw0, cw0, rfl, ⟨fw0, ow0, frw0⟩, hb15⟩
  have z16 := hb15.size
  try simp only [World.size_alloc] at z16
  have Hz16 := Lib.hid z16; clear z16
  replace hB := hB.trans (hb15.mono hB.size)
  replace bxS := bxS.below hb15
  clear hb15 cbxS_0 cbxS_1 cbxS_2 cbxS_3 cbxS_4
  have ltw0 := Lib.hid (ow0.lt rInt_ok)
  have fsw0 := frw0
  have HFw0 : Hid (∀ k ∈ fw0, _ ≤ k) := fsw0.ge
  try simp only [World.size_alloc] at HFw0
  have ndw0 := fsw0.nd; have NDw0 := Lib.hid ndw0; clear ndw0 fsw0
  have cbxS_0 := bxS 0 _ rfl
  have cbxS_1 := bxS 1 _ rfl
  have cbxS_2 := bxS 2 _ rfl
  have cbxS_3 := bxS 3 _ rfl
  have cbxS_4 := bxS 4 _ rfl
  go_wp2_with fail
  refine (toSpace_c _ xS _ ((rSpace_ok NB).keep sS (cells_below hB))).mono ?_
  rintro e w17 ⟨csx0, fx0, rfl, ox0, frx0, hb18⟩
  have z19 := hb18.size
  try simp only [World.size_alloc] at z19
  have Hz19 := Lib.hid z19; clear z19
  replace ow0 := ow0.belowS rInt_ok hb18
  replace hB := hB.trans (hb18.mono hB.size)
  replace bxS := bxS.below hb18
  clear hb18 cbxS_0 cbxS_1 cbxS_2 cbxS_3 cbxS_4
  have ltx0 := Lib.hid ((rSpace_ok NB).lt ox0)
  have fsx0 := frx0
  have HFx0 : Hid (∀ k ∈ fx0, _ ≤ k) := fsx0.ge
  try simp only [World.size_alloc] at HFx0
  have ndx0 := fsx0.nd; have NDx0 := Lib.hid ndx0; clear ndx0 fsx0
  obtain ⟨Ax0BoxLow, nx0BoxLow, cx0BoxLow, Ax0BoxHigh, nx0BoxHigh, cx0BoxHigh, Ax0Costs, nx0Costs, cx0Costs, Ax0Choices, nx0Choices, cx0Choices, Ax0Plans, nx0Plans, cx0Plans, rfl, _, _, _, _, _⟩ := rSpace_rep.1 ((rSpace_ok NB).toRep ox0)
  have hA20 := (Below.refl w17.heap.size w17).alloc (Nat.le_refl _) (.cells #[.slice Ax0BoxLow nx0BoxLow cx0BoxLow, .slice Ax0BoxHigh nx0BoxHigh cx0BoxHigh, .slice Ax0Costs nx0Costs cx0Costs, .slice Ax0Choices nx0Choices cx0Choices, .slice Ax0Plans nx0Plans cx0Plans] 76)
  replace ow0 := ow0.belowS rInt_ok hA20
  replace ox0 := (rSpace_ok NB).ownB ox0 hA20
  replace hB := hB.trans (hA20.mono hB.size)
  replace bxS := bxS.below hA20
  have bxx0 := Bx.new w17 [.slice Ax0BoxLow nx0BoxLow cx0BoxLow, .slice Ax0BoxHigh nx0BoxHigh cx0BoxHigh, .slice Ax0Costs nx0Costs cx0Costs, .slice Ax0Choices nx0Choices cx0Choices, .slice Ax0Plans nx0Plans cx0Plans] 76
  clear hA20
  go_wp2_with fail
  refine (toIntS_c _ _ _ _ _ (sFrontier.below rInt_ok hB)).mono ?_
  rintro e w21 ⟨Ax1, nx1, cx1, rfl, ⟨fx1, ox1, frx1⟩, hb22⟩
  have z23 := hb22.size
  try simp only [World.size_alloc] at z23
  have Hz23 := Lib.hid z23; clear z23
  replace ow0 := ow0.belowS rInt_ok hb22
  replace ox0 := (rSpace_ok NB).ownB ox0 hb22
  replace hB := hB.trans (hb22.mono hB.size)
  replace bxS := bxS.below hb22
  replace bxx0 := bxx0.below hb22
  clear hb22
  have ltx1 := Lib.hid (ox1.lt rInt_ok)
  have fsx1 := frx1
  have HFx1 : Hid (∀ k ∈ fx1, _ ≤ k) := fsx1.ge
  try simp only [World.size_alloc] at HFx1
  have ndx1 := fsx1.nd; have NDx1 := Lib.hid ndx1; clear ndx1 fsx1
  have cbxx0_0 := bxx0 0 _ rfl
  have cbxx0_1 := bxx0 1 _ rfl
  have cbxx0_2 := bxx0 2 _ rfl
  have cbxx0_3 := bxx0 3 _ rfl
  have cbxx0_4 := bxx0 4 _ rfl
  go_wp2_with fail
  refine (iFrontierPlans_c _ xS _ _ _ _ _ ((rSpace_ok NB).toRep ox0) (ox1.rs rInt_ok)).mono ?_
  rintro e w24 ⟨Ag0, ng0, cg0, rfl, ⟨fg0, og0, frg0⟩, hb25⟩
  have z26 := hb25.size
  try simp only [World.size_alloc] at z26
  have Hz26 := Lib.hid z26; clear z26
  replace ow0 := ow0.belowS rInt_ok hb25
  replace ox0 := (rSpace_ok NB).ownB ox0 hb25
  replace ox1 := ox1.belowS rInt_ok hb25
  replace hB := hB.trans (hb25.mono hB.size)
  replace bxS := bxS.below hb25
  replace bxx0 := bxx0.below hb25
  clear hb25 cbxx0_0 cbxx0_1 cbxx0_2 cbxx0_3 cbxx0_4
  have ltg0 := Lib.hid (og0.lt rInt_ok)
  have fsg0 := frg0
  have HFg0 : Hid (∀ k ∈ fg0, _ ≤ k) := fsg0.ge
  try simp only [World.size_alloc] at HFg0
  have ndg0 := fsg0.nd; have NDg0 := Lib.hid ndg0; clear ndg0 fsg0
  have hnei : ∀ v : Int, (v != v) = false := fun v => by simp
  have hneb : ∀ v : Bool, (v == v) = true := fun v => by simp
  go_wp2_with fail
  refine (eqIntS_b _ _ _ _ _ _ _ _ _ (og0.rs rInt_ok) (ow0.rs rInt_ok)).mono ?_
  rintro e w27 ⟨rfl, hb28⟩
  have z29 := hb28.size
  try simp only [World.size_alloc] at z29
  have Hz29 := Lib.hid z29; clear z29
  replace ow0 := ow0.belowS rInt_ok hb28
  replace ox0 := (rSpace_ok NB).ownB ox0 hb28
  replace ox1 := ox1.belowS rInt_ok hb28
  replace og0 := og0.belowS rInt_ok hb28
  replace hB := hB.trans (hb28.mono hB.size)
  replace bxS := bxS.below hb28
  replace bxx0 := bxx0.below hb28
  clear hb28
  have hdr30 : decide ((frontierPlans xS lFrontier) = (frontierPlans xS lFrontier)) = true := by simp
  go_wp2_with fail
  have SS31 : ∀ w', Below w27.heap.size w27 w' → (Below w27.heap.size w27 w' ∧ w'.cell? ⟨w.heap.size, 0, none⟩ = some (.slice ASBoxLow nSBoxLow cSBoxLow) ∧ w'.cell? ⟨w.heap.size, 1, none⟩ = some (.slice ASBoxHigh nSBoxHigh cSBoxHigh) ∧ w'.cell? ⟨w.heap.size, 2, none⟩ = some (.slice ASCosts nSCosts cSCosts) ∧ w'.cell? ⟨w.heap.size, 3, none⟩ = some (.slice ASChoices nSChoices cSChoices) ∧ w'.cell? ⟨w.heap.size, 4, none⟩ = some (.slice ASPlans nSPlans cSPlans) ∧ w'.cell? ⟨w17.heap.size, 0, none⟩ = some (.slice Ax0BoxLow nx0BoxLow cx0BoxLow) ∧ w'.cell? ⟨w17.heap.size, 1, none⟩ = some (.slice Ax0BoxHigh nx0BoxHigh cx0BoxHigh) ∧ w'.cell? ⟨w17.heap.size, 2, none⟩ = some (.slice Ax0Costs nx0Costs cx0Costs) ∧ w'.cell? ⟨w17.heap.size, 3, none⟩ = some (.slice Ax0Choices nx0Choices cx0Choices) ∧ w'.cell? ⟨w17.heap.size, 4, none⟩ = some (.slice Ax0Plans nx0Plans cx0Plans)) := fun w' hb => ⟨hb, bxS.below hb 0 _ rfl, bxS.below hb 1 _ rfl, bxS.below hb 2 _ rfl, bxS.below hb 3 _ rfl, bxS.below hb 4 _ rfl, bxx0.below hb 0 _ rfl, bxx0.below hb 1 _ rfl, bxx0.below hb 2 _ rfl, bxx0.below hb 3 _ rfl, bxx0.below hb 4 _ rfl⟩
  have HSS31 := Lib.hid SS31; clear SS31
  have tok36 : True := trivial
  have tok40 : True := trivial
  go_region_held3 (fun w' => Below w27.heap.size w27 w' ∧ w'.cell? ⟨w.heap.size, 0, none⟩ = some (.slice ASBoxLow nSBoxLow cSBoxLow) ∧ w'.cell? ⟨w.heap.size, 1, none⟩ = some (.slice ASBoxHigh nSBoxHigh cSBoxHigh) ∧ w'.cell? ⟨w.heap.size, 2, none⟩ = some (.slice ASCosts nSCosts cSCosts) ∧ w'.cell? ⟨w.heap.size, 3, none⟩ = some (.slice ASChoices nSChoices cSChoices) ∧ w'.cell? ⟨w.heap.size, 4, none⟩ = some (.slice ASPlans nSPlans cSPlans) ∧ w'.cell? ⟨w17.heap.size, 0, none⟩ = some (.slice Ax0BoxLow nx0BoxLow cx0BoxLow) ∧ w'.cell? ⟨w17.heap.size, 1, none⟩ = some (.slice Ax0BoxHigh nx0BoxHigh cx0BoxHigh) ∧ w'.cell? ⟨w17.heap.size, 2, none⟩ = some (.slice Ax0Costs nx0Costs cx0Costs) ∧ w'.cell? ⟨w17.heap.size, 3, none⟩ = some (.slice Ax0Choices nx0Choices cx0Choices) ∧ w'.cell? ⟨w17.heap.size, 4, none⟩ = some (.slice Ax0Plans nx0Plans cx0Plans)) (first | exact HSS31.out _ (Below.refl _ _).drew | exact HSS31.out _ (by assumption)) (first | (go_at_call 46; have _t := tok36; refine (toSpace_c _ xS _ ((rSpace_ok NB).keep sS (cells_below (hB.trans (Below.mono ((Below.refl w27.heap.size w27).drew) hB.size))))).mono ?_; rintro e w33 ⟨csv32, fv32, rfl, ov32, frv32, hb34⟩; have hC35 : Below w27.heap.size w27 w33 := Below.trans ((Below.refl w27.heap.size w27).drew) (hb34.mono ((Below.refl w27.heap.size w27).drew).size); have Rv32 := (rSpace_ok NB).toRep ov32; clear tok36) | (go_at_call 48; have _t := tok40; refine (eqSpace_c _ _ xS xS _ ((rSpace_ok NB).keep ((rSpace_ok NB).toRep ox0) (cells_below (hC35))) Rv32).mono ?_; rintro e w37 ⟨rfl, hb38⟩; have hC39 : Below w27.heap.size w27 w37 := Below.trans (hC35) (hb38.mono (hC35).size); clear tok40))
  have z41 := hC39.size
  try simp only [World.size_alloc] at z41
  have Hz41 := Lib.hid z41; clear z41
  replace ow0 := ow0.belowS rInt_ok hC39
  replace ox0 := (rSpace_ok NB).ownB ox0 hC39
  replace ox1 := ox1.belowS rInt_ok hC39
  replace og0 := og0.belowS rInt_ok hC39
  replace hB := hB.trans (hC39.mono hB.size)
  replace bxS := bxS.below hC39
  replace bxx0 := bxx0.below hC39
  clear HSS31 hC39
  have hdx0 : decide (xS = xS) = true := by simp
  go_wp2_with fail
  refine (toIntS_c _ _ _ _ _ (sFrontier.below rInt_ok hB)).mono ?_
  rintro e w42 ⟨Av44, nv44, cv44, rfl, ⟨fv44, Mv44, frv44⟩, hb43⟩
  have z45 := hb43.size
  try simp only [World.size_alloc] at z45
  have Hz45 := Lib.hid z45; clear z45
  replace ow0 := ow0.belowS rInt_ok hb43
  replace ox0 := (rSpace_ok NB).ownB ox0 hb43
  replace ox1 := ox1.belowS rInt_ok hb43
  replace og0 := og0.belowS rInt_ok hb43
  replace hB := hB.trans (hb43.mono hB.size)
  replace bxS := bxS.below hb43
  replace bxx0 := bxx0.below hb43
  clear hb43
  have Rv44 := Mv44.rs rInt_ok
  go_wp2_with fail
  refine (eqIntS_b _ _ _ _ _ _ _ _ _ (ox1.rs rInt_ok) Rv44).mono ?_
  rintro e w46 ⟨rfl, hb47⟩
  have z48 := hb47.size
  try simp only [World.size_alloc] at z48
  have Hz48 := Lib.hid z48; clear z48
  replace ow0 := ow0.belowS rInt_ok hb47
  replace ox0 := (rSpace_ok NB).ownB ox0 hb47
  replace ox1 := ox1.belowS rInt_ok hb47
  replace og0 := og0.belowS rInt_ok hb47
  replace hB := hB.trans (hb47.mono hB.size)
  replace bxS := bxS.below hb47
  replace bxx0 := bxx0.below hb47
  clear hb47
  have hdx1 : decide (lFrontier = lFrontier) = true := by simp
  have hcbr : Hid ((cnt_IntS (frontierPlans xS lFrontier)) ≤ 1099511627776) := (by show _ ≤ _; exact (by have e := cnto_IntS og0; omega))
  have cbxx0_0 := bxx0 0 _ rfl
  have cbxx0_1 := bxx0 1 _ rfl
  have cbxx0_2 := bxx0 2 _ rfl
  have cbxx0_3 := bxx0 3 _ rfl
  have cbxx0_4 := bxx0 4 _ rfl
  go_wp2_with fail
  have hcbw49 : (cnt_Space (xS)) ≤ 1099511627776 := (by have e := cntb_Space xS; omega)
  refine (markSpace_m _ (xS) 1 _ fx0 ox0 NDx0.out (by omega) (by omega)).mono ?_
  rintro e w49 ⟨rfl, omw49, hc50⟩
  replace hB := hB.trans (hc50.toBelow hB.size (fun k hk => by have := HFx0.out k hk; have := Hz4.out; have := Hz9.out; have := Hz13.out; have := Hz16.out; have := Hz19.out; have := Hz23.out; have := Hz26.out; have := Hz29.out; have := Hz41.out; have := Hz45.out; have := Hz48.out; omega))
  replace bxS := bxS.chg hc50 (fun hk => by have := HFx0.out _ hk; have := ltx0.out _ hk; have := Hz4.out; have := Hz9.out; have := Hz13.out; have := Hz16.out; have := Hz19.out; have := Hz23.out; have := Hz26.out; have := Hz29.out; have := Hz41.out; have := Hz45.out; have := Hz48.out; omega)
  replace bxx0 := bxx0.chg hc50 (fun hk => by have := HFx0.out _ hk; have := ltx0.out _ hk; have := Hz4.out; have := Hz9.out; have := Hz13.out; have := Hz16.out; have := Hz19.out; have := Hz23.out; have := Hz26.out; have := Hz29.out; have := Hz41.out; have := Hz45.out; have := Hz48.out; omega)
  replace ow0 := ow0.chg rInt_ok hc50 (fun k hk hk' => by have := HFw0.out k hk; have := ltw0.out k hk; have := HFx0.out k hk'; have := ltx0.out k hk'; have := Hz4.out; have := Hz9.out; have := Hz13.out; have := Hz16.out; have := Hz19.out; have := Hz23.out; have := Hz26.out; have := Hz29.out; have := Hz41.out; have := Hz45.out; have := Hz48.out; omega)
  replace ox1 := ox1.chg rInt_ok hc50 (fun k hk hk' => by have := HFx1.out k hk; have := ltx1.out k hk; have := HFx0.out k hk'; have := ltx0.out k hk'; have := Hz4.out; have := Hz9.out; have := Hz13.out; have := Hz16.out; have := Hz19.out; have := Hz23.out; have := Hz26.out; have := Hz29.out; have := Hz41.out; have := Hz45.out; have := Hz48.out; omega)
  replace og0 := og0.chg rInt_ok hc50 (fun k hk hk' => by have := HFg0.out k hk; have := ltg0.out k hk; have := HFx0.out k hk'; have := ltx0.out k hk'; have := Hz4.out; have := Hz9.out; have := Hz13.out; have := Hz16.out; have := Hz19.out; have := Hz23.out; have := Hz26.out; have := Hz29.out; have := Hz41.out; have := Hz45.out; have := Hz48.out; omega)
  clear ox0; have ox0 := omw49; clear omw49
  have Hz51 := Lib.hid hc50.size
  try simp only [World.size_alloc] at Hz51
  clear hc50 cbxx0_0 cbxx0_1 cbxx0_2 cbxx0_3 cbxx0_4
  obtain ⟨kk52, hkk52⟩ : ∃ q : Int, q = 1 + ((cnt_Space (xS)) : Nat) := ⟨_, rfl⟩
  rw [← hkk52]
  have pkk52 : 0 ≤ kk52 := by omega
  have ukk52 : kk52 ≤ 2199023255552 := by omega
  have Hkkk52 := Lib.hid hkk52; clear hkk52 hcbw49
  go_wp2_with fail
  have hcbw53 : (cnt_IntS (lFrontier)) ≤ 1099511627776 := (by have := rFrontier.len; unfold cnt_IntS; omega)
  refine (markIntS_m _ _ _ _ kk52 _ _ ox1 NDx1.out (by omega) (by omega)).mono ?_
  rintro e w53 ⟨rfl, omw53, hc54⟩
  replace hB := hB.trans (hc54.toBelow hB.size (fun k hk => by have := HFx1.out k hk; have := Hz4.out; have := Hz9.out; have := Hz13.out; have := Hz16.out; have := Hz19.out; have := Hz23.out; have := Hz26.out; have := Hz29.out; have := Hz41.out; have := Hz45.out; have := Hz48.out; have := Hz51.out; omega))
  replace bxS := bxS.chg hc54 (fun hk => by have := HFx1.out _ hk; have := ltx1.out _ hk; have := Hz4.out; have := Hz9.out; have := Hz13.out; have := Hz16.out; have := Hz19.out; have := Hz23.out; have := Hz26.out; have := Hz29.out; have := Hz41.out; have := Hz45.out; have := Hz48.out; have := Hz51.out; omega)
  replace bxx0 := bxx0.chg hc54 (fun hk => by have := HFx1.out _ hk; have := ltx1.out _ hk; have := Hz4.out; have := Hz9.out; have := Hz13.out; have := Hz16.out; have := Hz19.out; have := Hz23.out; have := Hz26.out; have := Hz29.out; have := Hz41.out; have := Hz45.out; have := Hz48.out; have := Hz51.out; omega)
  replace ow0 := ow0.chg rInt_ok hc54 (fun k hk hk' => by have := HFw0.out k hk; have := ltw0.out k hk; have := HFx1.out k hk'; have := ltx1.out k hk'; have := Hz4.out; have := Hz9.out; have := Hz13.out; have := Hz16.out; have := Hz19.out; have := Hz23.out; have := Hz26.out; have := Hz29.out; have := Hz41.out; have := Hz45.out; have := Hz48.out; have := Hz51.out; omega)
  replace ox0 := (rSpace_ok NB).ownC ox0 hc54 (fun k hk hk' => by have := HFx0.out k hk; have := ltx0.out k hk; have := HFx1.out k hk'; have := ltx1.out k hk'; have := Hz4.out; have := Hz9.out; have := Hz13.out; have := Hz16.out; have := Hz19.out; have := Hz23.out; have := Hz26.out; have := Hz29.out; have := Hz41.out; have := Hz45.out; have := Hz48.out; have := Hz51.out; omega)
  replace og0 := og0.chg rInt_ok hc54 (fun k hk hk' => by have := HFg0.out k hk; have := ltg0.out k hk; have := HFx1.out k hk'; have := ltx1.out k hk'; have := Hz4.out; have := Hz9.out; have := Hz13.out; have := Hz16.out; have := Hz19.out; have := Hz23.out; have := Hz26.out; have := Hz29.out; have := Hz41.out; have := Hz45.out; have := Hz48.out; have := Hz51.out; omega)
  clear ox1; have ox1 := omw53; clear omw53
  have Hz55 := Lib.hid hc54.size
  try simp only [World.size_alloc] at Hz55
  clear hc54
  obtain ⟨kk56, hkk56⟩ : ∃ q : Int, q = kk52 + ((cnt_IntS (lFrontier)) : Nat) := ⟨_, rfl⟩
  rw [← hkk56]
  have pkk56 : 0 ≤ kk56 := by omega
  have ukk56 : kk56 ≤ 4398046511104 := by omega
  have Hkkk56 := Lib.hid hkk56; clear hkk56 hcbw53
  go_wp2_with fail
  refine (eqIntS_b _ _ _ _ _ _ _ _ _ (og0.rs rInt_ok) (ow0.rs rInt_ok)).mono ?_
  rintro e w57 ⟨rfl, hb58⟩
  have z59 := hb58.size
  try simp only [World.size_alloc] at z59
  have Hz59 := Lib.hid z59; clear z59
  replace ow0 := ow0.belowS rInt_ok hb58
  replace ox0 := (rSpace_ok NB).ownB ox0 hb58
  replace ox1 := ox1.belowS rInt_ok hb58
  replace og0 := og0.belowS rInt_ok hb58
  replace hB := hB.trans (hb58.mono hB.size)
  replace bxS := bxS.below hb58
  replace bxx0 := bxx0.below hb58
  clear hb58
  have hdr60 : decide ((frontierPlans xS lFrontier) = (frontierPlans xS lFrontier)) = true := by simp
  go_wp2_with fail
  have hcbw61 : (cnt_IntS (frontierPlans xS lFrontier)) ≤ 1099511627776 := hcbr.out
  refine (markIntS_m _ _ _ _ 1 _ _ og0 NDg0.out (by omega) (by omega)).mono ?_
  rintro e w61 ⟨rfl, omw61, hc62⟩
  replace hB := hB.trans (hc62.toBelow hB.size (fun k hk => by have := HFg0.out k hk; have := Hz4.out; have := Hz9.out; have := Hz13.out; have := Hz16.out; have := Hz19.out; have := Hz23.out; have := Hz26.out; have := Hz29.out; have := Hz41.out; have := Hz45.out; have := Hz48.out; have := Hz51.out; have := Hz55.out; have := Hz59.out; omega))
  replace bxS := bxS.chg hc62 (fun hk => by have := HFg0.out _ hk; have := ltg0.out _ hk; have := Hz4.out; have := Hz9.out; have := Hz13.out; have := Hz16.out; have := Hz19.out; have := Hz23.out; have := Hz26.out; have := Hz29.out; have := Hz41.out; have := Hz45.out; have := Hz48.out; have := Hz51.out; have := Hz55.out; have := Hz59.out; omega)
  replace bxx0 := bxx0.chg hc62 (fun hk => by have := HFg0.out _ hk; have := ltg0.out _ hk; have := Hz4.out; have := Hz9.out; have := Hz13.out; have := Hz16.out; have := Hz19.out; have := Hz23.out; have := Hz26.out; have := Hz29.out; have := Hz41.out; have := Hz45.out; have := Hz48.out; have := Hz51.out; have := Hz55.out; have := Hz59.out; omega)
  replace ow0 := ow0.chg rInt_ok hc62 (fun k hk hk' => by have := HFw0.out k hk; have := ltw0.out k hk; have := HFg0.out k hk'; have := ltg0.out k hk'; have := Hz4.out; have := Hz9.out; have := Hz13.out; have := Hz16.out; have := Hz19.out; have := Hz23.out; have := Hz26.out; have := Hz29.out; have := Hz41.out; have := Hz45.out; have := Hz48.out; have := Hz51.out; have := Hz55.out; have := Hz59.out; omega)
  replace ox0 := (rSpace_ok NB).ownC ox0 hc62 (fun k hk hk' => by have := HFx0.out k hk; have := ltx0.out k hk; have := HFg0.out k hk'; have := ltg0.out k hk'; have := Hz4.out; have := Hz9.out; have := Hz13.out; have := Hz16.out; have := Hz19.out; have := Hz23.out; have := Hz26.out; have := Hz29.out; have := Hz41.out; have := Hz45.out; have := Hz48.out; have := Hz51.out; have := Hz55.out; have := Hz59.out; omega)
  replace ox1 := ox1.chg rInt_ok hc62 (fun k hk hk' => by have := HFx1.out k hk; have := ltx1.out k hk; have := HFg0.out k hk'; have := ltg0.out k hk'; have := Hz4.out; have := Hz9.out; have := Hz13.out; have := Hz16.out; have := Hz19.out; have := Hz23.out; have := Hz26.out; have := Hz29.out; have := Hz41.out; have := Hz45.out; have := Hz48.out; have := Hz51.out; have := Hz55.out; have := Hz59.out; omega)
  clear og0; have og0 := omw61; clear omw61
  have Hz63 := Lib.hid hc62.size
  try simp only [World.size_alloc] at Hz63
  clear hc62
  obtain ⟨kk64, hkk64⟩ : ∃ q : Int, q = 1 + ((cnt_IntS (frontierPlans xS lFrontier)) : Nat) := ⟨_, rfl⟩
  rw [← hkk64]
  have pkk64 : 0 ≤ kk64 := by omega
  have ukk64 : kk64 ≤ 2199023255552 := by omega
  have Hkkk64 := Lib.hid hkk64; clear hkk64 hcbw61
  go_wp2_with fail
  have hcbw65 : (cnt_IntS (frontierPlans xS lFrontier)) ≤ 1099511627776 := hcbr.out
  refine (heldIntS_m _ _ _ (frontierPlans xS lFrontier) 1 _ (og0.rs rInt_ok) (by omega) (by omega)).mono ?_
  rintro e w65 ⟨rfl, hb66⟩
  have z67 := hb66.size
  try simp only [World.size_alloc] at z67
  have Hz67 := Lib.hid z67; clear z67
  replace ow0 := ow0.belowS rInt_ok hb66
  replace ox0 := (rSpace_ok NB).ownB ox0 hb66
  replace ox1 := ox1.belowS rInt_ok hb66
  replace og0 := og0.belowS rInt_ok hb66
  replace hB := hB.trans (hb66.mono hB.size)
  replace bxS := bxS.below hb66
  replace bxx0 := bxx0.below hb66
  clear hb66 hcbw65
  rw [← Hkkk64.out]
  have cbxS_0 := bxS 0 _ rfl
  have cbxS_1 := bxS 1 _ rfl
  have cbxS_2 := bxS 2 _ rfl
  have cbxS_3 := bxS 3 _ rfl
  have cbxS_4 := bxS 4 _ rfl
  go_wp2_with fail
  refine (toSpace_c _ xS _ ((rSpace_ok NB).keep sS (cells_below hB))).mono ?_
  rintro e w69 ⟨csv68, fv68, rfl, ov68, frv68, hb70⟩
  have z71 := hb70.size
  try simp only [World.size_alloc] at z71
  have Hz71 := Lib.hid z71; clear z71
  replace ow0 := ow0.belowS rInt_ok hb70
  replace ox0 := (rSpace_ok NB).ownB ox0 hb70
  replace ox1 := ox1.belowS rInt_ok hb70
  replace og0 := og0.belowS rInt_ok hb70
  replace hB := hB.trans (hb70.mono hB.size)
  replace bxS := bxS.below hb70
  replace bxx0 := bxx0.below hb70
  clear hb70 cbxS_0 cbxS_1 cbxS_2 cbxS_3 cbxS_4
  have Rv68 := (rSpace_ok NB).toRep ov68
  have cbxS_0 := bxS 0 _ rfl
  have cbxS_1 := bxS 1 _ rfl
  have cbxS_2 := bxS 2 _ rfl
  have cbxS_3 := bxS 3 _ rfl
  have cbxS_4 := bxS 4 _ rfl
  go_wp2_with fail
  refine (toIntS_c _ _ _ _ _ (sFrontier.below rInt_ok hB)).mono ?_
  rintro e w73 ⟨Av72, nv72, cv72, rfl, ⟨fv72, Mv72, frv72⟩, hb74⟩
  have z75 := hb74.size
  try simp only [World.size_alloc] at z75
  have Hz75 := Lib.hid z75; clear z75
  replace ow0 := ow0.belowS rInt_ok hb74
  replace ox0 := (rSpace_ok NB).ownB ox0 hb74
  replace ox1 := ox1.belowS rInt_ok hb74
  replace og0 := og0.belowS rInt_ok hb74
  replace hB := hB.trans (hb74.mono hB.size)
  replace bxS := bxS.below hb74
  replace bxx0 := bxx0.below hb74
  replace Rv68 := (rSpace_ok NB).keep Rv68 (cells_below hb74)
  clear hb74 cbxS_0 cbxS_1 cbxS_2 cbxS_3 cbxS_4
  have Rv72 := Mv72.rs rInt_ok
  have cbxS_0 := bxS 0 _ rfl
  have cbxS_1 := bxS 1 _ rfl
  have cbxS_2 := bxS 2 _ rfl
  have cbxS_3 := bxS 3 _ rfl
  have cbxS_4 := bxS 4 _ rfl
  go_wp2_with fail
  refine (iFrontierPlans_c _ xS _ _ _ _ _ Rv68 Rv72).mono ?_
  rintro e w76 ⟨Ah0, nh0, ch0, rfl, ⟨fh0, oh0, frh0⟩, hb77⟩
  have z78 := hb77.size
  try simp only [World.size_alloc] at z78
  have Hz78 := Lib.hid z78; clear z78
  replace ow0 := ow0.belowS rInt_ok hb77
  replace ox0 := (rSpace_ok NB).ownB ox0 hb77
  replace ox1 := ox1.belowS rInt_ok hb77
  replace og0 := og0.belowS rInt_ok hb77
  replace hB := hB.trans (hb77.mono hB.size)
  replace bxS := bxS.below hb77
  replace bxx0 := bxx0.below hb77
  clear hb77 cbxS_0 cbxS_1 cbxS_2 cbxS_3 cbxS_4
  have lth0 := Lib.hid (oh0.lt rInt_ok)
  have fsh0 := frh0
  have HFh0 : Hid (∀ k ∈ fh0, _ ≤ k) := fsh0.ge
  try simp only [World.size_alloc] at HFh0
  have ndh0 := fsh0.nd; have NDh0 := Lib.hid ndh0; clear ndh0 fsh0
  go_wp2_with fail
  refine (eqIntS_b _ _ _ _ _ _ _ _ _ (oh0.rs rInt_ok) (ow0.rs rInt_ok)).mono ?_
  rintro e w79 ⟨rfl, hb80⟩
  have z81 := hb80.size
  try simp only [World.size_alloc] at z81
  have Hz81 := Lib.hid z81; clear z81
  replace ow0 := ow0.belowS rInt_ok hb80
  replace ox0 := (rSpace_ok NB).ownB ox0 hb80
  replace ox1 := ox1.belowS rInt_ok hb80
  replace og0 := og0.belowS rInt_ok hb80
  replace oh0 := oh0.belowS rInt_ok hb80
  replace hB := hB.trans (hb80.mono hB.size)
  replace bxS := bxS.below hb80
  replace bxx0 := bxx0.below hb80
  clear hb80
  have hdr82 : decide ((frontierPlans xS lFrontier) = (frontierPlans xS lFrontier)) = true := by simp
  go_wp2_with fail
  have hcbw83 : (cnt_IntS (frontierPlans xS lFrontier)) ≤ 1099511627776 := hcbr.out
  refine (heldIntS_m _ _ _ (frontierPlans xS lFrontier) 1 _ (og0.rs rInt_ok) (by omega) (by omega)).mono ?_
  rintro e w83 ⟨rfl, hb84⟩
  have z85 := hb84.size
  try simp only [World.size_alloc] at z85
  have Hz85 := Lib.hid z85; clear z85
  replace ow0 := ow0.belowS rInt_ok hb84
  replace ox0 := (rSpace_ok NB).ownB ox0 hb84
  replace ox1 := ox1.belowS rInt_ok hb84
  replace og0 := og0.belowS rInt_ok hb84
  replace oh0 := oh0.belowS rInt_ok hb84
  replace hB := hB.trans (hb84.mono hB.size)
  replace bxS := bxS.below hb84
  replace bxx0 := bxx0.below hb84
  clear hb84 hcbw83
  rw [← Hkkk64.out]
  go_wp2
  go_ret
  exact ⟨rfl, hB⟩

set_option maxRecDepth 100000 in
theorem lifted (os : Os) (started : os.Started) (H : Type) (enc : TypeId × Value → H) :
    ReturnsInHanded {} Try.checked os 14 .any (Rows.fnExactFrontierPlansSpec.pre6 enc Try.prog Try.f14 Rows.fnExactFrontierPlansRow.domain false) (Rows.fnExactFrontierPlansSpec.post enc Try.prog Try.f14 false true false false) := by
  refine returnsInHanded_of_change (C := Try.checked) own started (by kernel_rfl) Try.func14
    (ChangeSpec.witness6 (enc := enc) (C := Try.checked) false ⟨#[], #[.agg #[.slice none 0 0, .slice none 0 0, .slice none 0 0, .slice none 0 0, .slice none 0 0], .slice none 0 0], []⟩ 8 (by kernel_rfl) (by kernel_rfl) (by kernel_rfl) (by kernel_rfl)) ?_
  intro W base args ds gs before hval0 hW hcnd _
  have hval : ∀ (j : Nat) t v, Try.f14.params[j]? = some t → args[j]? = some v → Value.okWide Try.prog W .any base t v := hval0
  have hW' := hW
  obtain ⟨p, q, hA0, hV, rfl, hfz, hnd⟩ := hW
  have hA : DataW.TrodAll enc Try.prog W 0 (fun _ => true) true Try.f14.params.toList args.toList ds p := hA0
  rw [Try.params14] at hA hval
  obtain ⟨v0, vs0, d0, ds0, p0, q0, hargs, rfl, rfl, h0, r0⟩ := trodAll_cons hA
  obtain ⟨v1, vs1, d1, ds1, p1, q1, rfl, rfl, rfl, h1, r1⟩ := trodAll_cons r0
  obtain ⟨rfl, rfl, rfl⟩ := trodAll_nil r1
  obtain rfl : args = #[v0, v1] := by cases args; simp_all
  obtain ⟨rfl, rfl⟩ := trodVars_none hV
  obtain ⟨ca0, rfl, _⟩ := okWide_struct Try.underlying71 (hval 0 71 v0 rfl rfl)
  obtain ⟨cl0⟩ := ca0
  have k0 := h0
  have lt0 : ∀ x ∈ p0, x.block < W.heap.size := by obtain ⟨m, hm⟩ := k0; exact DataW.trod_lt m _ _ _ hm
  obtain ⟨x0, g0⟩ : ∃ x, (rSpace maxLen).rep W cl0 x := by
    obtain ⟨fuel, hf⟩ := h0
    exact opensSpace hf
  obtain ⟨A1, n1, c1, rfl⟩ := okWide_slice Try.underlying22 (hval 1 22 v1 rfl rfl)
  have k1 := h1
  have lt1 : ∀ x ∈ p1, x.block < W.heap.size := by obtain ⟨m, hm⟩ := k1; exact DataW.trod_lt m _ _ _ hm
  obtain ⟨l1, g1⟩ : ∃ l, RS maxLen rInt W A1 n1 c1 l := by
    obtain ⟨fuel, hf⟩ := h1
    obtain ⟨l, A, n, c, e, hr⟩ := (opens_slice rInt_ok Try.underlying22 (by kernel_rfl) (opens_int Try.underlying3)) hf
    simp [Value.cells] at e
    obtain ⟨rfl, rfl, rfl⟩ := e
    exact ⟨l, hr⟩
  clear hA0 hval0
  refine (walk cl0 x0 A1 n1 c1 l1 W g0 g1).mono fun e W' ⟨he, bel⟩ => ?_
  subst he
  exact ⟨_, rfl, _, _, _, [], _, [], hW', trodAll_mk1 (shut_bool Try.underlying4 _), (trodAll_cons_mk (Below.trod laidOut (by kernel_rfl) (of_decide_eq_true (by kernel_rfl)) k0 bel lt0) (trodAll_cons_mk (Below.trod laidOut (by kernel_rfl) (of_decide_eq_true (by kernel_rfl)) k1 bel lt1) trodAll_mk0)), rfl, bel.frame _, fun h => by cases h⟩

theorem over : Rows.fnExactFrontierPlansRow.holds Try.pinned (OpenSpec.ofChange Rows.fnExactFrontierPlansSpec) :=
  OpenClaim.holds_of_wide 14 Try.f14 rfl rfl rfl rfl rfl rfl rfl ⟨rfl, rfl, rfl, rfl, rfl⟩ rfl rfl rfl rfl rfl (by kernel_rfl) Try.func14 (by kernel_rfl)
    (of_decide_eq_true (by kernel_rfl)) (by unfold Func.isWrapper; first | (rw [if_pos (by decide +kernel)]; kernel_rfl) | (rw [if_neg (by decide +kernel)]; exact ⟨rfl, rfl⟩))
    (fun os started H enc _ => lifted os started H enc)

theorem proved : Rows.FnExactFrontierPlansSaid := over
#print axioms proved
end Go.Proofs.Ytobildkjikhdiaa.fnExactFrontierPlans
