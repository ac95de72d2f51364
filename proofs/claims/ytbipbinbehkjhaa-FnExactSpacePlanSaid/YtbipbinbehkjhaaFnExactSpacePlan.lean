/-
  For every input the law FnExactSpacePlan returns true and leaves its arguments as they were; no condition beyond the statement's own.
-/
import Derived.Test.YtbipbinbehkjhaaRows
import Derived.Test.YtbipbinbehkjhaaSpl
import Derived.Test.YtbipbinbehkjhaaOpens
import Derived.Test.YtbipbinbehkjhaaTo
import Derived.Test.YtbipbinbehkjhaaEq
import Derived.Test.YtbipbinbehkjhaaMarkC
import Derived.WalkKit
import Derived.ProofKit
import Derived.OpenShut
import Derived.ShutString
import Derived.ChangeOld
import Derived.Below
import Derived.Deep.RegionHeld3
import Derived.Test.YtbipbinbehkjhaaMark
import Derived.Test.YtbipbinbehkjhaaMarkC
namespace Go.Proofs.Ytbipbinbehkjhaa.fnExactSpacePlan
open Go.ChangeShapes Go.WideShapes Go.ChangeAt Go.RowKit
open Go.ChangeMaps (open_string shut_string)
set_option linter.unusedVariables false
set_option linter.unusedSimpArgs false

theorem own : ownKnob Try.prog.godebug = none := by kernel_rfl
theorem laidOut : laidOutB Try.prog = true := by kernel_rfl

set_option maxRecDepth 100000 in
set_option maxHeartbeats 4000000 in
theorem walk (csS : List Value) (xS : SpaceD) (ALocation : Option Addr) (nLocation kLocation : Nat) (lLocation : List Int) (w : World) (rS : (rSpace maxLen).rep w csS xS) (rLocation : RS maxLen rInt w ALocation nLocation kLocation lLocation) :
    Calls Try.prog 8 #[.agg csS.toArray, .slice ALocation nLocation kLocation] w fun e w' => e = .returned (.bool true) ∧ Below w.heap.size w w' := by
  have hB : Below w.heap.size w w := Below.refl _ _
  have qS := rS
  obtain ⟨ASBoxLow, nSBoxLow, cSBoxLow, ASBoxHigh, nSBoxHigh, cSBoxHigh, ASCosts, nSCosts, cSCosts, ASChoices, nSChoices, cSChoices, ASPlans, nSPlans, cSPlans, rfl, hSBoxLow, hSBoxHigh, hSCosts, hSChoices, hSPlans⟩ := rSpace_rep.1 qS
  clear qS
  have hnLocation : nLocation ≤ 9223372036854775807 := rLocation.nb
  by_cases hszLocation : nLocation ≤ 1048576
  rotate_left
  · go_enter Try.func8, Try.ntmps8
    go_wp2
    go_ret
    exact ⟨rfl, (by repeat' (first | with_reducible exact hB | with_reducible refine Below.setCell ?_ ?_ _ | with_reducible refine Below.alloc ?_ ?_ _ | (simp; done) | (simp; omega) | omega))⟩
  have sLocation := smallIntS rLocation (by have := rLocation.len; omega)
  go_enter Try.func8, Try.ntmps8
  have hA1 := (Below.refl (World.heap (w)).size (w)).alloc (Nat.le_refl _) (.cells #[.slice ASBoxLow nSBoxLow cSBoxLow, .slice ASBoxHigh nSBoxHigh cSBoxHigh, .slice ASCosts nSCosts cSCosts, .slice ASChoices nSChoices cSChoices, .slice ASPlans nSPlans cSPlans] 76)
  replace hB := hB.trans (hA1.mono hB.size)
  have bxS := Bx.new (w) [.slice ASBoxLow nSBoxLow cSBoxLow, .slice ASBoxHigh nSBoxHigh cSBoxHigh, .slice ASCosts nSCosts cSCosts, .slice ASChoices nSChoices cSChoices, .slice ASPlans nSPlans cSPlans] 76
  clear hA1
  go_wp2_with fail
  refine (szSpace_c _ xS _ _ ((rSpace_ok maxLen).keep rS (cells_below hB)) (by omega) (by omega)).mono ?_
  rintro e w3 ⟨rfl, hb2⟩
  have z4 := hb2.size
  try simp only [World.size_alloc] at z4
  have Hz4 := Lib.hid z4; clear z4
  replace hB := hB.trans (hb2.mono hB.size)
  replace bxS := bxS.below hb2
  clear hb2
  by_cases hszS : ((bulkSpace xS : Nat) : Int) ≤ 1048576
  rotate_left
  · rw [lessBy_no hszS]
    go_wp2
    go_ret
    exact ⟨rfl, hB⟩
  rw [lessBy_yes hszS]
  have sS := smallSpace rS (by omega)
  obtain ⟨L5, hL5⟩ : ∃ L : Int, L = 1048576 - ((bulkSpace xS : Nat) : Int) := ⟨_, rfl⟩
  rw [← hL5]
  have pL5 : 0 ≤ L5 := by omega
  have uL5 : L5 ≤ 1048576 := by omega
  clear hL5
  have cbxS_0 := bxS 0 _ rfl
  have cbxS_1 := bxS 1 _ rfl
  have cbxS_2 := bxS 2 _ rfl
  have cbxS_3 := bxS 3 _ rfl
  have cbxS_4 := bxS 4 _ rfl
  go_wp2_with fail
  refine (toSpace_c _ xS _ ((rSpace_ok NB).keep sS (cells_below hB))).mono ?_
  rintro e w7 ⟨csv6, fv6, rfl, ov6, frv6, hb8⟩
  have z9 := hb8.size
  try simp only [World.size_alloc] at z9
  have Hz9 := Lib.hid z9; clear z9
  replace hB := hB.trans (hb8.mono hB.size)
  replace bxS := bxS.below hb8
  clear hb8 cbxS_0 cbxS_1 cbxS_2 cbxS_3 cbxS_4
  have Rv6 := (rSpace_ok NB).toRep ov6
  have cbxS_0 := bxS 0 _ rfl
  have cbxS_1 := bxS 1 _ rfl
  have cbxS_2 := bxS 2 _ rfl
  have cbxS_3 := bxS 3 _ rfl
  have cbxS_4 := bxS 4 _ rfl
  go_wp2_with fail
  refine (toIntS_c _ _ _ _ _ (sLocation.below rInt_ok hB)).mono ?_
  rintro e w11 ⟨Av10, nv10, cv10, rfl, ⟨fv10, Mv10, frv10⟩, hb12⟩
  have z13 := hb12.size
  try simp only [World.size_alloc] at z13
  have Hz13 := Lib.hid z13; clear z13
  replace hB := hB.trans (hb12.mono hB.size)
  replace bxS := bxS.below hb12
  replace Rv6 := (rSpace_ok NB).keep Rv6 (cells_below hb12)
  clear hb12 cbxS_0 cbxS_1 cbxS_2 cbxS_3 cbxS_4
  have Rv10 := Mv10.rs rInt_ok
  have cbxS_0 := bxS 0 _ rfl
  have cbxS_1 := bxS 1 _ rfl
  have cbxS_2 := bxS 2 _ rfl
  have cbxS_3 := bxS 3 _ rfl
  have cbxS_4 := bxS 4 _ rfl
  go_wp2_with fail
  refine (sSpacePlan_c _ xS _ _ _ _ _ Rv6 Rv10).mono ?_
  rintro e w14 ⟨csw0, fw0, rfl, ow0, frw0, hb15⟩
  have z16 := hb15.size
  try simp only [World.size_alloc] at z16
  have Hz16 := Lib.hid z16; clear z16
  replace hB := hB.trans (hb15.mono hB.size)
  replace bxS := bxS.below hb15
  clear hb15 cbxS_0 cbxS_1 cbxS_2 cbxS_3 cbxS_4
  obtain ⟨Aw0Steps, nw0Steps, cw0Steps, rfl, _⟩ := rPlan_rep.1 ((rPlan_ok NB).toRep ow0)
  have ltw0 := Lib.hid ((rPlan_ok NB).lt ow0)
  have fsw0 := frw0
  have HFw0 : Hid (∀ k ∈ fw0, _ ≤ k) := fsw0.ge
  try simp only [World.size_alloc] at HFw0
  have ndw0 := fsw0.nd; have NDw0 := Lib.hid ndw0; clear ndw0 fsw0
  have hA17 := (Below.refl w14.heap.size w14).alloc (Nat.le_refl _) (.cells #[.slice Aw0Steps nw0Steps cw0Steps] 87)
  replace ow0 := (rPlan_ok NB).ownB ow0 hA17
  replace hB := hB.trans (hA17.mono hB.size)
  replace bxS := bxS.below hA17
  have bxw0 := Bx.new w14 [.slice Aw0Steps nw0Steps cw0Steps] 87
  clear hA17
  have cbxS_0 := bxS 0 _ rfl
  have cbxS_1 := bxS 1 _ rfl
  have cbxS_2 := bxS 2 _ rfl
  have cbxS_3 := bxS 3 _ rfl
  have cbxS_4 := bxS 4 _ rfl
  go_wp2_with fail
  refine (toSpace_c _ xS _ ((rSpace_ok NB).keep sS (cells_below hB))).mono ?_
  rintro e w18 ⟨csx0, fx0, rfl, ox0, frx0, hb19⟩
  have z20 := hb19.size
  try simp only [World.size_alloc] at z20
  have Hz20 := Lib.hid z20; clear z20
  replace ow0 := (rPlan_ok NB).ownB ow0 hb19
  replace hB := hB.trans (hb19.mono hB.size)
  replace bxS := bxS.below hb19
  replace bxw0 := bxw0.below hb19
  clear hb19 cbxS_0 cbxS_1 cbxS_2 cbxS_3 cbxS_4
  have ltx0 := Lib.hid ((rSpace_ok NB).lt ox0)
  have fsx0 := frx0
  have HFx0 : Hid (∀ k ∈ fx0, _ ≤ k) := fsx0.ge
  try simp only [World.size_alloc] at HFx0
  have ndx0 := fsx0.nd; have NDx0 := Lib.hid ndx0; clear ndx0 fsx0
  obtain ⟨Ax0BoxLow, nx0BoxLow, cx0BoxLow, Ax0BoxHigh, nx0BoxHigh, cx0BoxHigh, Ax0Costs, nx0Costs, cx0Costs, Ax0Choices, nx0Choices, cx0Choices, Ax0Plans, nx0Plans, cx0Plans, rfl, _, _, _, _, _⟩ := rSpace_rep.1 ((rSpace_ok NB).toRep ox0)
  have hA21 := (Below.refl w18.heap.size w18).alloc (Nat.le_refl _) (.cells #[.slice Ax0BoxLow nx0BoxLow cx0BoxLow, .slice Ax0BoxHigh nx0BoxHigh cx0BoxHigh, .slice Ax0Costs nx0Costs cx0Costs, .slice Ax0Choices nx0Choices cx0Choices, .slice Ax0Plans nx0Plans cx0Plans] 81)
  replace ow0 := (rPlan_ok NB).ownB ow0 hA21
  replace ox0 := (rSpace_ok NB).ownB ox0 hA21
  replace hB := hB.trans (hA21.mono hB.size)
  replace bxS := bxS.below hA21
  replace bxw0 := bxw0.below hA21
  have bxx0 := Bx.new w18 [.slice Ax0BoxLow nx0BoxLow cx0BoxLow, .slice Ax0BoxHigh nx0BoxHigh cx0BoxHigh, .slice Ax0Costs nx0Costs cx0Costs, .slice Ax0Choices nx0Choices cx0Choices, .slice Ax0Plans nx0Plans cx0Plans] 81
  clear hA21
  go_wp2_with fail
  refine (toIntS_c _ _ _ _ _ (sLocation.below rInt_ok hB)).mono ?_
  rintro e w22 ⟨Ax1, nx1, cx1, rfl, ⟨fx1, ox1, frx1⟩, hb23⟩
  have z24 := hb23.size
  try simp only [World.size_alloc] at z24
  have Hz24 := Lib.hid z24; clear z24
  replace ow0 := (rPlan_ok NB).ownB ow0 hb23
  replace ox0 := (rSpace_ok NB).ownB ox0 hb23
  replace hB := hB.trans (hb23.mono hB.size)
  replace bxS := bxS.below hb23
  replace bxw0 := bxw0.below hb23
  replace bxx0 := bxx0.below hb23
  clear hb23
  have ltx1 := Lib.hid (ox1.lt rInt_ok)
  have fsx1 := frx1
  have HFx1 : Hid (∀ k ∈ fx1, _ ≤ k) := fsx1.ge
  try simp only [World.size_alloc] at HFx1
  have ndx1 := fsx1.nd; have NDx1 := Lib.hid ndx1; clear ndx1 fsx1
  have cbxx0_0 := bxx0 0 _ rfl
  have cbxx0_1 := bxx0 1 _ rfl
  have cbxx0_2 := bxx0 2 _ rfl
  have cbxx0_3 := bxx0 3 _ rfl
  have cbxx0_4 := bxx0 4 _ rfl
  go_wp2_with fail
  refine (iSpacePlan_c _ xS _ _ _ _ _ ((rSpace_ok NB).toRep ox0) (ox1.rs rInt_ok)).mono ?_
  rintro e w25 ⟨csg0, fg0, rfl, og0, frg0, hb26⟩
  have z27 := hb26.size
  try simp only [World.size_alloc] at z27
  have Hz27 := Lib.hid z27; clear z27
  replace ow0 := (rPlan_ok NB).ownB ow0 hb26
  replace ox0 := (rSpace_ok NB).ownB ox0 hb26
  replace ox1 := ox1.belowS rInt_ok hb26
  replace hB := hB.trans (hb26.mono hB.size)
  replace bxS := bxS.below hb26
  replace bxw0 := bxw0.below hb26
  replace bxx0 := bxx0.below hb26
  clear hb26 cbxx0_0 cbxx0_1 cbxx0_2 cbxx0_3 cbxx0_4
  obtain ⟨Ag0Steps, ng0Steps, cg0Steps, rfl, _⟩ := rPlan_rep.1 ((rPlan_ok NB).toRep og0)
  have ltg0 := Lib.hid ((rPlan_ok NB).lt og0)
  have fsg0 := frg0
  have HFg0 : Hid (∀ k ∈ fg0, _ ≤ k) := fsg0.ge
  try simp only [World.size_alloc] at HFg0
  have ndg0 := fsg0.nd; have NDg0 := Lib.hid ndg0; clear ndg0 fsg0
  have hA28 := (Below.refl w25.heap.size w25).alloc (Nat.le_refl _) (.cells #[.slice Ag0Steps ng0Steps cg0Steps] 87)
  replace ow0 := (rPlan_ok NB).ownB ow0 hA28
  replace ox0 := (rSpace_ok NB).ownB ox0 hA28
  replace ox1 := ox1.belowS rInt_ok hA28
  replace og0 := (rPlan_ok NB).ownB og0 hA28
  replace hB := hB.trans (hA28.mono hB.size)
  replace bxS := bxS.below hA28
  replace bxw0 := bxw0.below hA28
  replace bxx0 := bxx0.below hA28
  have bxg0 := Bx.new w25 [.slice Ag0Steps ng0Steps cg0Steps] 87
  clear hA28
  have hnei : ∀ v : Int, (v != v) = false := fun v => by simp
  have hneb : ∀ v : Bool, (v == v) = true := fun v => by simp
  have cbxw0_0 := bxw0 0 _ rfl
  have cbxg0_0 := bxg0 0 _ rfl
  go_wp2_with fail
  refine (eqPlan_c _ _ ((spacePlan xS lLocation).1) ((spacePlan xS lLocation).1) _ ((rPlan_ok NB).toRep og0) ((rPlan_ok NB).toRep ow0)).mono ?_
  rintro e w29 ⟨rfl, hb30⟩
  have z31 := hb30.size
  try simp only [World.size_alloc] at z31
  have Hz31 := Lib.hid z31; clear z31
  replace ow0 := (rPlan_ok NB).ownB ow0 hb30
  replace ox0 := (rSpace_ok NB).ownB ox0 hb30
  replace ox1 := ox1.belowS rInt_ok hb30
  replace og0 := (rPlan_ok NB).ownB og0 hb30
  replace hB := hB.trans (hb30.mono hB.size)
  replace bxS := bxS.below hb30
  replace bxw0 := bxw0.below hb30
  replace bxx0 := bxx0.below hb30
  replace bxg0 := bxg0.below hb30
  clear hb30 cbxw0_0 cbxg0_0
  have hdr32 : decide (((spacePlan xS lLocation).1) = ((spacePlan xS lLocation).1)) = true := by simp
  go_wp2_with fail
  have SS33 : ∀ w', Below w29.heap.size w29 w' → (Below w29.heap.size w29 w' ∧ w'.cell? ⟨w.heap.size, 0, none⟩ = some (.slice ASBoxLow nSBoxLow cSBoxLow) ∧ w'.cell? ⟨w.heap.size, 1, none⟩ = some (.slice ASBoxHigh nSBoxHigh cSBoxHigh) ∧ w'.cell? ⟨w.heap.size, 2, none⟩ = some (.slice ASCosts nSCosts cSCosts) ∧ w'.cell? ⟨w.heap.size, 3, none⟩ = some (.slice ASChoices nSChoices cSChoices) ∧ w'.cell? ⟨w.heap.size, 4, none⟩ = some (.slice ASPlans nSPlans cSPlans) ∧ w'.cell? ⟨w18.heap.size, 0, none⟩ = some (.slice Ax0BoxLow nx0BoxLow cx0BoxLow) ∧ w'.cell? ⟨w18.heap.size, 1, none⟩ = some (.slice Ax0BoxHigh nx0BoxHigh cx0BoxHigh) ∧ w'.cell? ⟨w18.heap.size, 2, none⟩ = some (.slice Ax0Costs nx0Costs cx0Costs) ∧ w'.cell? ⟨w18.heap.size, 3, none⟩ = some (.slice Ax0Choices nx0Choices cx0Choices) ∧ w'.cell? ⟨w18.heap.size, 4, none⟩ = some (.slice Ax0Plans nx0Plans cx0Plans)) := fun w' hb => ⟨hb, bxS.below hb 0 _ rfl, bxS.below hb 1 _ rfl, bxS.below hb 2 _ rfl, bxS.below hb 3 _ rfl, bxS.below hb 4 _ rfl, bxx0.below hb 0 _ rfl, bxx0.below hb 1 _ rfl, bxx0.below hb 2 _ rfl, bxx0.below hb 3 _ rfl, bxx0.below hb 4 _ rfl⟩
  have HSS33 := Lib.hid SS33; clear SS33
  have tok38 : True := trivial
  have tok42 : True := trivial
  go_region_held3 (fun w' => Below w29.heap.size w29 w' ∧ w'.cell? ⟨w.heap.size, 0, none⟩ = some (.slice ASBoxLow nSBoxLow cSBoxLow) ∧ w'.cell? ⟨w.heap.size, 1, none⟩ = some (.slice ASBoxHigh nSBoxHigh cSBoxHigh) ∧ w'.cell? ⟨w.heap.size, 2, none⟩ = some (.slice ASCosts nSCosts cSCosts) ∧ w'.cell? ⟨w.heap.size, 3, none⟩ = some (.slice ASChoices nSChoices cSChoices) ∧ w'.cell? ⟨w.heap.size, 4, none⟩ = some (.slice ASPlans nSPlans cSPlans) ∧ w'.cell? ⟨w18.heap.size, 0, none⟩ = some (.slice Ax0BoxLow nx0BoxLow cx0BoxLow) ∧ w'.cell? ⟨w18.heap.size, 1, none⟩ = some (.slice Ax0BoxHigh nx0BoxHigh cx0BoxHigh) ∧ w'.cell? ⟨w18.heap.size, 2, none⟩ = some (.slice Ax0Costs nx0Costs cx0Costs) ∧ w'.cell? ⟨w18.heap.size, 3, none⟩ = some (.slice Ax0Choices nx0Choices cx0Choices) ∧ w'.cell? ⟨w18.heap.size, 4, none⟩ = some (.slice Ax0Plans nx0Plans cx0Plans)) (first | exact HSS33.out _ (Below.refl _ _).drew | exact HSS33.out _ (by assumption)) (first | (go_at_call 47; have _t := tok38; refine (toSpace_c _ xS _ ((rSpace_ok NB).keep sS (cells_below (hB.trans (Below.mono ((Below.refl w29.heap.size w29).drew) hB.size))))).mono ?_; rintro e w35 ⟨csv34, fv34, rfl, ov34, frv34, hb36⟩; have hC37 : Below w29.heap.size w29 w35 := Below.trans ((Below.refl w29.heap.size w29).drew) (hb36.mono ((Below.refl w29.heap.size w29).drew).size); have Rv34 := (rSpace_ok NB).toRep ov34; clear tok38) | (go_at_call 49; have _t := tok42; refine (eqSpace_c _ _ xS xS _ ((rSpace_ok NB).keep ((rSpace_ok NB).toRep ox0) (cells_below (hC37))) Rv34).mono ?_; rintro e w39 ⟨rfl, hb40⟩; have hC41 : Below w29.heap.size w29 w39 := Below.trans (hC37) (hb40.mono (hC37).size); clear tok42))
  have z43 := hC41.size
  try simp only [World.size_alloc] at z43
  have Hz43 := Lib.hid z43; clear z43
  replace ow0 := (rPlan_ok NB).ownB ow0 hC41
  replace ox0 := (rSpace_ok NB).ownB ox0 hC41
  replace ox1 := ox1.belowS rInt_ok hC41
  replace og0 := (rPlan_ok NB).ownB og0 hC41
  replace hB := hB.trans (hC41.mono hB.size)
  replace bxS := bxS.below hC41
  replace bxw0 := bxw0.below hC41
  replace bxx0 := bxx0.below hC41
  replace bxg0 := bxg0.below hC41
  clear HSS33 hC41
  have hdx0 : decide (xS = xS) = true := by simp
  go_wp2_with fail
  refine (toIntS_c _ _ _ _ _ (sLocation.below rInt_ok hB)).mono ?_
  rintro e w44 ⟨Av46, nv46, cv46, rfl, ⟨fv46, Mv46, frv46⟩, hb45⟩
  have z47 := hb45.size
  try simp only [World.size_alloc] at z47
  have Hz47 := Lib.hid z47; clear z47
  replace ow0 := (rPlan_ok NB).ownB ow0 hb45
  replace ox0 := (rSpace_ok NB).ownB ox0 hb45
  replace ox1 := ox1.belowS rInt_ok hb45
  replace og0 := (rPlan_ok NB).ownB og0 hb45
  replace hB := hB.trans (hb45.mono hB.size)
  replace bxS := bxS.below hb45
  replace bxw0 := bxw0.below hb45
  replace bxx0 := bxx0.below hb45
  replace bxg0 := bxg0.below hb45
  clear hb45
  have Rv46 := Mv46.rs rInt_ok
  go_wp2_with fail
  refine (eqIntS_b _ _ _ _ _ _ _ _ _ (ox1.rs rInt_ok) Rv46).mono ?_
  rintro e w48 ⟨rfl, hb49⟩
  have z50 := hb49.size
  try simp only [World.size_alloc] at z50
  have Hz50 := Lib.hid z50; clear z50
  replace ow0 := (rPlan_ok NB).ownB ow0 hb49
  replace ox0 := (rSpace_ok NB).ownB ox0 hb49
  replace ox1 := ox1.belowS rInt_ok hb49
  replace og0 := (rPlan_ok NB).ownB og0 hb49
  replace hB := hB.trans (hb49.mono hB.size)
  replace bxS := bxS.below hb49
  replace bxw0 := bxw0.below hb49
  replace bxx0 := bxx0.below hb49
  replace bxg0 := bxg0.below hb49
  clear hb49
  have hdx1 : decide (lLocation = lLocation) = true := by simp
  have hcbr : Hid ((cnt_Plan ((spacePlan xS lLocation).1)) ≤ 1099511627776) := (by show _ ≤ _; exact (by have e := cnto_Plan og0; omega))
  have cbxx0_0 := bxx0 0 _ rfl
  have cbxx0_1 := bxx0 1 _ rfl
  have cbxx0_2 := bxx0 2 _ rfl
  have cbxx0_3 := bxx0 3 _ rfl
  have cbxx0_4 := bxx0 4 _ rfl
  go_wp2_with fail
  have hcbw51 : (cnt_Space (xS)) ≤ 1099511627776 := (by have e := cntb_Space xS; omega)
  refine (markSpace_m _ (xS) 1 _ fx0 ox0 NDx0.out (by omega) (by omega)).mono ?_
  rintro e w51 ⟨rfl, omw51, hc52⟩
  replace hB := hB.trans (hc52.toBelow hB.size (fun k hk => by have := HFx0.out k hk; have := Hz4.out; have := Hz9.out; have := Hz13.out; have := Hz16.out; have := Hz20.out; have := Hz24.out; have := Hz27.out; have := Hz31.out; have := Hz43.out; have := Hz47.out; have := Hz50.out; omega))
  replace bxS := bxS.chg hc52 (fun hk => by have := HFx0.out _ hk; have := ltx0.out _ hk; have := Hz4.out; have := Hz9.out; have := Hz13.out; have := Hz16.out; have := Hz20.out; have := Hz24.out; have := Hz27.out; have := Hz31.out; have := Hz43.out; have := Hz47.out; have := Hz50.out; omega)
  replace bxw0 := bxw0.chg hc52 (fun hk => by have := HFx0.out _ hk; have := ltx0.out _ hk; have := Hz4.out; have := Hz9.out; have := Hz13.out; have := Hz16.out; have := Hz20.out; have := Hz24.out; have := Hz27.out; have := Hz31.out; have := Hz43.out; have := Hz47.out; have := Hz50.out; omega)
  replace bxx0 := bxx0.chg hc52 (fun hk => by have := HFx0.out _ hk; have := ltx0.out _ hk; have := Hz4.out; have := Hz9.out; have := Hz13.out; have := Hz16.out; have := Hz20.out; have := Hz24.out; have := Hz27.out; have := Hz31.out; have := Hz43.out; have := Hz47.out; have := Hz50.out; omega)
  replace bxg0 := bxg0.chg hc52 (fun hk => by have := HFx0.out _ hk; have := ltx0.out _ hk; have := Hz4.out; have := Hz9.out; have := Hz13.out; have := Hz16.out; have := Hz20.out; have := Hz24.out; have := Hz27.out; have := Hz31.out; have := Hz43.out; have := Hz47.out; have := Hz50.out; omega)
  replace ow0 := (rPlan_ok NB).ownC ow0 hc52 (fun k hk hk' => by have := HFw0.out k hk; have := ltw0.out k hk; have := HFx0.out k hk'; have := ltx0.out k hk'; have := Hz4.out; have := Hz9.out; have := Hz13.out; have := Hz16.out; have := Hz20.out; have := Hz24.out; have := Hz27.out; have := Hz31.out; have := Hz43.out; have := Hz47.out; have := Hz50.out; omega)
  replace ox1 := ox1.chg rInt_ok hc52 (fun k hk hk' => by have := HFx1.out k hk; have := ltx1.out k hk; have := HFx0.out k hk'; have := ltx0.out k hk'; have := Hz4.out; have := Hz9.out; have := Hz13.out; have := Hz16.out; have := Hz20.out; have := Hz24.out; have := Hz27.out; have := Hz31.out; have := Hz43.out; have := Hz47.out; have := Hz50.out; omega)
  replace og0 := (rPlan_ok NB).ownC og0 hc52 (fun k hk hk' => by have := HFg0.out k hk; have := ltg0.out k hk; have := HFx0.out k hk'; have := ltx0.out k hk'; have := Hz4.out; have := Hz9.out; have := Hz13.out; have := Hz16.out; have := Hz20.out; have := Hz24.out; have := Hz27.out; have := Hz31.out; have := Hz43.out; have := Hz47.out; have := Hz50.out; omega)
  clear ox0; have ox0 := omw51; clear omw51
  have Hz53 := Lib.hid hc52.size
  try simp only [World.size_alloc] at Hz53
  clear hc52 cbxx0_0 cbxx0_1 cbxx0_2 cbxx0_3 cbxx0_4
  obtain ⟨kk54, hkk54⟩ : ∃ q : Int, q = 1 + ((cnt_Space (xS)) : Nat) := ⟨_, rfl⟩
  rw [← hkk54]
  have pkk54 : 0 ≤ kk54 := by omega
  have ukk54 : kk54 ≤ 2199023255552 := by omega
  have Hkkk54 := Lib.hid hkk54; clear hkk54 hcbw51
  go_wp2_with fail
  have hcbw55 : (cnt_IntS (lLocation)) ≤ 1099511627776 := (by have := rLocation.len; unfold cnt_IntS; omega)
  refine (markIntS_m _ _ _ _ kk54 _ _ ox1 NDx1.out (by omega) (by omega)).mono ?_
  rintro e w55 ⟨rfl, omw55, hc56⟩
  replace hB := hB.trans (hc56.toBelow hB.size (fun k hk => by have := HFx1.out k hk; have := Hz4.out; have := Hz9.out; have := Hz13.out; have := Hz16.out; have := Hz20.out; have := Hz24.out; have := Hz27.out; have := Hz31.out; have := Hz43.out; have := Hz47.out; have := Hz50.out; have := Hz53.out; omega))
  replace bxS := bxS.chg hc56 (fun hk => by have := HFx1.out _ hk; have := ltx1.out _ hk; have := Hz4.out; have := Hz9.out; have := Hz13.out; have := Hz16.out; have := Hz20.out; have := Hz24.out; have := Hz27.out; have := Hz31.out; have := Hz43.out; have := Hz47.out; have := Hz50.out; have := Hz53.out; omega)
  replace bxw0 := bxw0.chg hc56 (fun hk => by have := HFx1.out _ hk; have := ltx1.out _ hk; have := Hz4.out; have := Hz9.out; have := Hz13.out; have := Hz16.out; have := Hz20.out; have := Hz24.out; have := Hz27.out; have := Hz31.out; have := Hz43.out; have := Hz47.out; have := Hz50.out; have := Hz53.out; omega)
  replace bxx0 := bxx0.chg hc56 (fun hk => by have := HFx1.out _ hk; have := ltx1.out _ hk; have := Hz4.out; have := Hz9.out; have := Hz13.out; have := Hz16.out; have := Hz20.out; have := Hz24.out; have := Hz27.out; have := Hz31.out; have := Hz43.out; have := Hz47.out; have := Hz50.out; have := Hz53.out; omega)
  replace bxg0 := bxg0.chg hc56 (fun hk => by have := HFx1.out _ hk; have := ltx1.out _ hk; have := Hz4.out; have := Hz9.out; have := Hz13.out; have := Hz16.out; have := Hz20.out; have := Hz24.out; have := Hz27.out; have := Hz31.out; have := Hz43.out; have := Hz47.out; have := Hz50.out; have := Hz53.out; omega)
  replace ow0 := (rPlan_ok NB).ownC ow0 hc56 (fun k hk hk' => by have := HFw0.out k hk; have := ltw0.out k hk; have := HFx1.out k hk'; have := ltx1.out k hk'; have := Hz4.out; have := Hz9.out; have := Hz13.out; have := Hz16.out; have := Hz20.out; have := Hz24.out; have := Hz27.out; have := Hz31.out; have := Hz43.out; have := Hz47.out; have := Hz50.out; have := Hz53.out; omega)
  replace ox0 := (rSpace_ok NB).ownC ox0 hc56 (fun k hk hk' => by have := HFx0.out k hk; have := ltx0.out k hk; have := HFx1.out k hk'; have := ltx1.out k hk'; have := Hz4.out; have := Hz9.out; have := Hz13.out; have := Hz16.out; have := Hz20.out; have := Hz24.out; have := Hz27.out; have := Hz31.out; have := Hz43.out; have := Hz47.out; have := Hz50.out; have := Hz53.out; omega)
  replace og0 := (rPlan_ok NB).ownC og0 hc56 (fun k hk hk' => by have := HFg0.out k hk; have := ltg0.out k hk; have := HFx1.out k hk'; have := ltx1.out k hk'; have := Hz4.out; have := Hz9.out; have := Hz13.out; have := Hz16.out; have := Hz20.out; have := Hz24.out; have := Hz27.out; have := Hz31.out; have := Hz43.out; have := Hz47.out; have := Hz50.out; have := Hz53.out; omega)
  clear ox1; have ox1 := omw55; clear omw55
  have Hz57 := Lib.hid hc56.size
  try simp only [World.size_alloc] at Hz57
  clear hc56
  obtain ⟨kk58, hkk58⟩ : ∃ q : Int, q = kk54 + ((cnt_IntS (lLocation)) : Nat) := ⟨_, rfl⟩
  rw [← hkk58]
  have pkk58 : 0 ≤ kk58 := by omega
  have ukk58 : kk58 ≤ 4398046511104 := by omega
  have Hkkk58 := Lib.hid hkk58; clear hkk58 hcbw55
  have cbxw0_0 := bxw0 0 _ rfl
  have cbxg0_0 := bxg0 0 _ rfl
  go_wp2_with fail
  refine (eqPlan_c _ _ ((spacePlan xS lLocation).1) ((spacePlan xS lLocation).1) _ ((rPlan_ok NB).toRep og0) ((rPlan_ok NB).toRep ow0)).mono ?_
  rintro e w59 ⟨rfl, hb60⟩
  have z61 := hb60.size
  try simp only [World.size_alloc] at z61
  have Hz61 := Lib.hid z61; clear z61
  replace ow0 := (rPlan_ok NB).ownB ow0 hb60
  replace ox0 := (rSpace_ok NB).ownB ox0 hb60
  replace ox1 := ox1.belowS rInt_ok hb60
  replace og0 := (rPlan_ok NB).ownB og0 hb60
  replace hB := hB.trans (hb60.mono hB.size)
  replace bxS := bxS.below hb60
  replace bxw0 := bxw0.below hb60
  replace bxx0 := bxx0.below hb60
  replace bxg0 := bxg0.below hb60
  clear hb60 cbxw0_0 cbxg0_0
  have hdr62 : decide (((spacePlan xS lLocation).1) = ((spacePlan xS lLocation).1)) = true := by simp
  have cbxg0_0 := bxg0 0 _ rfl
  go_wp2_with fail
  have hcbw63 : (cnt_Plan ((spacePlan xS lLocation).1)) ≤ 1099511627776 := hcbr.out
  refine (markPlan_m _ ((spacePlan xS lLocation).1) 1 _ fg0 og0 NDg0.out (by omega) (by omega)).mono ?_
  rintro e w63 ⟨rfl, omw63, hc64⟩
  replace hB := hB.trans (hc64.toBelow hB.size (fun k hk => by have := HFg0.out k hk; have := Hz4.out; have := Hz9.out; have := Hz13.out; have := Hz16.out; have := Hz20.out; have := Hz24.out; have := Hz27.out; have := Hz31.out; have := Hz43.out; have := Hz47.out; have := Hz50.out; have := Hz53.out; have := Hz57.out; have := Hz61.out; omega))
  replace bxS := bxS.chg hc64 (fun hk => by have := HFg0.out _ hk; have := ltg0.out _ hk; have := Hz4.out; have := Hz9.out; have := Hz13.out; have := Hz16.out; have := Hz20.out; have := Hz24.out; have := Hz27.out; have := Hz31.out; have := Hz43.out; have := Hz47.out; have := Hz50.out; have := Hz53.out; have := Hz57.out; have := Hz61.out; omega)
  replace bxw0 := bxw0.chg hc64 (fun hk => by have := HFg0.out _ hk; have := ltg0.out _ hk; have := Hz4.out; have := Hz9.out; have := Hz13.out; have := Hz16.out; have := Hz20.out; have := Hz24.out; have := Hz27.out; have := Hz31.out; have := Hz43.out; have := Hz47.out; have := Hz50.out; have := Hz53.out; have := Hz57.out; have := Hz61.out; omega)
  replace bxx0 := bxx0.chg hc64 (fun hk => by have := HFg0.out _ hk; have := ltg0.out _ hk; have := Hz4.out; have := Hz9.out; have := Hz13.out; have := Hz16.out; have := Hz20.out; have := Hz24.out; have := Hz27.out; have := Hz31.out; have := Hz43.out; have := Hz47.out; have := Hz50.out; have := Hz53.out; have := Hz57.out; have := Hz61.out; omega)
  replace bxg0 := bxg0.chg hc64 (fun hk => by have := HFg0.out _ hk; have := ltg0.out _ hk; have := Hz4.out; have := Hz9.out; have := Hz13.out; have := Hz16.out; have := Hz20.out; have := Hz24.out; have := Hz27.out; have := Hz31.out; have := Hz43.out; have := Hz47.out; have := Hz50.out; have := Hz53.out; have := Hz57.out; have := Hz61.out; omega)
  replace ow0 := (rPlan_ok NB).ownC ow0 hc64 (fun k hk hk' => by have := HFw0.out k hk; have := ltw0.out k hk; have := HFg0.out k hk'; have := ltg0.out k hk'; have := Hz4.out; have := Hz9.out; have := Hz13.out; have := Hz16.out; have := Hz20.out; have := Hz24.out; have := Hz27.out; have := Hz31.out; have := Hz43.out; have := Hz47.out; have := Hz50.out; have := Hz53.out; have := Hz57.out; have := Hz61.out; omega)
  replace ox0 := (rSpace_ok NB).ownC ox0 hc64 (fun k hk hk' => by have := HFx0.out k hk; have := ltx0.out k hk; have := HFg0.out k hk'; have := ltg0.out k hk'; have := Hz4.out; have := Hz9.out; have := Hz13.out; have := Hz16.out; have := Hz20.out; have := Hz24.out; have := Hz27.out; have := Hz31.out; have := Hz43.out; have := Hz47.out; have := Hz50.out; have := Hz53.out; have := Hz57.out; have := Hz61.out; omega)
  replace ox1 := ox1.chg rInt_ok hc64 (fun k hk hk' => by have := HFx1.out k hk; have := ltx1.out k hk; have := HFg0.out k hk'; have := ltg0.out k hk'; have := Hz4.out; have := Hz9.out; have := Hz13.out; have := Hz16.out; have := Hz20.out; have := Hz24.out; have := Hz27.out; have := Hz31.out; have := Hz43.out; have := Hz47.out; have := Hz50.out; have := Hz53.out; have := Hz57.out; have := Hz61.out; omega)
  clear og0; have og0 := omw63; clear omw63
  have Hz65 := Lib.hid hc64.size
  try simp only [World.size_alloc] at Hz65
  clear hc64 cbxg0_0
  obtain ⟨kk66, hkk66⟩ : ∃ q : Int, q = 1 + ((cnt_Plan ((spacePlan xS lLocation).1)) : Nat) := ⟨_, rfl⟩
  rw [← hkk66]
  have pkk66 : 0 ≤ kk66 := by omega
  have ukk66 : kk66 ≤ 2199023255552 := by omega
  have Hkkk66 := Lib.hid hkk66; clear hkk66 hcbw63
  have cbxg0_0 := bxg0 0 _ rfl
  go_wp2_with fail
  have hcbw67 : (cnt_Plan ((spacePlan xS lLocation).1)) ≤ 1099511627776 := hcbr.out
  refine (heldPlan_m _ ((spacePlan xS lLocation).1) 1 _ ((rPlan_ok NB).toRep og0) (by omega) (by omega)).mono ?_
  rintro e w67 ⟨rfl, hb68⟩
  have z69 := hb68.size
  try simp only [World.size_alloc] at z69
  have Hz69 := Lib.hid z69; clear z69
  replace ow0 := (rPlan_ok NB).ownB ow0 hb68
  replace ox0 := (rSpace_ok NB).ownB ox0 hb68
  replace ox1 := ox1.belowS rInt_ok hb68
  replace og0 := (rPlan_ok NB).ownB og0 hb68
  replace hB := hB.trans (hb68.mono hB.size)
  replace bxS := bxS.below hb68
  replace bxw0 := bxw0.below hb68
  replace bxx0 := bxx0.below hb68
  replace bxg0 := bxg0.below hb68
  clear hb68 hcbw67 cbxg0_0
  rw [← Hkkk66.out]
  have cbxS_0 := bxS 0 _ rfl
  have cbxS_1 := bxS 1 _ rfl
  have cbxS_2 := bxS 2 _ rfl
  have cbxS_3 := bxS 3 _ rfl
  have cbxS_4 := bxS 4 _ rfl
  go_wp2_with fail
  refine (toSpace_c _ xS _ ((rSpace_ok NB).keep sS (cells_below hB))).mono ?_
  rintro e w71 ⟨csv70, fv70, rfl, ov70, frv70, hb72⟩
  have z73 := hb72.size
  try simp only [World.size_alloc] at z73
  have Hz73 := Lib.hid z73; clear z73
  replace ow0 := (rPlan_ok NB).ownB ow0 hb72
  replace ox0 := (rSpace_ok NB).ownB ox0 hb72
  replace ox1 := ox1.belowS rInt_ok hb72
  replace og0 := (rPlan_ok NB).ownB og0 hb72
  replace hB := hB.trans (hb72.mono hB.size)
  replace bxS := bxS.below hb72
  replace bxw0 := bxw0.below hb72
  replace bxx0 := bxx0.below hb72
  replace bxg0 := bxg0.below hb72
  clear hb72 cbxS_0 cbxS_1 cbxS_2 cbxS_3 cbxS_4
  have Rv70 := (rSpace_ok NB).toRep ov70
  have cbxS_0 := bxS 0 _ rfl
  have cbxS_1 := bxS 1 _ rfl
  have cbxS_2 := bxS 2 _ rfl
  have cbxS_3 := bxS 3 _ rfl
  have cbxS_4 := bxS 4 _ rfl
  go_wp2_with fail
  refine (toIntS_c _ _ _ _ _ (sLocation.below rInt_ok hB)).mono ?_
  rintro e w75 ⟨Av74, nv74, cv74, rfl, ⟨fv74, Mv74, frv74⟩, hb76⟩
  have z77 := hb76.size
  try simp only [World.size_alloc] at z77
  have Hz77 := Lib.hid z77; clear z77
  replace ow0 := (rPlan_ok NB).ownB ow0 hb76
  replace ox0 := (rSpace_ok NB).ownB ox0 hb76
  replace ox1 := ox1.belowS rInt_ok hb76
  replace og0 := (rPlan_ok NB).ownB og0 hb76
  replace hB := hB.trans (hb76.mono hB.size)
  replace bxS := bxS.below hb76
  replace bxw0 := bxw0.below hb76
  replace bxx0 := bxx0.below hb76
  replace bxg0 := bxg0.below hb76
  replace Rv70 := (rSpace_ok NB).keep Rv70 (cells_below hb76)
  clear hb76 cbxS_0 cbxS_1 cbxS_2 cbxS_3 cbxS_4
  have Rv74 := Mv74.rs rInt_ok
  have cbxS_0 := bxS 0 _ rfl
  have cbxS_1 := bxS 1 _ rfl
  have cbxS_2 := bxS 2 _ rfl
  have cbxS_3 := bxS 3 _ rfl
  have cbxS_4 := bxS 4 _ rfl
  go_wp2_with fail
  refine (iSpacePlan_c _ xS _ _ _ _ _ Rv70 Rv74).mono ?_
  rintro e w78 ⟨csh0, fh0, rfl, oh0, frh0, hb79⟩
  have z80 := hb79.size
  try simp only [World.size_alloc] at z80
  have Hz80 := Lib.hid z80; clear z80
  replace ow0 := (rPlan_ok NB).ownB ow0 hb79
  replace ox0 := (rSpace_ok NB).ownB ox0 hb79
  replace ox1 := ox1.belowS rInt_ok hb79
  replace og0 := (rPlan_ok NB).ownB og0 hb79
  replace hB := hB.trans (hb79.mono hB.size)
  replace bxS := bxS.below hb79
  replace bxw0 := bxw0.below hb79
  replace bxx0 := bxx0.below hb79
  replace bxg0 := bxg0.below hb79
  clear hb79 cbxS_0 cbxS_1 cbxS_2 cbxS_3 cbxS_4
  obtain ⟨Ah0Steps, nh0Steps, ch0Steps, rfl, _⟩ := rPlan_rep.1 ((rPlan_ok NB).toRep oh0)
  have lth0 := Lib.hid ((rPlan_ok NB).lt oh0)
  have fsh0 := frh0
  have HFh0 : Hid (∀ k ∈ fh0, _ ≤ k) := fsh0.ge
  try simp only [World.size_alloc] at HFh0
  have ndh0 := fsh0.nd; have NDh0 := Lib.hid ndh0; clear ndh0 fsh0
  have hA81 := (Below.refl w78.heap.size w78).alloc (Nat.le_refl _) (.cells #[.slice Ah0Steps nh0Steps ch0Steps] 87)
  replace ow0 := (rPlan_ok NB).ownB ow0 hA81
  replace ox0 := (rSpace_ok NB).ownB ox0 hA81
  replace ox1 := ox1.belowS rInt_ok hA81
  replace og0 := (rPlan_ok NB).ownB og0 hA81
  replace oh0 := (rPlan_ok NB).ownB oh0 hA81
  replace hB := hB.trans (hA81.mono hB.size)
  replace bxS := bxS.below hA81
  replace bxw0 := bxw0.below hA81
  replace bxx0 := bxx0.below hA81
  replace bxg0 := bxg0.below hA81
  have bxh0 := Bx.new w78 [.slice Ah0Steps nh0Steps ch0Steps] 87
  clear hA81
  have cbxw0_0 := bxw0 0 _ rfl
  have cbxh0_0 := bxh0 0 _ rfl
  go_wp2_with fail
  refine (eqPlan_c _ _ ((spacePlan xS lLocation).1) ((spacePlan xS lLocation).1) _ ((rPlan_ok NB).toRep oh0) ((rPlan_ok NB).toRep ow0)).mono ?_
  rintro e w82 ⟨rfl, hb83⟩
  have z84 := hb83.size
  try simp only [World.size_alloc] at z84
  have Hz84 := Lib.hid z84; clear z84
  replace ow0 := (rPlan_ok NB).ownB ow0 hb83
  replace ox0 := (rSpace_ok NB).ownB ox0 hb83
  replace ox1 := ox1.belowS rInt_ok hb83
  replace og0 := (rPlan_ok NB).ownB og0 hb83
  replace oh0 := (rPlan_ok NB).ownB oh0 hb83
  replace hB := hB.trans (hb83.mono hB.size)
  replace bxS := bxS.below hb83
  replace bxw0 := bxw0.below hb83
  replace bxx0 := bxx0.below hb83
  replace bxg0 := bxg0.below hb83
  replace bxh0 := bxh0.below hb83
  clear hb83 cbxw0_0 cbxh0_0
  have hdr85 : decide (((spacePlan xS lLocation).1) = ((spacePlan xS lLocation).1)) = true := by simp
  have cbxg0_0 := bxg0 0 _ rfl
  go_wp2_with fail
  have hcbw86 : (cnt_Plan ((spacePlan xS lLocation).1)) ≤ 1099511627776 := hcbr.out
  refine (heldPlan_m _ ((spacePlan xS lLocation).1) 1 _ ((rPlan_ok NB).toRep og0) (by omega) (by omega)).mono ?_
  rintro e w86 ⟨rfl, hb87⟩
  have z88 := hb87.size
  try simp only [World.size_alloc] at z88
  have Hz88 := Lib.hid z88; clear z88
  replace ow0 := (rPlan_ok NB).ownB ow0 hb87
  replace ox0 := (rSpace_ok NB).ownB ox0 hb87
  replace ox1 := ox1.belowS rInt_ok hb87
  replace og0 := (rPlan_ok NB).ownB og0 hb87
  replace oh0 := (rPlan_ok NB).ownB oh0 hb87
  replace hB := hB.trans (hb87.mono hB.size)
  replace bxS := bxS.below hb87
  replace bxw0 := bxw0.below hb87
  replace bxx0 := bxx0.below hb87
  replace bxg0 := bxg0.below hb87
  replace bxh0 := bxh0.below hb87
  clear hb87 hcbw86 cbxg0_0
  rw [← Hkkk66.out]
  go_wp2
  go_ret
  exact ⟨rfl, hB⟩

set_option maxRecDepth 100000 in
theorem lifted (os : Os) (started : os.Started) (H : Type) (enc : TypeId × Value → H) :
    ReturnsInHanded {} Try.checked os 8 .any (Rows.fnExactSpacePlanSpec.pre6 enc Try.prog Try.f8 Rows.fnExactSpacePlanRow.domain false) (Rows.fnExactSpacePlanSpec.post enc Try.prog Try.f8 false true false false) := by
  refine returnsInHanded_of_change (C := Try.checked) own started (by kernel_rfl) Try.func8
    (ChangeSpec.witness6 (enc := enc) (C := Try.checked) false ⟨#[], #[.agg #[.slice none 0 0, .slice none 0 0, .slice none 0 0, .slice none 0 0, .slice none 0 0], .slice none 0 0], []⟩ 8 (by kernel_rfl) (by kernel_rfl) (by kernel_rfl) (by kernel_rfl)) ?_
  intro W base args ds gs before hval0 hW hcnd _
  have hval : ∀ (j : Nat) t v, Try.f8.params[j]? = some t → args[j]? = some v → Value.okWide Try.prog W .any base t v := hval0
  have hW' := hW
  obtain ⟨p, q, hA0, hV, rfl, hfz, hnd⟩ := hW
  have hA : DataW.TrodAll enc Try.prog W 0 (fun _ => true) true Try.f8.params.toList args.toList ds p := hA0
  rw [Try.params8] at hA hval
  obtain ⟨v0, vs0, d0, ds0, p0, q0, hargs, rfl, rfl, h0, r0⟩ := trodAll_cons hA
  obtain ⟨v1, vs1, d1, ds1, p1, q1, rfl, rfl, rfl, h1, r1⟩ := trodAll_cons r0
  obtain ⟨rfl, rfl, rfl⟩ := trodAll_nil r1
  obtain rfl : args = #[v0, v1] := by cases args; simp_all
  obtain ⟨rfl, rfl⟩ := trodVars_none hV
  obtain ⟨ca0, rfl, _⟩ := okWide_struct Try.underlying76 (hval 0 76 v0 rfl rfl)
  obtain ⟨cl0⟩ := ca0
  have k0 := h0
  have lt0 : ∀ x ∈ p0, x.block < W.heap.size := by obtain ⟨m, hm⟩ := k0; exact DataW.trod_lt m _ _ _ hm
  obtain ⟨x0, g0⟩ : ∃ x, (rSpace maxLen).rep W cl0 x := by
    obtain ⟨fuel, hf⟩ := h0
    exact opensSpace hf
  obtain ⟨A1, n1, c1, rfl⟩ := okWide_slice Try.underlying26 (hval 1 26 v1 rfl rfl)
  have k1 := h1
  have lt1 : ∀ x ∈ p1, x.block < W.heap.size := by obtain ⟨m, hm⟩ := k1; exact DataW.trod_lt m _ _ _ hm
  obtain ⟨l1, g1⟩ : ∃ l, RS maxLen rInt W A1 n1 c1 l := by
    obtain ⟨fuel, hf⟩ := h1
    obtain ⟨l, A, n, c, e, hr⟩ := (opens_slice rInt_ok Try.underlying26 (by kernel_rfl) (opens_int Try.underlying3)) hf
    simp [Value.cells] at e
    obtain ⟨rfl, rfl, rfl⟩ := e
    exact ⟨l, hr⟩
  clear hA0 hval0
  refine (walk cl0 x0 A1 n1 c1 l1 W g0 g1).mono fun e W' ⟨he, bel⟩ => ?_
  subst he
  exact ⟨_, rfl, _, _, _, [], _, [], hW', trodAll_mk1 (shut_bool Try.underlying4 _), (trodAll_cons_mk (Below.trod laidOut (by kernel_rfl) (of_decide_eq_true (by kernel_rfl)) k0 bel lt0) (trodAll_cons_mk (Below.trod laidOut (by kernel_rfl) (of_decide_eq_true (by kernel_rfl)) k1 bel lt1) trodAll_mk0)), rfl, bel.frame _, fun h => by cases h⟩

theorem over : Rows.fnExactSpacePlanRow.holds Try.pinned (OpenSpec.ofChange Rows.fnExactSpacePlanSpec) :=
  OpenClaim.holds_of_wide 8 Try.f8 rfl rfl rfl rfl rfl rfl rfl ⟨rfl, rfl, rfl, rfl, rfl⟩ rfl rfl rfl rfl rfl (by kernel_rfl) Try.func8 (by kernel_rfl)
    (of_decide_eq_true (by kernel_rfl)) (by unfold Func.isWrapper; first | (rw [if_pos (by decide +kernel)]; kernel_rfl) | (rw [if_neg (by decide +kernel)]; exact ⟨rfl, rfl⟩))
    (fun os started H enc _ => lifted os started H enc)

theorem proved : Rows.FnExactSpacePlanSaid := over
#print axioms proved
end Go.Proofs.Ytbipbinbehkjhaa.fnExactSpacePlan
