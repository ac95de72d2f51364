/-
  For every input the law FnExactIsValidBouquet returns true and leaves its arguments as they were; no condition beyond the statement's own.
-/
import Derived.Test.YtkbglllncdkbgaaRows
import Derived.Test.YtkbglllncdkbgaaOpens
import Derived.Test.YtkbglllncdkbgaaTo
import Derived.Test.YtkbglllncdkbgaaEq
import Derived.Test.YtkbglllncdkbgaaVbs
import Derived.WalkKit
import Derived.ProofKit
import Derived.OpenShut
import Derived.ShutString
import Derived.ChangeOld
import Derived.Below
import Derived.Deep.RegionHeld3
namespace Go.Proofs.Ytkbglllncdkbgaa.fnExactIsValidBouquet
open Go.ChangeShapes Go.WideShapes Go.ChangeAt Go.RowKit
open Go.ChangeMaps (open_string shut_string)
set_option linter.unusedVariables false
set_option linter.unusedSimpArgs false

theorem own : ownKnob Try.prog.godebug = none := by kernel_rfl
theorem laidOut : laidOutB Try.prog = true := by kernel_rfl

set_option maxRecDepth 100000 in
set_option maxHeartbeats 4000000 in
theorem walk (csQ : List Value) (xQ : QueryD) (csB : List Value) (xB : BouquetD) (w : World) (rQ : (rQuery maxLen).rep w csQ xQ) (rB : (rBouquet maxLen).rep w csB xB) :
    Calls Try.prog 4 #[.agg csQ.toArray, .agg csB.toArray] w fun e w' => e = .returned (.bool true) ∧ Below w.heap.size w w' := by
  have hB : Below w.heap.size w w := Below.refl _ _
  have qQ := rQ
  obtain ⟨AQAtoms, nQAtoms, cQAtoms, rfl, hQVariableCount, hQAtoms⟩ := rQuery_rep.1 qQ
  clear qQ
  have qB := rB
  obtain ⟨ABBoxLow, nBBoxLow, cBBoxLow, ABBoxHigh, nBBoxHigh, cBBoxHigh, ABBudgets, nBBudgets, cBBudgets, ABPlans, nBPlans, cBPlans, ABContours, nBContours, cBContours, rfl, hBVersion, hBRatio, hBSlack, hBBoxLow, hBBoxHigh, hBBudgets, hBPlans, hBContours⟩ := rBouquet_rep.1 qB
  clear qB
  go_enter Try.func4, Try.ntmps4
  have hA1 := (Below.refl (World.heap (w)).size (w)).alloc (Nat.le_refl _) (.cells #[.int .i64 xQ.fVariableCount, .slice AQAtoms nQAtoms cQAtoms] 47)
  replace hB := hB.trans (hA1.mono hB.size)
  have bxQ := Bx.new (w) [.int .i64 xQ.fVariableCount, .slice AQAtoms nQAtoms cQAtoms] 47
  clear hA1
  have hA2 := (Below.refl (World.heap ((w).alloc (.cells #[.int .i64 xQ.fVariableCount, .slice AQAtoms nQAtoms cQAtoms] 47))).size ((w).alloc (.cells #[.int .i64 xQ.fVariableCount, .slice AQAtoms nQAtoms cQAtoms] 47))).alloc (Nat.le_refl _) (.cells #[.int .i64 xB.fVersion, .int .i64 xB.fRatio, .int .i64 xB.fSlack, .slice ABBoxLow nBBoxLow cBBoxLow, .slice ABBoxHigh nBBoxHigh cBBoxHigh, .slice ABBudgets nBBudgets cBBudgets, .slice ABPlans nBPlans cBPlans, .slice ABContours nBContours cBContours] 52)
  replace hB := hB.trans (hA2.mono hB.size)
  replace bxQ := bxQ.below hA2
  have bxB := Bx.new ((w).alloc (.cells #[.int .i64 xQ.fVariableCount, .slice AQAtoms nQAtoms cQAtoms] 47)) [.int .i64 xB.fVersion, .int .i64 xB.fRatio, .int .i64 xB.fSlack, .slice ABBoxLow nBBoxLow cBBoxLow, .slice ABBoxHigh nBBoxHigh cBBoxHigh, .slice ABBudgets nBBudgets cBBudgets, .slice ABPlans nBPlans cBPlans, .slice ABContours nBContours cBContours] 52
  simp only [World.size_alloc] at bxB
  clear hA2
  go_wp2_with fail
  refine (szQuery_c _ xQ _ _ ((rQuery_ok maxLen).keep rQ (cells_below hB)) (by omega) (by omega)).mono ?_
  rintro e w4 ⟨rfl, hb3⟩
  replace hB := hB.trans (hb3.mono hB.size)
  replace bxQ := bxQ.below hb3
  replace bxB := bxB.below hb3
  clear hb3
  by_cases hszQ : ((bulkQuery xQ : Nat) : Int) ≤ 1048576
  rotate_left
  · rw [lessBy_no hszQ]
    go_wp2
    go_ret
    exact ⟨rfl, hB⟩
  rw [lessBy_yes hszQ]
  have sQ := smallQuery rQ (by omega)
  obtain ⟨L5, hL5⟩ : ∃ L : Int, L = 1048576 - ((bulkQuery xQ : Nat) : Int) := ⟨_, rfl⟩
  rw [← hL5]
  have pL5 : 0 ≤ L5 := by omega
  have uL5 : L5 ≤ 1048576 := by omega
  clear hL5
  have cbxB_0 := bxB 0 _ rfl
  have cbxB_1 := bxB 1 _ rfl
  have cbxB_2 := bxB 2 _ rfl
  have cbxB_3 := bxB 3 _ rfl
  have cbxB_4 := bxB 4 _ rfl
  have cbxB_5 := bxB 5 _ rfl
  have cbxB_6 := bxB 6 _ rfl
  have cbxB_7 := bxB 7 _ rfl
  go_wp2_with fail
  refine (szBouquet_c _ xB _ _ ((rBouquet_ok maxLen).keep rB (cells_below hB)) (by omega) (by omega)).mono ?_
  rintro e w7 ⟨rfl, hb6⟩
  replace hB := hB.trans (hb6.mono hB.size)
  replace bxQ := bxQ.below hb6
  replace bxB := bxB.below hb6
  clear hb6 cbxB_0 cbxB_1 cbxB_2 cbxB_3 cbxB_4 cbxB_5 cbxB_6 cbxB_7
  by_cases hszB : ((bulkBouquet xB : Nat) : Int) ≤ L5
  rotate_left
  · rw [lessBy_no hszB]
    go_wp2
    go_ret
    exact ⟨rfl, hB⟩
  rw [lessBy_yes hszB]
  have sB := smallBouquet rB (by omega)
  obtain ⟨L8, hL8⟩ : ∃ L : Int, L = L5 - ((bulkBouquet xB : Nat) : Int) := ⟨_, rfl⟩
  rw [← hL8]
  have pL8 : 0 ≤ L8 := by omega
  have uL8 : L8 ≤ 1048576 := by omega
  clear hL8
  go_wp2_with fail
  have SS9 : ∀ w', Below w7.heap.size w7 w' → (Below w7.heap.size w7 w' ∧ w'.cell? ⟨w.heap.size, 0, none⟩ = some (.int .i64 xQ.fVariableCount) ∧ w'.cell? ⟨w.heap.size, 1, none⟩ = some (.slice AQAtoms nQAtoms cQAtoms) ∧ w'.cell? ⟨w.heap.size + 1, 0, none⟩ = some (.int .i64 xB.fVersion) ∧ w'.cell? ⟨w.heap.size + 1, 1, none⟩ = some (.int .i64 xB.fRatio) ∧ w'.cell? ⟨w.heap.size + 1, 2, none⟩ = some (.int .i64 xB.fSlack) ∧ w'.cell? ⟨w.heap.size + 1, 3, none⟩ = some (.slice ABBoxLow nBBoxLow cBBoxLow) ∧ w'.cell? ⟨w.heap.size + 1, 4, none⟩ = some (.slice ABBoxHigh nBBoxHigh cBBoxHigh) ∧ w'.cell? ⟨w.heap.size + 1, 5, none⟩ = some (.slice ABBudgets nBBudgets cBBudgets) ∧ w'.cell? ⟨w.heap.size + 1, 6, none⟩ = some (.slice ABPlans nBPlans cBPlans) ∧ w'.cell? ⟨w.heap.size + 1, 7, none⟩ = some (.slice ABContours nBContours cBContours)) := fun w' hb => ⟨hb, bxQ.below hb 0 _ rfl, bxQ.below hb 1 _ rfl, bxB.below hb 0 _ rfl, bxB.below hb 1 _ rfl, bxB.below hb 2 _ rfl, bxB.below hb 3 _ rfl, bxB.below hb 4 _ rfl, bxB.below hb 5 _ rfl, bxB.below hb 6 _ rfl, bxB.below hb 7 _ rfl⟩
  have HSS9 := Lib.hid SS9; clear SS9
  have tok14 : True := trivial
  have tok19 : True := trivial
  have tok23 : True := trivial
  go_region_held3 (fun w' => Below w7.heap.size w7 w' ∧ w'.cell? ⟨w.heap.size, 0, none⟩ = some (.int .i64 xQ.fVariableCount) ∧ w'.cell? ⟨w.heap.size, 1, none⟩ = some (.slice AQAtoms nQAtoms cQAtoms) ∧ w'.cell? ⟨w.heap.size + 1, 0, none⟩ = some (.int .i64 xB.fVersion) ∧ w'.cell? ⟨w.heap.size + 1, 1, none⟩ = some (.int .i64 xB.fRatio) ∧ w'.cell? ⟨w.heap.size + 1, 2, none⟩ = some (.int .i64 xB.fSlack) ∧ w'.cell? ⟨w.heap.size + 1, 3, none⟩ = some (.slice ABBoxLow nBBoxLow cBBoxLow) ∧ w'.cell? ⟨w.heap.size + 1, 4, none⟩ = some (.slice ABBoxHigh nBBoxHigh cBBoxHigh) ∧ w'.cell? ⟨w.heap.size + 1, 5, none⟩ = some (.slice ABBudgets nBBudgets cBBudgets) ∧ w'.cell? ⟨w.heap.size + 1, 6, none⟩ = some (.slice ABPlans nBPlans cBPlans) ∧ w'.cell? ⟨w.heap.size + 1, 7, none⟩ = some (.slice ABContours nBContours cBContours)) (first | exact HSS9.out _ (Below.refl _ _).drew | exact HSS9.out _ (by assumption)) (first | (go_at_call 27; have _t := tok14; refine (toQuery_c _ xQ _ ((rQuery_ok NB).keep sQ (cells_below (hB.trans (Below.mono ((Below.refl w7.heap.size w7).drew) hB.size))))).mono ?_; rintro e w11 ⟨csv10, fv10, rfl, ov10, frv10, hb12⟩; have hC13 : Below w7.heap.size w7 w11 := Below.trans ((Below.refl w7.heap.size w7).drew) (hb12.mono ((Below.refl w7.heap.size w7).drew).size); have Rv10 := (rQuery_ok NB).toRep ov10; clear tok14) | (go_at_call 28; have _t := tok19; refine (toBouquet_c _ xB _ ((rBouquet_ok NB).keep sB (cells_below (hB.trans (Below.mono (hC13) hB.size))))).mono ?_; rintro e w16 ⟨csv15, fv15, rfl, ov15, frv15, hb17⟩; have hC18 : Below w7.heap.size w7 w16 := Below.trans (hC13) (hb17.mono (hC13).size); have Rv15 := (rBouquet_ok NB).toRep ov15; replace Rv10 := (rQuery_ok NB).keep Rv10 (cells_below hb17); clear tok19) | (go_at_call 26; have _t := tok23; refine (sIsValidBouquet_c _ xQ _ xB _ Rv10 Rv15).mono ?_; rintro e w20 ⟨rfl, hb21⟩; have hC22 : Below w7.heap.size w7 w20 := Below.trans (hC18) (hb21.mono (hC18).size); clear tok23))
  replace hB := hB.trans (hC22.mono hB.size)
  replace bxQ := bxQ.below hC22
  replace bxB := bxB.below hC22
  clear HSS9 hC22
  have cbxQ_0 := bxQ 0 _ rfl
  have cbxQ_1 := bxQ 1 _ rfl
  go_wp2_with fail
  refine (toQuery_c _ xQ _ ((rQuery_ok NB).keep sQ (cells_below hB))).mono ?_
  rintro e w24 ⟨csx0, fx0, rfl, ox0, frx0, hb25⟩
  replace hB := hB.trans (hb25.mono hB.size)
  replace bxQ := bxQ.below hb25
  replace bxB := bxB.below hb25
  clear hb25 cbxQ_0 cbxQ_1
  obtain ⟨Ax0Atoms, nx0Atoms, cx0Atoms, rfl, _, _⟩ := rQuery_rep.1 ((rQuery_ok NB).toRep ox0)
  have hA26 := (Below.refl w24.heap.size w24).alloc (Nat.le_refl _) (.cells #[.int .i64 xQ.fVariableCount, .slice Ax0Atoms nx0Atoms cx0Atoms] 58)
  replace ox0 := (rQuery_ok NB).ownB ox0 hA26
  replace hB := hB.trans (hA26.mono hB.size)
  replace bxQ := bxQ.below hA26
  replace bxB := bxB.below hA26
  have bxx0 := Bx.new w24 [.int .i64 xQ.fVariableCount, .slice Ax0Atoms nx0Atoms cx0Atoms] 58
  clear hA26
  have cbxB_0 := bxB 0 _ rfl
  have cbxB_1 := bxB 1 _ rfl
  have cbxB_2 := bxB 2 _ rfl
  have cbxB_3 := bxB 3 _ rfl
  have cbxB_4 := bxB 4 _ rfl
  have cbxB_5 := bxB 5 _ rfl
  have cbxB_6 := bxB 6 _ rfl
  have cbxB_7 := bxB 7 _ rfl
  go_wp2_with fail
  refine (toBouquet_c _ xB _ ((rBouquet_ok NB).keep sB (cells_below hB))).mono ?_
  rintro e w27 ⟨csx1, fx1, rfl, ox1, frx1, hb28⟩
  replace ox0 := (rQuery_ok NB).ownB ox0 hb28
  replace hB := hB.trans (hb28.mono hB.size)
  replace bxQ := bxQ.below hb28
  replace bxB := bxB.below hb28
  replace bxx0 := bxx0.below hb28
  clear hb28 cbxB_0 cbxB_1 cbxB_2 cbxB_3 cbxB_4 cbxB_5 cbxB_6 cbxB_7
  obtain ⟨Ax1BoxLow, nx1BoxLow, cx1BoxLow, Ax1BoxHigh, nx1BoxHigh, cx1BoxHigh, Ax1Budgets, nx1Budgets, cx1Budgets, Ax1Plans, nx1Plans, cx1Plans, Ax1Contours, nx1Contours, cx1Contours, rfl, _, _, _, _, _, _, _, _⟩ := rBouquet_rep.1 ((rBouquet_ok NB).toRep ox1)
  have hA29 := (Below.refl w27.heap.size w27).alloc (Nat.le_refl _) (.cells #[.int .i64 xB.fVersion, .int .i64 xB.fRatio, .int .i64 xB.fSlack, .slice Ax1BoxLow nx1BoxLow cx1BoxLow, .slice Ax1BoxHigh nx1BoxHigh cx1BoxHigh, .slice Ax1Budgets nx1Budgets cx1Budgets, .slice Ax1Plans nx1Plans cx1Plans, .slice Ax1Contours nx1Contours cx1Contours] 62)
  replace ox0 := (rQuery_ok NB).ownB ox0 hA29
  replace ox1 := (rBouquet_ok NB).ownB ox1 hA29
  replace hB := hB.trans (hA29.mono hB.size)
  replace bxQ := bxQ.below hA29
  replace bxB := bxB.below hA29
  replace bxx0 := bxx0.below hA29
  have bxx1 := Bx.new w27 [.int .i64 xB.fVersion, .int .i64 xB.fRatio, .int .i64 xB.fSlack, .slice Ax1BoxLow nx1BoxLow cx1BoxLow, .slice Ax1BoxHigh nx1BoxHigh cx1BoxHigh, .slice Ax1Budgets nx1Budgets cx1Budgets, .slice Ax1Plans nx1Plans cx1Plans, .slice Ax1Contours nx1Contours cx1Contours] 62
  clear hA29
  have cbxx0_0 := bxx0 0 _ rfl
  have cbxx0_1 := bxx0 1 _ rfl
  have cbxx1_0 := bxx1 0 _ rfl
  have cbxx1_1 := bxx1 1 _ rfl
  have cbxx1_2 := bxx1 2 _ rfl
  have cbxx1_3 := bxx1 3 _ rfl
  have cbxx1_4 := bxx1 4 _ rfl
  have cbxx1_5 := bxx1 5 _ rfl
  have cbxx1_6 := bxx1 6 _ rfl
  have cbxx1_7 := bxx1 7 _ rfl
  go_wp2_with fail
  refine (iIsValidBouquet_c _ xQ _ xB _ ((rQuery_ok NB).toRep ox0) ((rBouquet_ok NB).toRep ox1)).mono ?_
  rintro e w30 ⟨rfl, hb31⟩
  replace ox0 := (rQuery_ok NB).ownB ox0 hb31
  replace ox1 := (rBouquet_ok NB).ownB ox1 hb31
  replace hB := hB.trans (hb31.mono hB.size)
  replace bxQ := bxQ.below hb31
  replace bxB := bxB.below hb31
  replace bxx0 := bxx0.below hb31
  replace bxx1 := bxx1.below hb31
  clear hb31 cbxx0_0 cbxx0_1 cbxx1_0 cbxx1_1 cbxx1_2 cbxx1_3 cbxx1_4 cbxx1_5 cbxx1_6 cbxx1_7
  have hnei : ∀ v : Int, (v != v) = false := fun v => by simp
  have hneb : ∀ v : Bool, (v == v) = true := fun v => by simp
  go_wp2_with fail
  have SS32 : ∀ w', Below w30.heap.size w30 w' → (Below w30.heap.size w30 w' ∧ w'.cell? ⟨w.heap.size, 0, none⟩ = some (.int .i64 xQ.fVariableCount) ∧ w'.cell? ⟨w.heap.size, 1, none⟩ = some (.slice AQAtoms nQAtoms cQAtoms) ∧ w'.cell? ⟨w24.heap.size, 0, none⟩ = some (.int .i64 xQ.fVariableCount) ∧ w'.cell? ⟨w24.heap.size, 1, none⟩ = some (.slice Ax0Atoms nx0Atoms cx0Atoms)) := fun w' hb => ⟨hb, bxQ.below hb 0 _ rfl, bxQ.below hb 1 _ rfl, bxx0.below hb 0 _ rfl, bxx0.below hb 1 _ rfl⟩
  have HSS32 := Lib.hid SS32; clear SS32
  have tok37 : True := trivial
  have tok41 : True := trivial
  go_region_held3 (fun w' => Below w30.heap.size w30 w' ∧ w'.cell? ⟨w.heap.size, 0, none⟩ = some (.int .i64 xQ.fVariableCount) ∧ w'.cell? ⟨w.heap.size, 1, none⟩ = some (.slice AQAtoms nQAtoms cQAtoms) ∧ w'.cell? ⟨w24.heap.size, 0, none⟩ = some (.int .i64 xQ.fVariableCount) ∧ w'.cell? ⟨w24.heap.size, 1, none⟩ = some (.slice Ax0Atoms nx0Atoms cx0Atoms)) (first | exact HSS32.out _ (Below.refl _ _).drew | exact HSS32.out _ (by assumption)) (first | (go_at_call 27; have _t := tok37; refine (toQuery_c _ xQ _ ((rQuery_ok NB).keep sQ (cells_below (hB.trans (Below.mono ((Below.refl w30.heap.size w30).drew) hB.size))))).mono ?_; rintro e w34 ⟨csv33, fv33, rfl, ov33, frv33, hb35⟩; have hC36 : Below w30.heap.size w30 w34 := Below.trans ((Below.refl w30.heap.size w30).drew) (hb35.mono ((Below.refl w30.heap.size w30).drew).size); have Rv33 := (rQuery_ok NB).toRep ov33; clear tok37) | (go_at_call 30; have _t := tok41; refine (eqQuery_c _ _ xQ xQ _ ((rQuery_ok NB).keep ((rQuery_ok NB).toRep ox0) (cells_below (hC36))) Rv33).mono ?_; rintro e w38 ⟨rfl, hb39⟩; have hC40 : Below w30.heap.size w30 w38 := Below.trans (hC36) (hb39.mono (hC36).size); clear tok41))
  replace ox0 := (rQuery_ok NB).ownB ox0 hC40
  replace ox1 := (rBouquet_ok NB).ownB ox1 hC40
  replace hB := hB.trans (hC40.mono hB.size)
  replace bxQ := bxQ.below hC40
  replace bxB := bxB.below hC40
  replace bxx0 := bxx0.below hC40
  replace bxx1 := bxx1.below hC40
  clear HSS32 hC40
  have hdx0 : decide (xQ = xQ) = true := by simp
  go_wp2_with fail
  have SS42 : ∀ w', Below w38.heap.size w38 w' → (Below w38.heap.size w38 w' ∧ w'.cell? ⟨w.heap.size + 1, 0, none⟩ = some (.int .i64 xB.fVersion) ∧ w'.cell? ⟨w.heap.size + 1, 1, none⟩ = some (.int .i64 xB.fRatio) ∧ w'.cell? ⟨w.heap.size + 1, 2, none⟩ = some (.int .i64 xB.fSlack) ∧ w'.cell? ⟨w.heap.size + 1, 3, none⟩ = some (.slice ABBoxLow nBBoxLow cBBoxLow) ∧ w'.cell? ⟨w.heap.size + 1, 4, none⟩ = some (.slice ABBoxHigh nBBoxHigh cBBoxHigh) ∧ w'.cell? ⟨w.heap.size + 1, 5, none⟩ = some (.slice ABBudgets nBBudgets cBBudgets) ∧ w'.cell? ⟨w.heap.size + 1, 6, none⟩ = some (.slice ABPlans nBPlans cBPlans) ∧ w'.cell? ⟨w.heap.size + 1, 7, none⟩ = some (.slice ABContours nBContours cBContours) ∧ w'.cell? ⟨w27.heap.size, 0, none⟩ = some (.int .i64 xB.fVersion) ∧ w'.cell? ⟨w27.heap.size, 1, none⟩ = some (.int .i64 xB.fRatio) ∧ w'.cell? ⟨w27.heap.size, 2, none⟩ = some (.int .i64 xB.fSlack) ∧ w'.cell? ⟨w27.heap.size, 3, none⟩ = some (.slice Ax1BoxLow nx1BoxLow cx1BoxLow) ∧ w'.cell? ⟨w27.heap.size, 4, none⟩ = some (.slice Ax1BoxHigh nx1BoxHigh cx1BoxHigh) ∧ w'.cell? ⟨w27.heap.size, 5, none⟩ = some (.slice Ax1Budgets nx1Budgets cx1Budgets) ∧ w'.cell? ⟨w27.heap.size, 6, none⟩ = some (.slice Ax1Plans nx1Plans cx1Plans) ∧ w'.cell? ⟨w27.heap.size, 7, none⟩ = some (.slice Ax1Contours nx1Contours cx1Contours)) := fun w' hb => ⟨hb, bxB.below hb 0 _ rfl, bxB.below hb 1 _ rfl, bxB.below hb 2 _ rfl, bxB.below hb 3 _ rfl, bxB.below hb 4 _ rfl, bxB.below hb 5 _ rfl, bxB.below hb 6 _ rfl, bxB.below hb 7 _ rfl, bxx1.below hb 0 _ rfl, bxx1.below hb 1 _ rfl, bxx1.below hb 2 _ rfl, bxx1.below hb 3 _ rfl, bxx1.below hb 4 _ rfl, bxx1.below hb 5 _ rfl, bxx1.below hb 6 _ rfl, bxx1.below hb 7 _ rfl⟩
  have HSS42 := Lib.hid SS42; clear SS42
  have tok47 : True := trivial
  have tok51 : True := trivial
  go_region_held3 (fun w' => Below w38.heap.size w38 w' ∧ w'.cell? ⟨w.heap.size + 1, 0, none⟩ = some (.int .i64 xB.fVersion) ∧ w'.cell? ⟨w.heap.size + 1, 1, none⟩ = some (.int .i64 xB.fRatio) ∧ w'.cell? ⟨w.heap.size + 1, 2, none⟩ = some (.int .i64 xB.fSlack) ∧ w'.cell? ⟨w.heap.size + 1, 3, none⟩ = some (.slice ABBoxLow nBBoxLow cBBoxLow) ∧ w'.cell? ⟨w.heap.size + 1, 4, none⟩ = some (.slice ABBoxHigh nBBoxHigh cBBoxHigh) ∧ w'.cell? ⟨w.heap.size + 1, 5, none⟩ = some (.slice ABBudgets nBBudgets cBBudgets) ∧ w'.cell? ⟨w.heap.size + 1, 6, none⟩ = some (.slice ABPlans nBPlans cBPlans) ∧ w'.cell? ⟨w.heap.size + 1, 7, none⟩ = some (.slice ABContours nBContours cBContours) ∧ w'.cell? ⟨w27.heap.size, 0, none⟩ = some (.int .i64 xB.fVersion) ∧ w'.cell? ⟨w27.heap.size, 1, none⟩ = some (.int .i64 xB.fRatio) ∧ w'.cell? ⟨w27.heap.size, 2, none⟩ = some (.int .i64 xB.fSlack) ∧ w'.cell? ⟨w27.heap.size, 3, none⟩ = some (.slice Ax1BoxLow nx1BoxLow cx1BoxLow) ∧ w'.cell? ⟨w27.heap.size, 4, none⟩ = some (.slice Ax1BoxHigh nx1BoxHigh cx1BoxHigh) ∧ w'.cell? ⟨w27.heap.size, 5, none⟩ = some (.slice Ax1Budgets nx1Budgets cx1Budgets) ∧ w'.cell? ⟨w27.heap.size, 6, none⟩ = some (.slice Ax1Plans nx1Plans cx1Plans) ∧ w'.cell? ⟨w27.heap.size, 7, none⟩ = some (.slice Ax1Contours nx1Contours cx1Contours)) (first | exact HSS42.out _ (Below.refl _ _).drew | exact HSS42.out _ (by assumption)) (first | (go_at_call 28; have _t := tok47; refine (toBouquet_c _ xB _ ((rBouquet_ok NB).keep sB (cells_below (hB.trans (Below.mono ((Below.refl w38.heap.size w38).drew) hB.size))))).mono ?_; rintro e w44 ⟨csv43, fv43, rfl, ov43, frv43, hb45⟩; have hC46 : Below w38.heap.size w38 w44 := Below.trans ((Below.refl w38.heap.size w38).drew) (hb45.mono ((Below.refl w38.heap.size w38).drew).size); have Rv43 := (rBouquet_ok NB).toRep ov43; clear tok47) | (go_at_call 31; have _t := tok51; refine (eqBouquet_c _ _ xB xB _ ((rBouquet_ok NB).keep ((rBouquet_ok NB).toRep ox1) (cells_below (hC46))) Rv43).mono ?_; rintro e w48 ⟨rfl, hb49⟩; have hC50 : Below w38.heap.size w38 w48 := Below.trans (hC46) (hb49.mono (hC46).size); clear tok51))
  replace ox0 := (rQuery_ok NB).ownB ox0 hC50
  replace ox1 := (rBouquet_ok NB).ownB ox1 hC50
  replace hB := hB.trans (hC50.mono hB.size)
  replace bxQ := bxQ.below hC50
  replace bxB := bxB.below hC50
  replace bxx0 := bxx0.below hC50
  replace bxx1 := bxx1.below hC50
  clear HSS42 hC50
  have hdx1 : decide (xB = xB) = true := by simp
  go_wp2
  go_ret
  exact ⟨rfl, hB⟩

set_option maxRecDepth 100000 in
theorem lifted (os : Os) (started : os.Started) (H : Type) (enc : TypeId × Value → H) :
    ReturnsInHanded {} Try.checked os 4 .any (Rows.fnExactIsValidBouquetSpec.pre6 enc Try.prog Try.f4 Rows.fnExactIsValidBouquetRow.domain false) (Rows.fnExactIsValidBouquetSpec.post enc Try.prog Try.f4 false true false false) := by
  refine returnsInHanded_of_change (C := Try.checked) own started (by kernel_rfl) Try.func4
    (ChangeSpec.witness6 (enc := enc) (C := Try.checked) false ⟨#[], #[.agg #[.int .i64 0, .slice none 0 0], .agg #[.int .i64 0, .int .i64 0, .int .i64 0, .slice none 0 0, .slice none 0 0, .slice none 0 0, .slice none 0 0, .slice none 0 0]], []⟩ 8 (by kernel_rfl) (by kernel_rfl) (by kernel_rfl) (by kernel_rfl)) ?_
  intro W base args ds gs before hval0 hW hcnd _
  have hval : ∀ (j : Nat) t v, Try.f4.params[j]? = some t → args[j]? = some v → Value.okWide Try.prog W .any base t v := hval0
  have hW' := hW
  obtain ⟨p, q, hA0, hV, rfl, hfz, hnd⟩ := hW
  have hA : DataW.TrodAll enc Try.prog W 0 (fun _ => true) true Try.f4.params.toList args.toList ds p := hA0
  rw [Try.params4] at hA hval
  obtain ⟨v0, vs0, d0, ds0, p0, q0, hargs, rfl, rfl, h0, r0⟩ := trodAll_cons hA
  obtain ⟨v1, vs1, d1, ds1, p1, q1, rfl, rfl, rfl, h1, r1⟩ := trodAll_cons r0
  obtain ⟨rfl, rfl, rfl⟩ := trodAll_nil r1
  obtain rfl : args = #[v0, v1] := by cases args; simp_all
  obtain ⟨rfl, rfl⟩ := trodVars_none hV
  obtain ⟨ca0, rfl, _⟩ := okWide_struct Try.underlying47 (hval 0 47 v0 rfl rfl)
  obtain ⟨cl0⟩ := ca0
  have k0 := h0
  have lt0 : ∀ x ∈ p0, x.block < W.heap.size := by obtain ⟨m, hm⟩ := k0; exact DataW.trod_lt m _ _ _ hm
  obtain ⟨x0, g0⟩ : ∃ x, (rQuery maxLen).rep W cl0 x := by
    obtain ⟨fuel, hf⟩ := h0
    exact opensQuery hf
  obtain ⟨ca1, rfl, _⟩ := okWide_struct Try.underlying52 (hval 1 52 v1 rfl rfl)
  obtain ⟨cl1⟩ := ca1
  have k1 := h1
  have lt1 : ∀ x ∈ p1, x.block < W.heap.size := by obtain ⟨m, hm⟩ := k1; exact DataW.trod_lt m _ _ _ hm
  obtain ⟨x1, g1⟩ : ∃ x, (rBouquet maxLen).rep W cl1 x := by
    obtain ⟨fuel, hf⟩ := h1
    exact opensBouquet hf
  clear hA0 hval0
  refine (walk cl0 x0 cl1 x1 W g0 g1).mono fun e W' ⟨he, bel⟩ => ?_
  subst he
  exact ⟨_, rfl, _, _, _, [], _, [], hW', trodAll_mk1 (shut_bool Try.underlying4 _), (trodAll_cons_mk (Below.trod laidOut (by kernel_rfl) (of_decide_eq_true (by kernel_rfl)) k0 bel lt0) (trodAll_cons_mk (Below.trod laidOut (by kernel_rfl) (of_decide_eq_true (by kernel_rfl)) k1 bel lt1) trodAll_mk0)), rfl, bel.frame _, fun h => by cases h⟩

theorem over : Rows.fnExactIsValidBouquetRow.holds Try.pinned (OpenSpec.ofChange Rows.fnExactIsValidBouquetSpec) :=
  OpenClaim.holds_of_wide 4 Try.f4 rfl rfl rfl rfl rfl rfl rfl ⟨rfl, rfl, rfl, rfl, rfl⟩ rfl rfl rfl rfl rfl (by kernel_rfl) Try.func4 (by kernel_rfl)
    (of_decide_eq_true (by kernel_rfl)) (by unfold Func.isWrapper; first | (rw [if_pos (by decide +kernel)]; kernel_rfl) | (rw [if_neg (by decide +kernel)]; exact ⟨rfl, rfl⟩))
    (fun os started H enc _ => lifted os started H enc)

theorem proved : Rows.FnExactIsValidBouquetSaid := over
#print axioms proved
end Go.Proofs.Ytkbglllncdkbgaa.fnExactIsValidBouquet
