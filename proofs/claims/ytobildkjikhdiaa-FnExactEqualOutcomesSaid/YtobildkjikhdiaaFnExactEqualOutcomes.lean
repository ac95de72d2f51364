/-
  For every input the law FnExactEqualOutcomes returns true and leaves its arguments as they were; no condition beyond the statement's own.
-/
import Derived.Test.YtobildkjikhdiaaRows
import Derived.Test.YtobildkjikhdiaaOpens
import Derived.Test.YtobildkjikhdiaaTo
import Derived.Test.YtobildkjikhdiaaEq
import Derived.Test.YtobildkjikhdiaaOutc
import Derived.WalkKit
import Derived.ProofKit
import Derived.OpenShut
import Derived.ShutString
import Derived.ChangeOld
import Derived.Below
import Derived.Deep.RegionHeld3
namespace Go.Proofs.Ytobildkjikhdiaa.fnExactEqualOutcomes
open Go.ChangeShapes Go.WideShapes Go.ChangeAt Go.RowKit
open Go.ChangeMaps (open_string shut_string)
set_option linter.unusedVariables false
set_option linter.unusedSimpArgs false

theorem own : ownKnob Try.prog.godebug = none := by kernel_rfl
theorem laidOut : laidOutB Try.prog = true := by kernel_rfl

set_option maxRecDepth 100000 in
set_option maxHeartbeats 4000000 in
theorem walk (csA : List Value) (xA : OutcomeD) (csB : List Value) (xB : OutcomeD) (w : World) (rA : (rOutcome maxLen).rep w csA xA) (rB : (rOutcome maxLen).rep w csB xB) :
    Calls Try.prog 5 #[.agg csA.toArray, .agg csB.toArray] w fun e w' => e = .returned (.bool true) ∧ Below w.heap.size w w' := by
  have hB : Below w.heap.size w w := Below.refl _ _
  have qA := rA
  obtain ⟨AAAnswerVars, nAAnswerVars, cAAnswerVars, AAAnswerRows, nAAnswerRows, cAAnswerRows, AANotes, nANotes, cANotes, AABoxLow, nABoxLow, cABoxLow, AABoxHigh, nABoxHigh, cABoxHigh, rfl, hAAnswerVars, hAAnswerRows, hATotal, hANotes, hABoxLow, hABoxHigh⟩ := rOutcome_rep.1 qA
  clear qA
  have qB := rB
  obtain ⟨ABAnswerVars, nBAnswerVars, cBAnswerVars, ABAnswerRows, nBAnswerRows, cBAnswerRows, ABNotes, nBNotes, cBNotes, ABBoxLow, nBBoxLow, cBBoxLow, ABBoxHigh, nBBoxHigh, cBBoxHigh, rfl, hBAnswerVars, hBAnswerRows, hBTotal, hBNotes, hBBoxLow, hBBoxHigh⟩ := rOutcome_rep.1 qB
  clear qB
  go_enter Try.func5, Try.ntmps5
  have hA1 := (Below.refl (World.heap (w)).size (w)).alloc (Nat.le_refl _) (.cells #[.slice AAAnswerVars nAAnswerVars cAAnswerVars, .slice AAAnswerRows nAAnswerRows cAAnswerRows, .int .i64 xA.fTotal, .slice AANotes nANotes cANotes, .slice AABoxLow nABoxLow cABoxLow, .slice AABoxHigh nABoxHigh cABoxHigh] 60)
  replace hB := hB.trans (hA1.mono hB.size)
  have bxA := Bx.new (w) [.slice AAAnswerVars nAAnswerVars cAAnswerVars, .slice AAAnswerRows nAAnswerRows cAAnswerRows, .int .i64 xA.fTotal, .slice AANotes nANotes cANotes, .slice AABoxLow nABoxLow cABoxLow, .slice AABoxHigh nABoxHigh cABoxHigh] 60
  clear hA1
  have hA2 := (Below.refl (World.heap ((w).alloc (.cells #[.slice AAAnswerVars nAAnswerVars cAAnswerVars, .slice AAAnswerRows nAAnswerRows cAAnswerRows, .int .i64 xA.fTotal, .slice AANotes nANotes cANotes, .slice AABoxLow nABoxLow cABoxLow, .slice AABoxHigh nABoxHigh cABoxHigh] 60))).size ((w).alloc (.cells #[.slice AAAnswerVars nAAnswerVars cAAnswerVars, .slice AAAnswerRows nAAnswerRows cAAnswerRows, .int .i64 xA.fTotal, .slice AANotes nANotes cANotes, .slice AABoxLow nABoxLow cABoxLow, .slice AABoxHigh nABoxHigh cABoxHigh] 60))).alloc (Nat.le_refl _) (.cells #[.slice ABAnswerVars nBAnswerVars cBAnswerVars, .slice ABAnswerRows nBAnswerRows cBAnswerRows, .int .i64 xB.fTotal, .slice ABNotes nBNotes cBNotes, .slice ABBoxLow nBBoxLow cBBoxLow, .slice ABBoxHigh nBBoxHigh cBBoxHigh] 60)
  replace hB := hB.trans (hA2.mono hB.size)
  replace bxA := bxA.below hA2
  have bxB := Bx.new ((w).alloc (.cells #[.slice AAAnswerVars nAAnswerVars cAAnswerVars, .slice AAAnswerRows nAAnswerRows cAAnswerRows, .int .i64 xA.fTotal, .slice AANotes nANotes cANotes, .slice AABoxLow nABoxLow cABoxLow, .slice AABoxHigh nABoxHigh cABoxHigh] 60)) [.slice ABAnswerVars nBAnswerVars cBAnswerVars, .slice ABAnswerRows nBAnswerRows cBAnswerRows, .int .i64 xB.fTotal, .slice ABNotes nBNotes cBNotes, .slice ABBoxLow nBBoxLow cBBoxLow, .slice ABBoxHigh nBBoxHigh cBBoxHigh] 60
  simp only [World.size_alloc] at bxB
  clear hA2
  go_wp2_with fail
  refine (szOutcome_c _ xA _ _ ((rOutcome_ok maxLen).keep rA (cells_below hB)) (by omega) (by omega)).mono ?_
  rintro e w4 ⟨rfl, hb3⟩
  replace hB := hB.trans (hb3.mono hB.size)
  replace bxA := bxA.below hb3
  replace bxB := bxB.below hb3
  clear hb3
  by_cases hszA : ((bulkOutcome xA : Nat) : Int) ≤ 1048576
  rotate_left
  · rw [lessBy_no hszA]
    go_wp2
    go_ret
    exact ⟨rfl, hB⟩
  rw [lessBy_yes hszA]
  have sA := smallOutcome rA (by omega)
  obtain ⟨L5, hL5⟩ : ∃ L : Int, L = 1048576 - ((bulkOutcome xA : Nat) : Int) := ⟨_, rfl⟩
  rw [← hL5]
  have pL5 : 0 ≤ L5 := by omega
  have uL5 : L5 ≤ 1048576 := by omega
  clear hL5
  have cbxB_0 := bxB 0 _ rfl
  have cbxB_1 := bxB 1 _ rfl
  have cbxB_2 := bxB 2 _ rfl
  have cbxB_3 := bxB 3 _ rfl
  have cbxB_4 := bxB 4 _ rfl
  have cbxB_5 := bxB 5 _ rfl
  go_wp2_with fail
  refine (szOutcome_c _ xB _ _ ((rOutcome_ok maxLen).keep rB (cells_below hB)) (by omega) (by omega)).mono ?_
  rintro e w7 ⟨rfl, hb6⟩
  replace hB := hB.trans (hb6.mono hB.size)
  replace bxA := bxA.below hb6
  replace bxB := bxB.below hb6
  clear hb6 cbxB_0 cbxB_1 cbxB_2 cbxB_3 cbxB_4 cbxB_5
  by_cases hszB : ((bulkOutcome xB : Nat) : Int) ≤ L5
  rotate_left
  · rw [lessBy_no hszB]
    go_wp2
    go_ret
    exact ⟨rfl, hB⟩
  rw [lessBy_yes hszB]
  have sB := smallOutcome rB (by omega)
  obtain ⟨L8, hL8⟩ : ∃ L : Int, L = L5 - ((bulkOutcome xB : Nat) : Int) := ⟨_, rfl⟩
  rw [← hL8]
  have pL8 : 0 ≤ L8 := by omega
  have uL8 : L8 ≤ 1048576 := by omega
  clear hL8
  go_wp2_with fail
  have SS9 : ∀ w', Below w7.heap.size w7 w' → (Below w7.heap.size w7 w' ∧ w'.cell? ⟨w.heap.size, 0, none⟩ = some (.slice AAAnswerVars nAAnswerVars cAAnswerVars) ∧ w'.cell? ⟨w.heap.size, 1, none⟩ = some (.slice AAAnswerRows nAAnswerRows cAAnswerRows) ∧ w'.cell? ⟨w.heap.size, 2, none⟩ = some (.int .i64 xA.fTotal) ∧ w'.cell? ⟨w.heap.size, 3, none⟩ = some (.slice AANotes nANotes cANotes) ∧ w'.cell? ⟨w.heap.size, 4, none⟩ = some (.slice AABoxLow nABoxLow cABoxLow) ∧ w'.cell? ⟨w.heap.size, 5, none⟩ = some (.slice AABoxHigh nABoxHigh cABoxHigh) ∧ w'.cell? ⟨w.heap.size + 1, 0, none⟩ = some (.slice ABAnswerVars nBAnswerVars cBAnswerVars) ∧ w'.cell? ⟨w.heap.size + 1, 1, none⟩ = some (.slice ABAnswerRows nBAnswerRows cBAnswerRows) ∧ w'.cell? ⟨w.heap.size + 1, 2, none⟩ = some (.int .i64 xB.fTotal) ∧ w'.cell? ⟨w.heap.size + 1, 3, none⟩ = some (.slice ABNotes nBNotes cBNotes) ∧ w'.cell? ⟨w.heap.size + 1, 4, none⟩ = some (.slice ABBoxLow nBBoxLow cBBoxLow) ∧ w'.cell? ⟨w.heap.size + 1, 5, none⟩ = some (.slice ABBoxHigh nBBoxHigh cBBoxHigh)) := fun w' hb => ⟨hb, bxA.below hb 0 _ rfl, bxA.below hb 1 _ rfl, bxA.below hb 2 _ rfl, bxA.below hb 3 _ rfl, bxA.below hb 4 _ rfl, bxA.below hb 5 _ rfl, bxB.below hb 0 _ rfl, bxB.below hb 1 _ rfl, bxB.below hb 2 _ rfl, bxB.below hb 3 _ rfl, bxB.below hb 4 _ rfl, bxB.below hb 5 _ rfl⟩
  have HSS9 := Lib.hid SS9; clear SS9
  have tok14 : True := trivial
  have tok19 : True := trivial
  have tok23 : True := trivial
  go_region_held3 (fun w' => Below w7.heap.size w7 w' ∧ w'.cell? ⟨w.heap.size, 0, none⟩ = some (.slice AAAnswerVars nAAnswerVars cAAnswerVars) ∧ w'.cell? ⟨w.heap.size, 1, none⟩ = some (.slice AAAnswerRows nAAnswerRows cAAnswerRows) ∧ w'.cell? ⟨w.heap.size, 2, none⟩ = some (.int .i64 xA.fTotal) ∧ w'.cell? ⟨w.heap.size, 3, none⟩ = some (.slice AANotes nANotes cANotes) ∧ w'.cell? ⟨w.heap.size, 4, none⟩ = some (.slice AABoxLow nABoxLow cABoxLow) ∧ w'.cell? ⟨w.heap.size, 5, none⟩ = some (.slice AABoxHigh nABoxHigh cABoxHigh) ∧ w'.cell? ⟨w.heap.size + 1, 0, none⟩ = some (.slice ABAnswerVars nBAnswerVars cBAnswerVars) ∧ w'.cell? ⟨w.heap.size + 1, 1, none⟩ = some (.slice ABAnswerRows nBAnswerRows cBAnswerRows) ∧ w'.cell? ⟨w.heap.size + 1, 2, none⟩ = some (.int .i64 xB.fTotal) ∧ w'.cell? ⟨w.heap.size + 1, 3, none⟩ = some (.slice ABNotes nBNotes cBNotes) ∧ w'.cell? ⟨w.heap.size + 1, 4, none⟩ = some (.slice ABBoxLow nBBoxLow cBBoxLow) ∧ w'.cell? ⟨w.heap.size + 1, 5, none⟩ = some (.slice ABBoxHigh nBBoxHigh cBBoxHigh)) (first | exact HSS9.out _ (Below.refl _ _).drew | exact HSS9.out _ (by assumption)) (first | (go_at_call 41; have _t := tok14; refine (toOutcome_c _ xA _ ((rOutcome_ok NB).keep sA (cells_below (hB.trans (Below.mono ((Below.refl w7.heap.size w7).drew) hB.size))))).mono ?_; rintro e w11 ⟨csv10, fv10, rfl, ov10, frv10, hb12⟩; have hC13 : Below w7.heap.size w7 w11 := Below.trans ((Below.refl w7.heap.size w7).drew) (hb12.mono ((Below.refl w7.heap.size w7).drew).size); have Rv10 := (rOutcome_ok NB).toRep ov10; clear tok14) | (go_at_call 41; have _t := tok19; refine (toOutcome_c _ xB _ ((rOutcome_ok NB).keep sB (cells_below (hB.trans (Below.mono (hC13) hB.size))))).mono ?_; rintro e w16 ⟨csv15, fv15, rfl, ov15, frv15, hb17⟩; have hC18 : Below w7.heap.size w7 w16 := Below.trans (hC13) (hb17.mono (hC13).size); have Rv15 := (rOutcome_ok NB).toRep ov15; replace Rv10 := (rOutcome_ok NB).keep Rv10 (cells_below hb17); clear tok19) | (go_at_call 40; have _t := tok23; refine (sEqualOutcomes_c _ _ xA xB _ Rv10 Rv15).mono ?_; rintro e w20 ⟨rfl, hb21⟩; have hC22 : Below w7.heap.size w7 w20 := Below.trans (hC18) (hb21.mono (hC18).size); clear tok23))
  replace hB := hB.trans (hC22.mono hB.size)
  replace bxA := bxA.below hC22
  replace bxB := bxB.below hC22
  clear HSS9 hC22
  have cbxA_0 := bxA 0 _ rfl
  have cbxA_1 := bxA 1 _ rfl
  have cbxA_2 := bxA 2 _ rfl
  have cbxA_3 := bxA 3 _ rfl
  have cbxA_4 := bxA 4 _ rfl
  have cbxA_5 := bxA 5 _ rfl
  go_wp2_with fail
  refine (toOutcome_c _ xA _ ((rOutcome_ok NB).keep sA (cells_below hB))).mono ?_
  rintro e w24 ⟨csx0, fx0, rfl, ox0, frx0, hb25⟩
  replace hB := hB.trans (hb25.mono hB.size)
  replace bxA := bxA.below hb25
  replace bxB := bxB.below hb25
  clear hb25 cbxA_0 cbxA_1 cbxA_2 cbxA_3 cbxA_4 cbxA_5
  have Rx0 := (rOutcome_ok NB).toRep ox0
  obtain ⟨Ax0AnswerVars, nx0AnswerVars, cx0AnswerVars, Ax0AnswerRows, nx0AnswerRows, cx0AnswerRows, Ax0Notes, nx0Notes, cx0Notes, Ax0BoxLow, nx0BoxLow, cx0BoxLow, Ax0BoxHigh, nx0BoxHigh, cx0BoxHigh, rfl, _, _, _, _, _, _⟩ := rOutcome_rep.1 Rx0
  have hA26 := (Below.refl w24.heap.size w24).alloc (Nat.le_refl _) (.cells #[.slice Ax0AnswerVars nx0AnswerVars cx0AnswerVars, .slice Ax0AnswerRows nx0AnswerRows cx0AnswerRows, .int .i64 xA.fTotal, .slice Ax0Notes nx0Notes cx0Notes, .slice Ax0BoxLow nx0BoxLow cx0BoxLow, .slice Ax0BoxHigh nx0BoxHigh cx0BoxHigh] 66)
  replace hB := hB.trans (hA26.mono hB.size)
  replace bxA := bxA.below hA26
  replace bxB := bxB.below hA26
  replace Rx0 := (rOutcome_ok NB).keep Rx0 (cells_below hA26)
  have bxx0 := Bx.new w24 [.slice Ax0AnswerVars nx0AnswerVars cx0AnswerVars, .slice Ax0AnswerRows nx0AnswerRows cx0AnswerRows, .int .i64 xA.fTotal, .slice Ax0Notes nx0Notes cx0Notes, .slice Ax0BoxLow nx0BoxLow cx0BoxLow, .slice Ax0BoxHigh nx0BoxHigh cx0BoxHigh] 66
  clear hA26
  have cbxB_0 := bxB 0 _ rfl
  have cbxB_1 := bxB 1 _ rfl
  have cbxB_2 := bxB 2 _ rfl
  have cbxB_3 := bxB 3 _ rfl
  have cbxB_4 := bxB 4 _ rfl
  have cbxB_5 := bxB 5 _ rfl
  go_wp2_with fail
  refine (toOutcome_c _ xB _ ((rOutcome_ok NB).keep sB (cells_below hB))).mono ?_
  rintro e w27 ⟨csx1, fx1, rfl, ox1, frx1, hb28⟩
  replace hB := hB.trans (hb28.mono hB.size)
  replace bxA := bxA.below hb28
  replace bxB := bxB.below hb28
  replace bxx0 := bxx0.below hb28
  replace Rx0 := (rOutcome_ok NB).keep Rx0 (cells_below hb28)
  clear hb28 cbxB_0 cbxB_1 cbxB_2 cbxB_3 cbxB_4 cbxB_5
  have Rx1 := (rOutcome_ok NB).toRep ox1
  obtain ⟨Ax1AnswerVars, nx1AnswerVars, cx1AnswerVars, Ax1AnswerRows, nx1AnswerRows, cx1AnswerRows, Ax1Notes, nx1Notes, cx1Notes, Ax1BoxLow, nx1BoxLow, cx1BoxLow, Ax1BoxHigh, nx1BoxHigh, cx1BoxHigh, rfl, _, _, _, _, _, _⟩ := rOutcome_rep.1 Rx1
  have hA29 := (Below.refl w27.heap.size w27).alloc (Nat.le_refl _) (.cells #[.slice Ax1AnswerVars nx1AnswerVars cx1AnswerVars, .slice Ax1AnswerRows nx1AnswerRows cx1AnswerRows, .int .i64 xB.fTotal, .slice Ax1Notes nx1Notes cx1Notes, .slice Ax1BoxLow nx1BoxLow cx1BoxLow, .slice Ax1BoxHigh nx1BoxHigh cx1BoxHigh] 66)
  replace hB := hB.trans (hA29.mono hB.size)
  replace bxA := bxA.below hA29
  replace bxB := bxB.below hA29
  replace bxx0 := bxx0.below hA29
  replace Rx0 := (rOutcome_ok NB).keep Rx0 (cells_below hA29)
  replace Rx1 := (rOutcome_ok NB).keep Rx1 (cells_below hA29)
  have bxx1 := Bx.new w27 [.slice Ax1AnswerVars nx1AnswerVars cx1AnswerVars, .slice Ax1AnswerRows nx1AnswerRows cx1AnswerRows, .int .i64 xB.fTotal, .slice Ax1Notes nx1Notes cx1Notes, .slice Ax1BoxLow nx1BoxLow cx1BoxLow, .slice Ax1BoxHigh nx1BoxHigh cx1BoxHigh] 66
  clear hA29
  have cbxx0_0 := bxx0 0 _ rfl
  have cbxx0_1 := bxx0 1 _ rfl
  have cbxx0_2 := bxx0 2 _ rfl
  have cbxx0_3 := bxx0 3 _ rfl
  have cbxx0_4 := bxx0 4 _ rfl
  have cbxx0_5 := bxx0 5 _ rfl
  have cbxx1_0 := bxx1 0 _ rfl
  have cbxx1_1 := bxx1 1 _ rfl
  have cbxx1_2 := bxx1 2 _ rfl
  have cbxx1_3 := bxx1 3 _ rfl
  have cbxx1_4 := bxx1 4 _ rfl
  have cbxx1_5 := bxx1 5 _ rfl
  go_wp2_with fail
  refine (iEqualOutcomes_c _ _ xA xB _ Rx0 Rx1).mono ?_
  rintro e w30 ⟨rfl, hb31⟩
  replace hB := hB.trans (hb31.mono hB.size)
  replace bxA := bxA.below hb31
  replace bxB := bxB.below hb31
  replace bxx0 := bxx0.below hb31
  replace bxx1 := bxx1.below hb31
  replace Rx0 := (rOutcome_ok NB).keep Rx0 (cells_below hb31)
  replace Rx1 := (rOutcome_ok NB).keep Rx1 (cells_below hb31)
  clear hb31 cbxx0_0 cbxx0_1 cbxx0_2 cbxx0_3 cbxx0_4 cbxx0_5 cbxx1_0 cbxx1_1 cbxx1_2 cbxx1_3 cbxx1_4 cbxx1_5
  have hnei : ∀ v : Int, (v != v) = false := fun v => by simp
  have hneb : ∀ v : Bool, (v == v) = true := fun v => by simp
  go_wp2_with fail
  have SS32 : ∀ w', Below w30.heap.size w30 w' → (Below w30.heap.size w30 w' ∧ w'.cell? ⟨w.heap.size, 0, none⟩ = some (.slice AAAnswerVars nAAnswerVars cAAnswerVars) ∧ w'.cell? ⟨w.heap.size, 1, none⟩ = some (.slice AAAnswerRows nAAnswerRows cAAnswerRows) ∧ w'.cell? ⟨w.heap.size, 2, none⟩ = some (.int .i64 xA.fTotal) ∧ w'.cell? ⟨w.heap.size, 3, none⟩ = some (.slice AANotes nANotes cANotes) ∧ w'.cell? ⟨w.heap.size, 4, none⟩ = some (.slice AABoxLow nABoxLow cABoxLow) ∧ w'.cell? ⟨w.heap.size, 5, none⟩ = some (.slice AABoxHigh nABoxHigh cABoxHigh) ∧ w'.cell? ⟨w24.heap.size, 0, none⟩ = some (.slice Ax0AnswerVars nx0AnswerVars cx0AnswerVars) ∧ w'.cell? ⟨w24.heap.size, 1, none⟩ = some (.slice Ax0AnswerRows nx0AnswerRows cx0AnswerRows) ∧ w'.cell? ⟨w24.heap.size, 2, none⟩ = some (.int .i64 xA.fTotal) ∧ w'.cell? ⟨w24.heap.size, 3, none⟩ = some (.slice Ax0Notes nx0Notes cx0Notes) ∧ w'.cell? ⟨w24.heap.size, 4, none⟩ = some (.slice Ax0BoxLow nx0BoxLow cx0BoxLow) ∧ w'.cell? ⟨w24.heap.size, 5, none⟩ = some (.slice Ax0BoxHigh nx0BoxHigh cx0BoxHigh)) := fun w' hb => ⟨hb, bxA.below hb 0 _ rfl, bxA.below hb 1 _ rfl, bxA.below hb 2 _ rfl, bxA.below hb 3 _ rfl, bxA.below hb 4 _ rfl, bxA.below hb 5 _ rfl, bxx0.below hb 0 _ rfl, bxx0.below hb 1 _ rfl, bxx0.below hb 2 _ rfl, bxx0.below hb 3 _ rfl, bxx0.below hb 4 _ rfl, bxx0.below hb 5 _ rfl⟩
  have HSS32 := Lib.hid SS32; clear SS32
  have tok37 : True := trivial
  have tok41 : True := trivial
  go_region_held3 (fun w' => Below w30.heap.size w30 w' ∧ w'.cell? ⟨w.heap.size, 0, none⟩ = some (.slice AAAnswerVars nAAnswerVars cAAnswerVars) ∧ w'.cell? ⟨w.heap.size, 1, none⟩ = some (.slice AAAnswerRows nAAnswerRows cAAnswerRows) ∧ w'.cell? ⟨w.heap.size, 2, none⟩ = some (.int .i64 xA.fTotal) ∧ w'.cell? ⟨w.heap.size, 3, none⟩ = some (.slice AANotes nANotes cANotes) ∧ w'.cell? ⟨w.heap.size, 4, none⟩ = some (.slice AABoxLow nABoxLow cABoxLow) ∧ w'.cell? ⟨w.heap.size, 5, none⟩ = some (.slice AABoxHigh nABoxHigh cABoxHigh) ∧ w'.cell? ⟨w24.heap.size, 0, none⟩ = some (.slice Ax0AnswerVars nx0AnswerVars cx0AnswerVars) ∧ w'.cell? ⟨w24.heap.size, 1, none⟩ = some (.slice Ax0AnswerRows nx0AnswerRows cx0AnswerRows) ∧ w'.cell? ⟨w24.heap.size, 2, none⟩ = some (.int .i64 xA.fTotal) ∧ w'.cell? ⟨w24.heap.size, 3, none⟩ = some (.slice Ax0Notes nx0Notes cx0Notes) ∧ w'.cell? ⟨w24.heap.size, 4, none⟩ = some (.slice Ax0BoxLow nx0BoxLow cx0BoxLow) ∧ w'.cell? ⟨w24.heap.size, 5, none⟩ = some (.slice Ax0BoxHigh nx0BoxHigh cx0BoxHigh)) (first | exact HSS32.out _ (Below.refl _ _).drew | exact HSS32.out _ (by assumption)) (first | (go_at_call 41; have _t := tok37; refine (toOutcome_c _ xA _ ((rOutcome_ok NB).keep sA (cells_below (hB.trans (Below.mono ((Below.refl w30.heap.size w30).drew) hB.size))))).mono ?_; rintro e w34 ⟨csv33, fv33, rfl, ov33, frv33, hb35⟩; have hC36 : Below w30.heap.size w30 w34 := Below.trans ((Below.refl w30.heap.size w30).drew) (hb35.mono ((Below.refl w30.heap.size w30).drew).size); have Rv33 := (rOutcome_ok NB).toRep ov33; clear tok37) | (go_at_call 43; have _t := tok41; refine (eqOutcome_c _ _ xA xA _ ((rOutcome_ok NB).keep Rx0 (cells_below (hC36))) Rv33).mono ?_; rintro e w38 ⟨rfl, hb39⟩; have hC40 : Below w30.heap.size w30 w38 := Below.trans (hC36) (hb39.mono (hC36).size); clear tok41))
  replace hB := hB.trans (hC40.mono hB.size)
  replace bxA := bxA.below hC40
  replace bxB := bxB.below hC40
  replace bxx0 := bxx0.below hC40
  replace bxx1 := bxx1.below hC40
  replace Rx0 := (rOutcome_ok NB).keep Rx0 (cells_below hC40)
  replace Rx1 := (rOutcome_ok NB).keep Rx1 (cells_below hC40)
  clear HSS32 hC40
  have hdx0 : decide (xA = xA) = true := by simp
  go_wp2_with fail
  have SS42 : ∀ w', Below w38.heap.size w38 w' → (Below w38.heap.size w38 w' ∧ w'.cell? ⟨w.heap.size + 1, 0, none⟩ = some (.slice ABAnswerVars nBAnswerVars cBAnswerVars) ∧ w'.cell? ⟨w.heap.size + 1, 1, none⟩ = some (.slice ABAnswerRows nBAnswerRows cBAnswerRows) ∧ w'.cell? ⟨w.heap.size + 1, 2, none⟩ = some (.int .i64 xB.fTotal) ∧ w'.cell? ⟨w.heap.size + 1, 3, none⟩ = some (.slice ABNotes nBNotes cBNotes) ∧ w'.cell? ⟨w.heap.size + 1, 4, none⟩ = some (.slice ABBoxLow nBBoxLow cBBoxLow) ∧ w'.cell? ⟨w.heap.size + 1, 5, none⟩ = some (.slice ABBoxHigh nBBoxHigh cBBoxHigh) ∧ w'.cell? ⟨w27.heap.size, 0, none⟩ = some (.slice Ax1AnswerVars nx1AnswerVars cx1AnswerVars) ∧ w'.cell? ⟨w27.heap.size, 1, none⟩ = some (.slice Ax1AnswerRows nx1AnswerRows cx1AnswerRows) ∧ w'.cell? ⟨w27.heap.size, 2, none⟩ = some (.int .i64 xB.fTotal) ∧ w'.cell? ⟨w27.heap.size, 3, none⟩ = some (.slice Ax1Notes nx1Notes cx1Notes) ∧ w'.cell? ⟨w27.heap.size, 4, none⟩ = some (.slice Ax1BoxLow nx1BoxLow cx1BoxLow) ∧ w'.cell? ⟨w27.heap.size, 5, none⟩ = some (.slice Ax1BoxHigh nx1BoxHigh cx1BoxHigh)) := fun w' hb => ⟨hb, bxB.below hb 0 _ rfl, bxB.below hb 1 _ rfl, bxB.below hb 2 _ rfl, bxB.below hb 3 _ rfl, bxB.below hb 4 _ rfl, bxB.below hb 5 _ rfl, bxx1.below hb 0 _ rfl, bxx1.below hb 1 _ rfl, bxx1.below hb 2 _ rfl, bxx1.below hb 3 _ rfl, bxx1.below hb 4 _ rfl, bxx1.below hb 5 _ rfl⟩
  have HSS42 := Lib.hid SS42; clear SS42
  have tok47 : True := trivial
  have tok51 : True := trivial
  go_region_held3 (fun w' => Below w38.heap.size w38 w' ∧ w'.cell? ⟨w.heap.size + 1, 0, none⟩ = some (.slice ABAnswerVars nBAnswerVars cBAnswerVars) ∧ w'.cell? ⟨w.heap.size + 1, 1, none⟩ = some (.slice ABAnswerRows nBAnswerRows cBAnswerRows) ∧ w'.cell? ⟨w.heap.size + 1, 2, none⟩ = some (.int .i64 xB.fTotal) ∧ w'.cell? ⟨w.heap.size + 1, 3, none⟩ = some (.slice ABNotes nBNotes cBNotes) ∧ w'.cell? ⟨w.heap.size + 1, 4, none⟩ = some (.slice ABBoxLow nBBoxLow cBBoxLow) ∧ w'.cell? ⟨w.heap.size + 1, 5, none⟩ = some (.slice ABBoxHigh nBBoxHigh cBBoxHigh) ∧ w'.cell? ⟨w27.heap.size, 0, none⟩ = some (.slice Ax1AnswerVars nx1AnswerVars cx1AnswerVars) ∧ w'.cell? ⟨w27.heap.size, 1, none⟩ = some (.slice Ax1AnswerRows nx1AnswerRows cx1AnswerRows) ∧ w'.cell? ⟨w27.heap.size, 2, none⟩ = some (.int .i64 xB.fTotal) ∧ w'.cell? ⟨w27.heap.size, 3, none⟩ = some (.slice Ax1Notes nx1Notes cx1Notes) ∧ w'.cell? ⟨w27.heap.size, 4, none⟩ = some (.slice Ax1BoxLow nx1BoxLow cx1BoxLow) ∧ w'.cell? ⟨w27.heap.size, 5, none⟩ = some (.slice Ax1BoxHigh nx1BoxHigh cx1BoxHigh)) (first | exact HSS42.out _ (Below.refl _ _).drew | exact HSS42.out _ (by assumption)) (first | (go_at_call 41; have _t := tok47; refine (toOutcome_c _ xB _ ((rOutcome_ok NB).keep sB (cells_below (hB.trans (Below.mono ((Below.refl w38.heap.size w38).drew) hB.size))))).mono ?_; rintro e w44 ⟨csv43, fv43, rfl, ov43, frv43, hb45⟩; have hC46 : Below w38.heap.size w38 w44 := Below.trans ((Below.refl w38.heap.size w38).drew) (hb45.mono ((Below.refl w38.heap.size w38).drew).size); have Rv43 := (rOutcome_ok NB).toRep ov43; clear tok47) | (go_at_call 43; have _t := tok51; refine (eqOutcome_c _ _ xB xB _ ((rOutcome_ok NB).keep Rx1 (cells_below (hC46))) Rv43).mono ?_; rintro e w48 ⟨rfl, hb49⟩; have hC50 : Below w38.heap.size w38 w48 := Below.trans (hC46) (hb49.mono (hC46).size); clear tok51))
  replace hB := hB.trans (hC50.mono hB.size)
  replace bxA := bxA.below hC50
  replace bxB := bxB.below hC50
  replace bxx0 := bxx0.below hC50
  replace bxx1 := bxx1.below hC50
  replace Rx0 := (rOutcome_ok NB).keep Rx0 (cells_below hC50)
  replace Rx1 := (rOutcome_ok NB).keep Rx1 (cells_below hC50)
  clear HSS42 hC50
  have hdx1 : decide (xB = xB) = true := by simp
  go_wp2
  go_ret
  exact ⟨rfl, hB⟩

set_option maxRecDepth 100000 in
theorem lifted (os : Os) (started : os.Started) (H : Type) (enc : TypeId × Value → H) :
    ReturnsInHanded {} Try.checked os 5 .any (Rows.fnExactEqualOutcomesSpec.pre6 enc Try.prog Try.f5 Rows.fnExactEqualOutcomesRow.domain false) (Rows.fnExactEqualOutcomesSpec.post enc Try.prog Try.f5 false true false false) := by
  refine returnsInHanded_of_change (C := Try.checked) own started (by kernel_rfl) Try.func5
    (ChangeSpec.witness6 (enc := enc) (C := Try.checked) false ⟨#[], #[.agg #[.slice none 0 0, .slice none 0 0, .int .i64 0, .slice none 0 0, .slice none 0 0, .slice none 0 0], .agg #[.slice none 0 0, .slice none 0 0, .int .i64 0, .slice none 0 0, .slice none 0 0, .slice none 0 0]], []⟩ 8 (by kernel_rfl) (by kernel_rfl) (by kernel_rfl) (by kernel_rfl)) ?_
  intro W base args ds gs before hval0 hW hcnd _
  have hval : ∀ (j : Nat) t v, Try.f5.params[j]? = some t → args[j]? = some v → Value.okWide Try.prog W .any base t v := hval0
  have hW' := hW
  obtain ⟨p, q, hA0, hV, rfl, hfz, hnd⟩ := hW
  have hA : DataW.TrodAll enc Try.prog W 0 (fun _ => true) true Try.f5.params.toList args.toList ds p := hA0
  rw [Try.params5] at hA hval
  obtain ⟨v0, vs0, d0, ds0, p0, q0, hargs, rfl, rfl, h0, r0⟩ := trodAll_cons hA
  obtain ⟨v1, vs1, d1, ds1, p1, q1, rfl, rfl, rfl, h1, r1⟩ := trodAll_cons r0
  obtain ⟨rfl, rfl, rfl⟩ := trodAll_nil r1
  obtain rfl : args = #[v0, v1] := by cases args; simp_all
  obtain ⟨rfl, rfl⟩ := trodVars_none hV
  obtain ⟨ca0, rfl, _⟩ := okWide_struct Try.underlying60 (hval 0 60 v0 rfl rfl)
  obtain ⟨cl0⟩ := ca0
  have k0 := h0
  have lt0 : ∀ x ∈ p0, x.block < W.heap.size := by obtain ⟨m, hm⟩ := k0; exact DataW.trod_lt m _ _ _ hm
  obtain ⟨x0, g0⟩ : ∃ x, (rOutcome maxLen).rep W cl0 x := by
    obtain ⟨fuel, hf⟩ := h0
    exact opensOutcome hf
  obtain ⟨ca1, rfl, _⟩ := okWide_struct Try.underlying60 (hval 1 60 v1 rfl rfl)
  obtain ⟨cl1⟩ := ca1
  have k1 := h1
  have lt1 : ∀ x ∈ p1, x.block < W.heap.size := by obtain ⟨m, hm⟩ := k1; exact DataW.trod_lt m _ _ _ hm
  obtain ⟨x1, g1⟩ : ∃ x, (rOutcome maxLen).rep W cl1 x := by
    obtain ⟨fuel, hf⟩ := h1
    exact opensOutcome hf
  clear hA0 hval0
  refine (walk cl0 x0 cl1 x1 W g0 g1).mono fun e W' ⟨he, bel⟩ => ?_
  subst he
  exact ⟨_, rfl, _, _, _, [], _, [], hW', trodAll_mk1 (shut_bool Try.underlying4 _), (trodAll_cons_mk (Below.trod laidOut (by kernel_rfl) (of_decide_eq_true (by kernel_rfl)) k0 bel lt0) (trodAll_cons_mk (Below.trod laidOut (by kernel_rfl) (of_decide_eq_true (by kernel_rfl)) k1 bel lt1) trodAll_mk0)), rfl, bel.frame _, fun h => by cases h⟩

theorem over : Rows.fnExactEqualOutcomesRow.holds Try.pinned (OpenSpec.ofChange Rows.fnExactEqualOutcomesSpec) :=
  OpenClaim.holds_of_wide 5 Try.f5 rfl rfl rfl rfl rfl rfl rfl ⟨rfl, rfl, rfl, rfl, rfl⟩ rfl rfl rfl rfl rfl (by kernel_rfl) Try.func5 (by kernel_rfl)
    (of_decide_eq_true (by kernel_rfl)) (by unfold Func.isWrapper; first | (rw [if_pos (by decide +kernel)]; kernel_rfl) | (rw [if_neg (by decide +kernel)]; exact ⟨rfl, rfl⟩))
    (fun os started H enc _ => lifted os started H enc)

theorem proved : Rows.FnExactEqualOutcomesSaid := over
#print axioms proved
end Go.Proofs.Ytobildkjikhdiaa.fnExactEqualOutcomes
