/-
  For every input the law FnExactSuboptimalityFactor returns true and leaves its arguments as they were; no condition beyond the statement's own.
-/
import Derived.Test.YtobildkjikhdiaaRows
import Derived.Test.YtobildkjikhdiaaOpens
import Derived.Test.YtobildkjikhdiaaTo
import Derived.Test.YtobildkjikhdiaaEq
import Derived.Test.YtobildkjikhdiaaSub
import Derived.WalkKit
import Derived.ProofKit
import Derived.OpenShut
import Derived.ShutString
import Derived.ChangeOld
import Derived.Below
import Derived.Deep.RegionHeld3
namespace Go.Proofs.Ytobildkjikhdiaa.fnExactSuboptimalityFactor
open Go.ChangeShapes Go.WideShapes Go.ChangeAt Go.RowKit
open Go.ChangeMaps (open_string shut_string)
set_option linter.unusedVariables false
set_option linter.unusedSimpArgs false

theorem own : ownKnob Try.prog.godebug = none := by kernel_rfl
theorem laidOut : laidOutB Try.prog = true := by kernel_rfl

set_option maxRecDepth 100000 in
set_option maxHeartbeats 4000000 in
theorem walk (csB : List Value) (xB : BouquetD) (w : World) (rB : (rBouquet maxLen).rep w csB xB) :
    Calls Try.prog 11 #[.agg csB.toArray] w fun e w' => e = .returned (.bool true) ∧ Below w.heap.size w w' := by
  have hB : Below w.heap.size w w := Below.refl _ _
  have qB := rB
  obtain ⟨ABBoxLow, nBBoxLow, cBBoxLow, ABBoxHigh, nBBoxHigh, cBBoxHigh, ABBudgets, nBBudgets, cBBudgets, ABPlans, nBPlans, cBPlans, ABContours, nBContours, cBContours, rfl, hBVersion, hBRatio, hBSlack, hBBoxLow, hBBoxHigh, hBBudgets, hBPlans, hBContours⟩ := rBouquet_rep.1 qB
  clear qB
  go_enter Try.func11, Try.ntmps11
  have hA1 := (Below.refl (World.heap (w)).size (w)).alloc (Nat.le_refl _) (.cells #[.int .i64 xB.fVersion, .int .i64 xB.fRatio, .int .i64 xB.fSlack, .slice ABBoxLow nBBoxLow cBBoxLow, .slice ABBoxHigh nBBoxHigh cBBoxHigh, .slice ABBudgets nBBudgets cBBudgets, .slice ABPlans nBPlans cBPlans, .slice ABContours nBContours cBContours] 83)
  replace hB := hB.trans (hA1.mono hB.size)
  have bxB := Bx.new (w) [.int .i64 xB.fVersion, .int .i64 xB.fRatio, .int .i64 xB.fSlack, .slice ABBoxLow nBBoxLow cBBoxLow, .slice ABBoxHigh nBBoxHigh cBBoxHigh, .slice ABBudgets nBBudgets cBBudgets, .slice ABPlans nBPlans cBPlans, .slice ABContours nBContours cBContours] 83
  clear hA1
  go_wp2_with fail
  refine (szBouquet_c _ xB _ _ ((rBouquet_ok maxLen).keep rB (cells_below hB)) (by omega) (by omega)).mono ?_
  rintro e w3 ⟨rfl, hb2⟩
  replace hB := hB.trans (hb2.mono hB.size)
  replace bxB := bxB.below hb2
  clear hb2
  by_cases hszB : ((bulkBouquet xB : Nat) : Int) ≤ 1048576
  rotate_left
  · rw [lessBy_no hszB]
    go_wp2
    go_ret
    exact ⟨rfl, hB⟩
  rw [lessBy_yes hszB]
  have sB := smallBouquet rB (by omega)
  obtain ⟨L4, hL4⟩ : ∃ L : Int, L = 1048576 - ((bulkBouquet xB : Nat) : Int) := ⟨_, rfl⟩
  rw [← hL4]
  have pL4 : 0 ≤ L4 := by omega
  have uL4 : L4 ≤ 1048576 := by omega
  clear hL4
  have cbxB_0 := bxB 0 _ rfl
  have cbxB_1 := bxB 1 _ rfl
  have cbxB_2 := bxB 2 _ rfl
  have cbxB_3 := bxB 3 _ rfl
  have cbxB_4 := bxB 4 _ rfl
  have cbxB_5 := bxB 5 _ rfl
  have cbxB_6 := bxB 6 _ rfl
  have cbxB_7 := bxB 7 _ rfl
  go_wp2_with fail
  refine (toBouquet_c _ xB _ ((rBouquet_ok NB).keep sB (cells_below hB))).mono ?_
  rintro e w6 ⟨csv5, fv5, rfl, ov5, frv5, hb7⟩
  replace hB := hB.trans (hb7.mono hB.size)
  replace bxB := bxB.below hb7
  clear hb7 cbxB_0 cbxB_1 cbxB_2 cbxB_3 cbxB_4 cbxB_5 cbxB_6 cbxB_7
  have Rv5 := (rBouquet_ok NB).toRep ov5
  have cbxB_0 := bxB 0 _ rfl
  have cbxB_1 := bxB 1 _ rfl
  have cbxB_2 := bxB 2 _ rfl
  have cbxB_3 := bxB 3 _ rfl
  have cbxB_4 := bxB 4 _ rfl
  have cbxB_5 := bxB 5 _ rfl
  have cbxB_6 := bxB 6 _ rfl
  have cbxB_7 := bxB 7 _ rfl
  go_wp2_with fail
  refine (sSuboptimalityFactor_c _ xB _ Rv5).mono ?_
  rintro e w8 ⟨csw0, fw0, rfl, ow0, frw0, hb9⟩
  replace hB := hB.trans (hb9.mono hB.size)
  replace bxB := bxB.below hb9
  clear hb9 cbxB_0 cbxB_1 cbxB_2 cbxB_3 cbxB_4 cbxB_5 cbxB_6 cbxB_7
  obtain ⟨rfl, _, _⟩ := rRational_rep.1 ((rRational_ok NB).toRep ow0)
  have hA10 := (Below.refl w8.heap.size w8).alloc (Nat.le_refl _) (.cells #[.int .i64 ((subFactor xB).1).fNum, .int .i64 ((subFactor xB).1).fDen] 93)
  replace ow0 := (rRational_ok NB).ownB ow0 hA10
  replace hB := hB.trans (hA10.mono hB.size)
  replace bxB := bxB.below hA10
  have bxw0 := Bx.new w8 [.int .i64 ((subFactor xB).1).fNum, .int .i64 ((subFactor xB).1).fDen] 93
  clear hA10
  have cbxB_0 := bxB 0 _ rfl
  have cbxB_1 := bxB 1 _ rfl
  have cbxB_2 := bxB 2 _ rfl
  have cbxB_3 := bxB 3 _ rfl
  have cbxB_4 := bxB 4 _ rfl
  have cbxB_5 := bxB 5 _ rfl
  have cbxB_6 := bxB 6 _ rfl
  have cbxB_7 := bxB 7 _ rfl
  go_wp2_with fail
  refine (toBouquet_c _ xB _ ((rBouquet_ok NB).keep sB (cells_below hB))).mono ?_
  rintro e w11 ⟨csx0, fx0, rfl, ox0, frx0, hb12⟩
  replace ow0 := (rRational_ok NB).ownB ow0 hb12
  replace hB := hB.trans (hb12.mono hB.size)
  replace bxB := bxB.below hb12
  replace bxw0 := bxw0.below hb12
  clear hb12 cbxB_0 cbxB_1 cbxB_2 cbxB_3 cbxB_4 cbxB_5 cbxB_6 cbxB_7
  obtain ⟨Ax0BoxLow, nx0BoxLow, cx0BoxLow, Ax0BoxHigh, nx0BoxHigh, cx0BoxHigh, Ax0Budgets, nx0Budgets, cx0Budgets, Ax0Plans, nx0Plans, cx0Plans, Ax0Contours, nx0Contours, cx0Contours, rfl, _, _, _, _, _, _, _, _⟩ := rBouquet_rep.1 ((rBouquet_ok NB).toRep ox0)
  have hA13 := (Below.refl w11.heap.size w11).alloc (Nat.le_refl _) (.cells #[.int .i64 xB.fVersion, .int .i64 xB.fRatio, .int .i64 xB.fSlack, .slice Ax0BoxLow nx0BoxLow cx0BoxLow, .slice Ax0BoxHigh nx0BoxHigh cx0BoxHigh, .slice Ax0Budgets nx0Budgets cx0Budgets, .slice Ax0Plans nx0Plans cx0Plans, .slice Ax0Contours nx0Contours cx0Contours] 87)
  replace ow0 := (rRational_ok NB).ownB ow0 hA13
  replace ox0 := (rBouquet_ok NB).ownB ox0 hA13
  replace hB := hB.trans (hA13.mono hB.size)
  replace bxB := bxB.below hA13
  replace bxw0 := bxw0.below hA13
  have bxx0 := Bx.new w11 [.int .i64 xB.fVersion, .int .i64 xB.fRatio, .int .i64 xB.fSlack, .slice Ax0BoxLow nx0BoxLow cx0BoxLow, .slice Ax0BoxHigh nx0BoxHigh cx0BoxHigh, .slice Ax0Budgets nx0Budgets cx0Budgets, .slice Ax0Plans nx0Plans cx0Plans, .slice Ax0Contours nx0Contours cx0Contours] 87
  clear hA13
  have cbxx0_0 := bxx0 0 _ rfl
  have cbxx0_1 := bxx0 1 _ rfl
  have cbxx0_2 := bxx0 2 _ rfl
  have cbxx0_3 := bxx0 3 _ rfl
  have cbxx0_4 := bxx0 4 _ rfl
  have cbxx0_5 := bxx0 5 _ rfl
  have cbxx0_6 := bxx0 6 _ rfl
  have cbxx0_7 := bxx0 7 _ rfl
  go_wp2_with fail
  refine (iSuboptimalityFactor_c _ xB _ ((rBouquet_ok NB).toRep ox0)).mono ?_
  rintro e w14 ⟨csg0, fg0, rfl, og0, frg0, hb15⟩
  replace ow0 := (rRational_ok NB).ownB ow0 hb15
  replace ox0 := (rBouquet_ok NB).ownB ox0 hb15
  replace hB := hB.trans (hb15.mono hB.size)
  replace bxB := bxB.below hb15
  replace bxw0 := bxw0.below hb15
  replace bxx0 := bxx0.below hb15
  clear hb15 cbxx0_0 cbxx0_1 cbxx0_2 cbxx0_3 cbxx0_4 cbxx0_5 cbxx0_6 cbxx0_7
  obtain ⟨rfl, _, _⟩ := rRational_rep.1 ((rRational_ok NB).toRep og0)
  have hA16 := (Below.refl w14.heap.size w14).alloc (Nat.le_refl _) (.cells #[.int .i64 ((subFactor xB).1).fNum, .int .i64 ((subFactor xB).1).fDen] 93)
  replace ow0 := (rRational_ok NB).ownB ow0 hA16
  replace ox0 := (rBouquet_ok NB).ownB ox0 hA16
  replace og0 := (rRational_ok NB).ownB og0 hA16
  replace hB := hB.trans (hA16.mono hB.size)
  replace bxB := bxB.below hA16
  replace bxw0 := bxw0.below hA16
  replace bxx0 := bxx0.below hA16
  have bxg0 := Bx.new w14 [.int .i64 ((subFactor xB).1).fNum, .int .i64 ((subFactor xB).1).fDen] 93
  clear hA16
  have hnei : ∀ v : Int, (v != v) = false := fun v => by simp
  have hneb : ∀ v : Bool, (v == v) = true := fun v => by simp
  have cbxw0_0 := bxw0 0 _ rfl
  have cbxw0_1 := bxw0 1 _ rfl
  have cbxg0_0 := bxg0 0 _ rfl
  have cbxg0_1 := bxg0 1 _ rfl
  go_wp2_with fail
  refine (eqRational_c _ _ ((subFactor xB).1) ((subFactor xB).1) _ ((rRational_ok NB).toRep og0) ((rRational_ok NB).toRep ow0)).mono ?_
  rintro e w17 ⟨rfl, hb18⟩
  replace ow0 := (rRational_ok NB).ownB ow0 hb18
  replace ox0 := (rBouquet_ok NB).ownB ox0 hb18
  replace og0 := (rRational_ok NB).ownB og0 hb18
  replace hB := hB.trans (hb18.mono hB.size)
  replace bxB := bxB.below hb18
  replace bxw0 := bxw0.below hb18
  replace bxx0 := bxx0.below hb18
  replace bxg0 := bxg0.below hb18
  clear hb18 cbxw0_0 cbxw0_1 cbxg0_0 cbxg0_1
  have hdr19 : decide (((subFactor xB).1) = ((subFactor xB).1)) = true := by simp
  go_wp2_with fail
  have SS20 : ∀ w', Below w17.heap.size w17 w' → (Below w17.heap.size w17 w' ∧ w'.cell? ⟨w.heap.size, 0, none⟩ = some (.int .i64 xB.fVersion) ∧ w'.cell? ⟨w.heap.size, 1, none⟩ = some (.int .i64 xB.fRatio) ∧ w'.cell? ⟨w.heap.size, 2, none⟩ = some (.int .i64 xB.fSlack) ∧ w'.cell? ⟨w.heap.size, 3, none⟩ = some (.slice ABBoxLow nBBoxLow cBBoxLow) ∧ w'.cell? ⟨w.heap.size, 4, none⟩ = some (.slice ABBoxHigh nBBoxHigh cBBoxHigh) ∧ w'.cell? ⟨w.heap.size, 5, none⟩ = some (.slice ABBudgets nBBudgets cBBudgets) ∧ w'.cell? ⟨w.heap.size, 6, none⟩ = some (.slice ABPlans nBPlans cBPlans) ∧ w'.cell? ⟨w.heap.size, 7, none⟩ = some (.slice ABContours nBContours cBContours) ∧ w'.cell? ⟨w11.heap.size, 0, none⟩ = some (.int .i64 xB.fVersion) ∧ w'.cell? ⟨w11.heap.size, 1, none⟩ = some (.int .i64 xB.fRatio) ∧ w'.cell? ⟨w11.heap.size, 2, none⟩ = some (.int .i64 xB.fSlack) ∧ w'.cell? ⟨w11.heap.size, 3, none⟩ = some (.slice Ax0BoxLow nx0BoxLow cx0BoxLow) ∧ w'.cell? ⟨w11.heap.size, 4, none⟩ = some (.slice Ax0BoxHigh nx0BoxHigh cx0BoxHigh) ∧ w'.cell? ⟨w11.heap.size, 5, none⟩ = some (.slice Ax0Budgets nx0Budgets cx0Budgets) ∧ w'.cell? ⟨w11.heap.size, 6, none⟩ = some (.slice Ax0Plans nx0Plans cx0Plans) ∧ w'.cell? ⟨w11.heap.size, 7, none⟩ = some (.slice Ax0Contours nx0Contours cx0Contours)) := fun w' hb => ⟨hb, bxB.below hb 0 _ rfl, bxB.below hb 1 _ rfl, bxB.below hb 2 _ rfl, bxB.below hb 3 _ rfl, bxB.below hb 4 _ rfl, bxB.below hb 5 _ rfl, bxB.below hb 6 _ rfl, bxB.below hb 7 _ rfl, bxx0.below hb 0 _ rfl, bxx0.below hb 1 _ rfl, bxx0.below hb 2 _ rfl, bxx0.below hb 3 _ rfl, bxx0.below hb 4 _ rfl, bxx0.below hb 5 _ rfl, bxx0.below hb 6 _ rfl, bxx0.below hb 7 _ rfl⟩
  have HSS20 := Lib.hid SS20; clear SS20
  have tok25 : True := trivial
  have tok29 : True := trivial
  go_region_held3 (fun w' => Below w17.heap.size w17 w' ∧ w'.cell? ⟨w.heap.size, 0, none⟩ = some (.int .i64 xB.fVersion) ∧ w'.cell? ⟨w.heap.size, 1, none⟩ = some (.int .i64 xB.fRatio) ∧ w'.cell? ⟨w.heap.size, 2, none⟩ = some (.int .i64 xB.fSlack) ∧ w'.cell? ⟨w.heap.size, 3, none⟩ = some (.slice ABBoxLow nBBoxLow cBBoxLow) ∧ w'.cell? ⟨w.heap.size, 4, none⟩ = some (.slice ABBoxHigh nBBoxHigh cBBoxHigh) ∧ w'.cell? ⟨w.heap.size, 5, none⟩ = some (.slice ABBudgets nBBudgets cBBudgets) ∧ w'.cell? ⟨w.heap.size, 6, none⟩ = some (.slice ABPlans nBPlans cBPlans) ∧ w'.cell? ⟨w.heap.size, 7, none⟩ = some (.slice ABContours nBContours cBContours) ∧ w'.cell? ⟨w11.heap.size, 0, none⟩ = some (.int .i64 xB.fVersion) ∧ w'.cell? ⟨w11.heap.size, 1, none⟩ = some (.int .i64 xB.fRatio) ∧ w'.cell? ⟨w11.heap.size, 2, none⟩ = some (.int .i64 xB.fSlack) ∧ w'.cell? ⟨w11.heap.size, 3, none⟩ = some (.slice Ax0BoxLow nx0BoxLow cx0BoxLow) ∧ w'.cell? ⟨w11.heap.size, 4, none⟩ = some (.slice Ax0BoxHigh nx0BoxHigh cx0BoxHigh) ∧ w'.cell? ⟨w11.heap.size, 5, none⟩ = some (.slice Ax0Budgets nx0Budgets cx0Budgets) ∧ w'.cell? ⟨w11.heap.size, 6, none⟩ = some (.slice Ax0Plans nx0Plans cx0Plans) ∧ w'.cell? ⟨w11.heap.size, 7, none⟩ = some (.slice Ax0Contours nx0Contours cx0Contours)) (first | exact HSS20.out _ (Below.refl _ _).drew | exact HSS20.out _ (by assumption)) (first | (go_at_call 55; have _t := tok25; refine (toBouquet_c _ xB _ ((rBouquet_ok NB).keep sB (cells_below (hB.trans (Below.mono ((Below.refl w17.heap.size w17).drew) hB.size))))).mono ?_; rintro e w22 ⟨csv21, fv21, rfl, ov21, frv21, hb23⟩; have hC24 : Below w17.heap.size w17 w22 := Below.trans ((Below.refl w17.heap.size w17).drew) (hb23.mono ((Below.refl w17.heap.size w17).drew).size); have Rv21 := (rBouquet_ok NB).toRep ov21; clear tok25) | (go_at_call 57; have _t := tok29; refine (eqBouquet_c _ _ xB xB _ ((rBouquet_ok NB).keep ((rBouquet_ok NB).toRep ox0) (cells_below (hC24))) Rv21).mono ?_; rintro e w26 ⟨rfl, hb27⟩; have hC28 : Below w17.heap.size w17 w26 := Below.trans (hC24) (hb27.mono (hC24).size); clear tok29))
  replace ow0 := (rRational_ok NB).ownB ow0 hC28
  replace ox0 := (rBouquet_ok NB).ownB ox0 hC28
  replace og0 := (rRational_ok NB).ownB og0 hC28
  replace hB := hB.trans (hC28.mono hB.size)
  replace bxB := bxB.below hC28
  replace bxw0 := bxw0.below hC28
  replace bxx0 := bxx0.below hC28
  replace bxg0 := bxg0.below hC28
  clear HSS20 hC28
  have hdx0 : decide (xB = xB) = true := by simp
  go_wp2
  go_ret
  exact ⟨rfl, hB⟩

set_option maxRecDepth 100000 in
theorem lifted (os : Os) (started : os.Started) (H : Type) (enc : TypeId × Value → H) :
    ReturnsInHanded {} Try.checked os 11 .any (Rows.fnExactSuboptimalityFactorSpec.pre6 enc Try.prog Try.f11 Rows.fnExactSuboptimalityFactorRow.domain false) (Rows.fnExactSuboptimalityFactorSpec.post enc Try.prog Try.f11 false true false false) := by
  refine returnsInHanded_of_change (C := Try.checked) own started (by kernel_rfl) Try.func11
    (ChangeSpec.witness6 (enc := enc) (C := Try.checked) false ⟨#[], #[.agg #[.int .i64 0, .int .i64 0, .int .i64 0, .slice none 0 0, .slice none 0 0, .slice none 0 0, .slice none 0 0, .slice none 0 0]], []⟩ 8 (by kernel_rfl) (by kernel_rfl) (by kernel_rfl) (by kernel_rfl)) ?_
  intro W base args ds gs before hval0 hW hcnd _
  have hval : ∀ (j : Nat) t v, Try.f11.params[j]? = some t → args[j]? = some v → Value.okWide Try.prog W .any base t v := hval0
  have hW' := hW
  obtain ⟨p, q, hA0, hV, rfl, hfz, hnd⟩ := hW
  have hA : DataW.TrodAll enc Try.prog W 0 (fun _ => true) true Try.f11.params.toList args.toList ds p := hA0
  rw [Try.params11] at hA hval
  obtain ⟨v0, vs0, d0, ds0, p0, q0, hargs, rfl, rfl, h0, r0⟩ := trodAll_cons hA
  obtain ⟨rfl, rfl, rfl⟩ := trodAll_nil r0
  obtain rfl : args = #[v0] := by cases args; simp_all
  obtain ⟨rfl, rfl⟩ := trodVars_none hV
  obtain ⟨ca0, rfl, _⟩ := okWide_struct Try.underlying83 (hval 0 83 v0 rfl rfl)
  obtain ⟨cl0⟩ := ca0
  have k0 := h0
  have lt0 : ∀ x ∈ p0, x.block < W.heap.size := by obtain ⟨m, hm⟩ := k0; exact DataW.trod_lt m _ _ _ hm
  obtain ⟨x0, g0⟩ : ∃ x, (rBouquet maxLen).rep W cl0 x := by
    obtain ⟨fuel, hf⟩ := h0
    exact opensBouquet hf
  clear hA0 hval0
  refine (walk cl0 x0 W g0).mono fun e W' ⟨he, bel⟩ => ?_
  subst he
  exact ⟨_, rfl, _, _, _, [], _, [], hW', trodAll_mk1 (shut_bool Try.underlying4 _), (trodAll_cons_mk (Below.trod laidOut (by kernel_rfl) (of_decide_eq_true (by kernel_rfl)) k0 bel lt0) trodAll_mk0), rfl, bel.frame _, fun h => by cases h⟩

theorem over : Rows.fnExactSuboptimalityFactorRow.holds Try.pinned (OpenSpec.ofChange Rows.fnExactSuboptimalityFactorSpec) :=
  OpenClaim.holds_of_wide 11 Try.f11 rfl rfl rfl rfl rfl rfl rfl ⟨rfl, rfl, rfl, rfl, rfl⟩ rfl rfl rfl rfl rfl (by kernel_rfl) Try.func11 (by kernel_rfl)
    (of_decide_eq_true (by kernel_rfl)) (by unfold Func.isWrapper; first | (rw [if_pos (by decide +kernel)]; kernel_rfl) | (rw [if_neg (by decide +kernel)]; exact ⟨rfl, rfl⟩))
    (fun os started H enc _ => lifted os started H enc)

theorem proved : Rows.FnExactSuboptimalityFactorSaid := over
#print axioms proved
end Go.Proofs.Ytobildkjikhdiaa.fnExactSuboptimalityFactor
