/-
  FnExactFormatBouquet
-/
import Derived.Test.YtnbikckbnbgjkaaDoorRows
import Derived.Test.YtnbikckbnbgjkaaDoorDoor
import Derived.Test.YtnbikckbnbgjkaaDoorFbq
import Derived.Test.YtnbikckbnbgjkaaDoorTo
import Derived.Test.YtnbikckbnbgjkaaDoorOpens
import Derived.Test.YtnbikckbnbgjkaaDoorEq
import Derived.WalkKit
import Derived.ProofKit
import Derived.OpenShut
import Derived.ShutString
import Derived.ChangeOld
import Derived.Below
import Derived.Deep.RegionHeld3
namespace Go.Proofs.YtnbikckbnbgjkaaDoor.fnExactFormatBouquet
open Go.ChangeShapes Go.WideShapes Go.ChangeAt Go.RowKit
open Go.ChangeMaps (open_string shut_string)
set_option linter.unusedVariables false
set_option linter.unusedSimpArgs false

theorem own : ownKnob Tryd.prog.godebug = none := by kernel_rfl
theorem laidOut : laidOutB Tryd.prog = true := by kernel_rfl
theorem lenSum_bulk {b : BouquetD} (h : ((bulkBouquet b : Nat) : Int) ≤ 1048576) : lenSum b.fContours ≤ 1048576 := by
 unfold bulkBouquet bulkS at h
 unfold lenSum
 have e : (b.fContours.map List.length).sum = (b.fContours.map (fun x => x.length)).sum := rfl
 omega

set_option maxRecDepth 100000 in
set_option maxHeartbeats 4000000 in
theorem walk (csB : List Value) (xB : BouquetD) (w : World) (rB : (rBouquet maxLen).rep w csB xB) (ht : Tab w) :
  Calls Tryd.prog 5 #[.agg csB.toArray] w fun e w' => e = .returned (.bool true) ∧ Below w.heap.size w w' := by
 have hB : Below w.heap.size w w := Below.refl _ _
 have qB := rB
 obtain ⟨ABBoxLow, nBBoxLow, cBBoxLow, ABBoxHigh, nBBoxHigh, cBBoxHigh, ABBudgets, nBBudgets, cBBudgets, ABPlans, nBPlans, cBPlans, ABContours, nBContours, cBContours, rfl, hBVersion, hBRatio, hBSlack, hBBoxLow, hBBoxHigh, hBBudgets, hBPlans, hBContours⟩ := rBouquet_rep.1 qB
 clear qB
 go_enter Tryd.func5, Tryd.ntmps5
 have hA1 := (Below.refl (World.heap (w)).size (w)).alloc (Nat.le_refl _) (.cells #[.int .i64 xB.fVersion, .int .i64 xB.fRatio, .int .i64 xB.fSlack, .slice ABBoxLow nBBoxLow cBBoxLow, .slice ABBoxHigh nBBoxHigh cBBoxHigh, .slice ABBudgets nBBudgets cBBudgets, .slice ABPlans nBPlans cBPlans, .slice ABContours nBContours cBContours] 54)
 replace hB := hB.trans (hA1.mono hB.size)
 have bxB := Bx.new (w) [.int .i64 xB.fVersion, .int .i64 xB.fRatio, .int .i64 xB.fSlack, .slice ABBoxLow nBBoxLow cBBoxLow, .slice ABBoxHigh nBBoxHigh cBBoxHigh, .slice ABBudgets nBBudgets cBBudgets, .slice ABPlans nBPlans cBPlans, .slice ABContours nBContours cBContours] 54
 clear hA1
 go_wp2_with fail
 refine (szBouquet_c _ xB _ _ ((rBouquet_ok maxLen).keep rB (cells_below hB)) (by omega) (by omega)).mono ?_
 rintro e w3 ⟨rfl, hb2⟩
 replace hB := hB.trans (hb2.mono hB.size)
 replace bxB := bxB.below hb2
 clear hb2
 by_cases hszB : ((bulkBouquet xB : Nat) : Int) ≤ 1048576
 rotate_left
 ·rw [lessBy_no hszB]
  go_wp2
  go_ret
  exact ⟨rfl, hB⟩
 rw [lessBy_yes hszB]
 have sB := smallBouquet rB (by omega)
 obtain ⟨L4, hL4⟩ : ∃ L : Int, L = 1048576 - ((bulkBouquet xB : Nat) : Int) := ⟨_, rfl⟩
 rw [← hL4]
 have pL4 : 0 ≤ L4 := by omega
 have uL4 : L4 ≤ 1048576 := by omega
 clear hL4
 have cbxB_0 := bxB 0 _ rfl
 have cbxB_1 := bxB 1 _ rfl
 have cbxB_2 := bxB 2 _ rfl
 have cbxB_3 := bxB 3 _ rfl
 have cbxB_4 := bxB 4 _ rfl
 have cbxB_5 := bxB 5 _ rfl
 have cbxB_6 := bxB 6 _ rfl
 have cbxB_7 := bxB 7 _ rfl
 go_wp2_with fail
 refine (toBouquet_c _ xB _ ((rBouquet_ok NB).keep sB (cells_below hB))).mono ?_
 rintro e w6 ⟨csv5, fv5, rfl, ov5, frv5, hb7⟩
 replace hB := hB.trans (hb7.mono hB.size)
 replace bxB := bxB.below hb7
 clear hb7 cbxB_0 cbxB_1 cbxB_2 cbxB_3 cbxB_4 cbxB_5 cbxB_6 cbxB_7
 have Rv5 := (rBouquet_ok NB).toRep ov5
 have cbxB_0 := bxB 0 _ rfl
 have cbxB_1 := bxB 1 _ rfl
 have cbxB_2 := bxB 2 _ rfl
 have cbxB_3 := bxB 3 _ rfl
 have cbxB_4 := bxB 4 _ rfl
 have cbxB_5 := bxB 5 _ rfl
 have cbxB_6 := bxB 6 _ rfl
 have cbxB_7 := bxB 7 _ rfl
 go_wp2_with fail
 refine (sFormatBouquet_c _ xB _ Rv5 (lenSum_bulk (by omega))).mono ?_
 rintro e w8 ⟨rfl, hb9⟩
 replace hB := hB.trans (hb9.mono hB.size)
 replace bxB := bxB.below hb9
 clear hb9 cbxB_0 cbxB_1 cbxB_2 cbxB_3 cbxB_4 cbxB_5 cbxB_6 cbxB_7
 have cbxB_0 := bxB 0 _ rfl
 have cbxB_1 := bxB 1 _ rfl
 have cbxB_2 := bxB 2 _ rfl
 have cbxB_3 := bxB 3 _ rfl
 have cbxB_4 := bxB 4 _ rfl
 have cbxB_5 := bxB 5 _ rfl
 have cbxB_6 := bxB 6 _ rfl
 have cbxB_7 := bxB 7 _ rfl
 go_wp2_with fail
 refine (toBouquet_c _ xB _ ((rBouquet_ok NB).keep sB (cells_below hB))).mono ?_
 rintro e w10 ⟨csx0, fx0, rfl, ox0, frx0, hb11⟩
 replace hB := hB.trans (hb11.mono hB.size)
 replace bxB := bxB.below hb11
 clear hb11 cbxB_0 cbxB_1 cbxB_2 cbxB_3 cbxB_4 cbxB_5 cbxB_6 cbxB_7
 obtain ⟨Ax0BoxLow, nx0BoxLow, cx0BoxLow, Ax0BoxHigh, nx0BoxHigh, cx0BoxHigh, Ax0Budgets, nx0Budgets, cx0Budgets, Ax0Plans, nx0Plans, cx0Plans, Ax0Contours, nx0Contours, cx0Contours, rfl, _, _, _, _, _, _, _, _⟩ := rBouquet_rep.1 ((rBouquet_ok NB).toRep ox0)
 have hA12 := (Below.refl w10.heap.size w10).alloc (Nat.le_refl _) (.cells #[.int .i64 xB.fVersion, .int .i64 xB.fRatio, .int .i64 xB.fSlack, .slice Ax0BoxLow nx0BoxLow cx0BoxLow, .slice Ax0BoxHigh nx0BoxHigh cx0BoxHigh, .slice Ax0Budgets nx0Budgets cx0Budgets, .slice Ax0Plans nx0Plans cx0Plans, .slice Ax0Contours nx0Contours cx0Contours] 59)
 replace ox0 := (rBouquet_ok NB).ownB ox0 hA12
 replace hB := hB.trans (hA12.mono hB.size)
 replace bxB := bxB.below hA12
 have bxx0 := Bx.new w10 [.int .i64 xB.fVersion, .int .i64 xB.fRatio, .int .i64 xB.fSlack, .slice Ax0BoxLow nx0BoxLow cx0BoxLow, .slice Ax0BoxHigh nx0BoxHigh cx0BoxHigh, .slice Ax0Budgets nx0Budgets cx0Budgets, .slice Ax0Plans nx0Plans cx0Plans, .slice Ax0Contours nx0Contours cx0Contours] 59
 clear hA12
 have cbxx0_0 := bxx0 0 _ rfl
 have cbxx0_1 := bxx0 1 _ rfl
 have cbxx0_2 := bxx0 2 _ rfl
 have cbxx0_3 := bxx0 3 _ rfl
 have cbxx0_4 := bxx0 4 _ rfl
 have cbxx0_5 := bxx0 5 _ rfl
 have cbxx0_6 := bxx0 6 _ rfl
 have cbxx0_7 := bxx0 7 _ rfl
 go_wp2_with fail
 refine (iFormatBouquet_c _ xB _ ((rBouquet_ok NB).toRep ox0) (ht.below hB) (lenSum_bulk (by omega))).mono ?_
 rintro e w13 ⟨rfl, hb14⟩
 replace ox0 := (rBouquet_ok NB).ownB ox0 hb14
 replace hB := hB.trans (hb14.mono hB.size)
 replace bxB := bxB.below hb14
 replace bxx0 := bxx0.below hb14
 clear hb14 cbxx0_0 cbxx0_1 cbxx0_2 cbxx0_3 cbxx0_4 cbxx0_5 cbxx0_6 cbxx0_7
 have hnei : ∀ v : Int, (v != v) = false := fun v => by simp
 have hneb : ∀ v : Bool, (v == v) = true := fun v => by simp
 have hnes : ∀ v : ByteArray, (v.toList == v.toList) = true := fun v => by simp
 go_wp2_with fail
 have SS15 : ∀ w', Below w13.heap.size w13 w' → (Below w13.heap.size w13 w' ∧ w'.cell? ⟨w.heap.size, 0, none⟩ = some (.int .i64 xB.fVersion) ∧ w'.cell? ⟨w.heap.size, 1, none⟩ = some (.int .i64 xB.fRatio) ∧ w'.cell? ⟨w.heap.size, 2, none⟩ = some (.int .i64 xB.fSlack) ∧ w'.cell? ⟨w.heap.size, 3, none⟩ = some (.slice ABBoxLow nBBoxLow cBBoxLow) ∧ w'.cell? ⟨w.heap.size, 4, none⟩ = some (.slice ABBoxHigh nBBoxHigh cBBoxHigh) ∧ w'.cell? ⟨w.heap.size, 5, none⟩ = some (.slice ABBudgets nBBudgets cBBudgets) ∧ w'.cell? ⟨w.heap.size, 6, none⟩ = some (.slice ABPlans nBPlans cBPlans) ∧ w'.cell? ⟨w.heap.size, 7, none⟩ = some (.slice ABContours nBContours cBContours) ∧ w'.cell? ⟨w10.heap.size, 0, none⟩ = some (.int .i64 xB.fVersion) ∧ w'.cell? ⟨w10.heap.size, 1, none⟩ = some (.int .i64 xB.fRatio) ∧ w'.cell? ⟨w10.heap.size, 2, none⟩ = some (.int .i64 xB.fSlack) ∧ w'.cell? ⟨w10.heap.size, 3, none⟩ = some (.slice Ax0BoxLow nx0BoxLow cx0BoxLow) ∧ w'.cell? ⟨w10.heap.size, 4, none⟩ = some (.slice Ax0BoxHigh nx0BoxHigh cx0BoxHigh) ∧ w'.cell? ⟨w10.heap.size, 5, none⟩ = some (.slice Ax0Budgets nx0Budgets cx0Budgets) ∧ w'.cell? ⟨w10.heap.size, 6, none⟩ = some (.slice Ax0Plans nx0Plans cx0Plans) ∧ w'.cell? ⟨w10.heap.size, 7, none⟩ = some (.slice Ax0Contours nx0Contours cx0Contours)) := fun w' hb => ⟨hb, bxB.below hb 0 _ rfl, bxB.below hb 1 _ rfl, bxB.below hb 2 _ rfl, bxB.below hb 3 _ rfl, bxB.below hb 4 _ rfl, bxB.below hb 5 _ rfl, bxB.below hb 6 _ rfl, bxB.below hb 7 _ rfl, bxx0.below hb 0 _ rfl, bxx0.below hb 1 _ rfl, bxx0.below hb 2 _ rfl, bxx0.below hb 3 _ rfl, bxx0.below hb 4 _ rfl, bxx0.below hb 5 _ rfl, bxx0.below hb 6 _ rfl, bxx0.below hb 7 _ rfl⟩
 have HSS15 := Lib.hid SS15; clear SS15
 have tok20 : True := trivial
 have tok24 : True := trivial
 go_region_held3 (fun w' => Below w13.heap.size w13 w' ∧ w'.cell? ⟨w.heap.size, 0, none⟩ = some (.int .i64 xB.fVersion) ∧ w'.cell? ⟨w.heap.size, 1, none⟩ = some (.int .i64 xB.fRatio) ∧ w'.cell? ⟨w.heap.size, 2, none⟩ = some (.int .i64 xB.fSlack) ∧ w'.cell? ⟨w.heap.size, 3, none⟩ = some (.slice ABBoxLow nBBoxLow cBBoxLow) ∧ w'.cell? ⟨w.heap.size, 4, none⟩ = some (.slice ABBoxHigh nBBoxHigh cBBoxHigh) ∧ w'.cell? ⟨w.heap.size, 5, none⟩ = some (.slice ABBudgets nBBudgets cBBudgets) ∧ w'.cell? ⟨w.heap.size, 6, none⟩ = some (.slice ABPlans nBPlans cBPlans) ∧ w'.cell? ⟨w.heap.size, 7, none⟩ = some (.slice ABContours nBContours cBContours) ∧ w'.cell? ⟨w10.heap.size, 0, none⟩ = some (.int .i64 xB.fVersion) ∧ w'.cell? ⟨w10.heap.size, 1, none⟩ = some (.int .i64 xB.fRatio) ∧ w'.cell? ⟨w10.heap.size, 2, none⟩ = some (.int .i64 xB.fSlack) ∧ w'.cell? ⟨w10.heap.size, 3, none⟩ = some (.slice Ax0BoxLow nx0BoxLow cx0BoxLow) ∧ w'.cell? ⟨w10.heap.size, 4, none⟩ = some (.slice Ax0BoxHigh nx0BoxHigh cx0BoxHigh) ∧ w'.cell? ⟨w10.heap.size, 5, none⟩ = some (.slice Ax0Budgets nx0Budgets cx0Budgets) ∧ w'.cell? ⟨w10.heap.size, 6, none⟩ = some (.slice Ax0Plans nx0Plans cx0Plans) ∧ w'.cell? ⟨w10.heap.size, 7, none⟩ = some (.slice Ax0Contours nx0Contours cx0Contours)) (first | exact HSS15.out _ (Below.refl _ _).drew | exact HSS15.out _ (by assumption)) (first | (go_at_call 18; have _t := tok20; refine (toBouquet_c _ xB _ ((rBouquet_ok NB).keep sB (cells_below (hB.trans (Below.mono ((Below.refl w13.heap.size w13).drew) hB.size))))).mono ?_; rintro e w17 ⟨csv16, fv16, rfl, ov16, frv16, hb18⟩; have hC19 : Below w13.heap.size w13 w17 := Below.trans ((Below.refl w13.heap.size w13).drew) (hb18.mono ((Below.refl w13.heap.size w13).drew).size); have Rv16 := (rBouquet_ok NB).toRep ov16; clear tok20) | (go_at_call 20; have _t := tok24; refine (eqBouquet_c _ _ xB xB _ ((rBouquet_ok NB).keep ((rBouquet_ok NB).toRep ox0) (cells_below (hC19))) Rv16).mono ?_; rintro e w21 ⟨rfl, hb22⟩; have hC23 : Below w13.heap.size w13 w21 := Below.trans (hC19) (hb22.mono (hC19).size); clear tok24))
 replace ox0 := (rBouquet_ok NB).ownB ox0 hC23
 replace hB := hB.trans (hC23.mono hB.size)
 replace bxB := bxB.below hC23
 replace bxx0 := bxx0.below hC23
 clear HSS15 hC23
 have hdx0 : decide (xB = xB) = true := by simp
 go_wp2
 go_ret
 exact ⟨rfl, hB⟩

set_option maxRecDepth 100000 in
theorem lifted (os : Os) (started : os.Started) (H : Type) (enc : TypeId × Value → H) :
  ReturnsInHanded {} Tryd.checked os 5 .any (fun w args => (Rows.fnExactFormatBouquetSpec.pre enc Tryd.prog Tryd.f5 Rows.fnExactFormatBouquetRow.domain false w args ∧ laidMetH Tryd.prog Rows.fnExactFormatBouquetRow.laid w) ∧ sizedMet enc Tryd.prog Tryd.f5 (OpenSpec.ofChange Rows.fnExactFormatBouquetSpec) false w args) (Rows.fnExactFormatBouquetSpec.post enc Tryd.prog Tryd.f5 false true false false) := by
 refine returnsInHanded_of_change_and (C := Tryd.checked) (X := fun w _ => laidMetH Tryd.prog Rows.fnExactFormatBouquetRow.laid w) (fun _ _ _ hh h => h.of_heap hh) own started (by kernel_rfl) Tryd.func5
  (ChangeSpec.witness_at (enc := enc) (C := Tryd.checked) (os := os) (X := fun w _ => laidMetH Tryd.prog Rows.fnExactFormatBouquetRow.laid w) false (laidWorld os) #[.agg #[.int .i64 0, .int .i64 0, .int .i64 0, .slice none 0 0, .slice none 0 0, .slice none 0 0, .slice none 0 0, .slice none 0 0]] 8 rfl (by kernel_rfl) (by kernel_rfl) (by kernel_rfl) (by kernel_rfl) (by kernel_rfl) (laid_met os _)) ?_
 intro W base args ds gs before hval0 hW hcnd _ hL _
 have hval : ∀ (j : Nat) t v, Tryd.f5.params[j]? = some t → args[j]? = some v → Value.okWide Tryd.prog W .any base t v := hval0
 have hW' := hW
 obtain ⟨p, q, hA0, hV, rfl, hfz, hnd⟩ := hW
 have hA : DataW.TrodAll enc Tryd.prog W 0 (fun _ => true) true Tryd.f5.params.toList args.toList ds p := hA0
 rw [Tryd.params5] at hA hval
 obtain ⟨v0, vs0, d0, ds0, p0, q0, hargs, rfl, rfl, h0, r0⟩ := trodAll_cons hA
 obtain ⟨rfl, rfl, rfl⟩ := trodAll_nil r0
 obtain rfl : args = #[v0] := by cases args; simp_all
 obtain ⟨rfl, rfl⟩ := trodVars_none hV
 obtain ⟨ca0, rfl, _⟩ := okWide_struct Tryd.underlying54 (hval 0 54 v0 rfl rfl)
 obtain ⟨cl0⟩ := ca0
 have k0 := h0
 have lt0 : ∀ x ∈ p0, x.block < W.heap.size := by obtain ⟨m, hm⟩ := k0; exact DataW.trod_lt m _ _ _ hm
 obtain ⟨x0, g0⟩ : ∃ x, (rBouquet maxLen).rep W cl0 x := by
  obtain ⟨fuel, hf⟩ := h0
  exact opensBouquet hf
 clear hA0 hval0
 refine (walk cl0 x0 W g0 (tab_of_laid hL)).mono fun e W' ⟨he, bel⟩ => ?_
 subst he
 exact ⟨_, rfl, _, _, _, [], _, [], hW', trodAll_mk1 (shut_bool Tryd.underlying4 _), (trodAll_cons_mk (Below.trod laidOut (by kernel_rfl) (of_decide_eq_true (by kernel_rfl)) k0 bel lt0) trodAll_mk0), rfl, bel.frame _, fun h => by cases h⟩

theorem over : Rows.fnExactFormatBouquetRow.holds Tryd.pinned (OpenSpec.ofChange Rows.fnExactFormatBouquetSpec) :=
 OpenClaim.holds_of_wide 5 Tryd.f5 rfl rfl rfl rfl rfl rfl rfl ⟨rfl, rfl, rfl, rfl, rfl⟩ rfl rfl rfl rfl rfl (by kernel_rfl) Tryd.func5 (by kernel_rfl)
  (of_decide_eq_true (by kernel_rfl)) (by unfold Func.isWrapper; first | (rw [if_pos (by decide +kernel)]; kernel_rfl) | (rw [if_neg (by decide +kernel)]; exact ⟨rfl, rfl⟩))
  (fun os started H enc _ => lifted os started H enc)

theorem proved : Rows.FnExactFormatBouquetCardSaid :=
 Claim7.holds_tied_plain_at .later [] [.data, .data, .data] true Rows.fnExactFormatBouquetCard.stood.harness Rows.fnExactFormatBouquetCard.stood.looks
  over (fun _ h => by cases h) (by kernel_rfl) (fun _ h => by cases h) fnExactFormatBouquet_row_tie rfl ⟨rfl, rfl⟩ (by kernel_rfl) rfl
  (fun f fn hf hfn => by
   obtain rfl : f = 5 := Option.some.inj ((show Tryd.prog.funcNamed "loop.example/g01921/laws.FnExactFormatBouquet" = some 5 by kernel_rfl).symm.trans hf) |>.symm
   obtain rfl : fn = Tryd.f5 := (Option.some.inj (Tryd.func5.symm.trans hfn)).symm
   exact ⟨by kernel_rfl, fun j t ht => by
    rw [Tryd.params5] at ht
    have h3 : t = 54 := by
     rcases j with _ | j
     ·simpa using ht.symm
     ·simp at ht
    subst h3
    exact (show Tryd.prog.wantsStandIn 54 = false by kernel_rfl)⟩)
  (by kernel_rfl)
#print axioms proved
end Go.Proofs.YtnbikckbnbgjkaaDoor.fnExactFormatBouquet
