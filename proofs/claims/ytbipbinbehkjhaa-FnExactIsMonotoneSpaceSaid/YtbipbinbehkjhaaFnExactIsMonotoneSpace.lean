/-
  For every input the law FnExactIsMonotoneSpace returns true and leaves its arguments as they were; no condition beyond the statement's own.
-/
import Derived.Test.YtbipbinbehkjhaaRows
import Derived.Test.YtbipbinbehkjhaaOpens
import Derived.Test.YtbipbinbehkjhaaTo
import Derived.Test.YtbipbinbehkjhaaEq
import Derived.Test.YtbipbinbehkjhaaMono2
import Derived.Test.YtbipbinbehkjhaaMarkC
import Derived.WalkKit
import Derived.ProofKit
import Derived.OpenShut
import Derived.ShutString
import Derived.ChangeOld
import Derived.Below
import Derived.Deep.RegionHeld3
namespace Go.Proofs.Ytbipbinbehkjhaa.fnExactIsMonotoneSpace
open Go.ChangeShapes Go.WideShapes Go.ChangeAt Go.RowKit
open Go.ChangeMaps (open_string shut_string)
set_option linter.unusedVariables false
set_option linter.unusedSimpArgs false

theorem own : ownKnob Try.prog.godebug = none := by kernel_rfl
theorem laidOut : laidOutB Try.prog = true := by kernel_rfl

set_option maxRecDepth 100000 in
set_option maxHeartbeats 4000000 in
theorem walk (csS : List Value) (xS : SpaceD) (w : World) (rS : (rSpace maxLen).rep w csS xS) :
    Calls Try.prog 7 #[.agg csS.toArray] w fun e w' => e = .returned (.bool true) ∧ Below w.heap.size w w' := by
  have hB : Below w.heap.size w w := Below.refl _ _
  have qS := rS
  obtain ⟨ASBoxLow, nSBoxLow, cSBoxLow, ASBoxHigh, nSBoxHigh, cSBoxHigh, ASCosts, nSCosts, cSCosts, ASChoices, nSChoices, cSChoices, ASPlans, nSPlans, cSPlans, rfl, hSBoxLow, hSBoxHigh, hSCosts, hSChoices, hSPlans⟩ := rSpace_rep.1 qS
  clear qS
  go_enter Try.func7, Try.ntmps7
  have hA1 := (Below.refl (World.heap (w)).size (w)).alloc (Nat.le_refl _) (.cells #[.slice ASBoxLow nSBoxLow cSBoxLow, .slice ASBoxHigh nSBoxHigh cSBoxHigh, .slice ASCosts nSCosts cSCosts, .slice ASChoices nSChoices cSChoices, .slice ASPlans nSPlans cSPlans] 76)
  replace hB := hB.trans (hA1.mono hB.size)
  have bxS := Bx.new (w) [.slice ASBoxLow nSBoxLow cSBoxLow, .slice ASBoxHigh nSBoxHigh cSBoxHigh, .slice ASCosts nSCosts cSCosts, .slice ASChoices nSChoices cSChoices, .slice ASPlans nSPlans cSPlans] 76
  clear hA1
  go_wp2_with fail
  refine (szSpace_c _ xS _ _ ((rSpace_ok maxLen).keep rS (cells_below hB)) (by omega) (by omega)).mono ?_
  rintro e w3 ⟨rfl, hb2⟩
  replace hB := hB.trans (hb2.mono hB.size)
  replace bxS := bxS.below hb2
  clear hb2
  by_cases hszS : ((bulkSpace xS : Nat) : Int) ≤ 1048576
  rotate_left
  · rw [lessBy_no hszS]
    go_wp2
    go_ret
    exact ⟨rfl, hB⟩
  rw [lessBy_yes hszS]
  have sS := smallSpace rS (by omega)
  obtain ⟨L4, hL4⟩ : ∃ L : Int, L = 1048576 - ((bulkSpace xS : Nat) : Int) := ⟨_, rfl⟩
  rw [← hL4]
  have pL4 : 0 ≤ L4 := by omega
  have uL4 : L4 ≤ 1048576 := by omega
  clear hL4
  have cbxS_0 := bxS 0 _ rfl
  have cbxS_1 := bxS 1 _ rfl
  have cbxS_2 := bxS 2 _ rfl
  have cbxS_3 := bxS 3 _ rfl
  have cbxS_4 := bxS 4 _ rfl
  go_wp2_with fail
  refine (toSpace_c _ xS _ ((rSpace_ok NB).keep sS (cells_below hB))).mono ?_
  rintro e w6 ⟨csv5, fv5, rfl, ov5, frv5, hb7⟩
  replace hB := hB.trans (hb7.mono hB.size)
  replace bxS := bxS.below hb7
  clear hb7 cbxS_0 cbxS_1 cbxS_2 cbxS_3 cbxS_4
  have Rv5 := (rSpace_ok NB).toRep ov5
  have cbxS_0 := bxS 0 _ rfl
  have cbxS_1 := bxS 1 _ rfl
  have cbxS_2 := bxS 2 _ rfl
  have cbxS_3 := bxS 3 _ rfl
  have cbxS_4 := bxS 4 _ rfl
  go_wp2_with fail
  refine (sIsMonotoneSpace_c _ xS _ Rv5).mono ?_
  rintro e w8 ⟨rfl, hb9⟩
  replace hB := hB.trans (hb9.mono hB.size)
  replace bxS := bxS.below hb9
  clear hb9 cbxS_0 cbxS_1 cbxS_2 cbxS_3 cbxS_4
  have cbxS_0 := bxS 0 _ rfl
  have cbxS_1 := bxS 1 _ rfl
  have cbxS_2 := bxS 2 _ rfl
  have cbxS_3 := bxS 3 _ rfl
  have cbxS_4 := bxS 4 _ rfl
  go_wp2_with fail
  refine (toSpace_c _ xS _ ((rSpace_ok NB).keep sS (cells_below hB))).mono ?_
  rintro e w10 ⟨csx0, fx0, rfl, ox0, frx0, hb11⟩
  replace hB := hB.trans (hb11.mono hB.size)
  replace bxS := bxS.below hb11
  clear hb11 cbxS_0 cbxS_1 cbxS_2 cbxS_3 cbxS_4
  obtain ⟨Ax0BoxLow, nx0BoxLow, cx0BoxLow, Ax0BoxHigh, nx0BoxHigh, cx0BoxHigh, Ax0Costs, nx0Costs, cx0Costs, Ax0Choices, nx0Choices, cx0Choices, Ax0Plans, nx0Plans, cx0Plans, rfl, _, _, _, _, _⟩ := rSpace_rep.1 ((rSpace_ok NB).toRep ox0)
  have hA12 := (Below.refl w10.heap.size w10).alloc (Nat.le_refl _) (.cells #[.slice Ax0BoxLow nx0BoxLow cx0BoxLow, .slice Ax0BoxHigh nx0BoxHigh cx0BoxHigh, .slice Ax0Costs nx0Costs cx0Costs, .slice Ax0Choices nx0Choices cx0Choices, .slice Ax0Plans nx0Plans cx0Plans] 81)
  replace ox0 := (rSpace_ok NB).ownB ox0 hA12
  replace hB := hB.trans (hA12.mono hB.size)
  replace bxS := bxS.below hA12
  have bxx0 := Bx.new w10 [.slice Ax0BoxLow nx0BoxLow cx0BoxLow, .slice Ax0BoxHigh nx0BoxHigh cx0BoxHigh, .slice Ax0Costs nx0Costs cx0Costs, .slice Ax0Choices nx0Choices cx0Choices, .slice Ax0Plans nx0Plans cx0Plans] 81
  clear hA12
  have cbxx0_0 := bxx0 0 _ rfl
  have cbxx0_1 := bxx0 1 _ rfl
  have cbxx0_2 := bxx0 2 _ rfl
  have cbxx0_3 := bxx0 3 _ rfl
  have cbxx0_4 := bxx0 4 _ rfl
  go_wp2_with fail
  refine (iIsMonotoneSpace_c _ xS _ ((rSpace_ok NB).toRep ox0)).mono ?_
  rintro e w13 ⟨rfl, hb14⟩
  replace ox0 := (rSpace_ok NB).ownB ox0 hb14
  replace hB := hB.trans (hb14.mono hB.size)
  replace bxS := bxS.below hb14
  replace bxx0 := bxx0.below hb14
  clear hb14 cbxx0_0 cbxx0_1 cbxx0_2 cbxx0_3 cbxx0_4
  have hnei : ∀ v : Int, (v != v) = false := fun v => by simp
  have hneb : ∀ v : Bool, (v == v) = true := fun v => by simp
  go_wp2_with fail
  have SS15 : ∀ w', Below w13.heap.size w13 w' → (Below w13.heap.size w13 w' ∧ w'.cell? ⟨w.heap.size, 0, none⟩ = some (.slice ASBoxLow nSBoxLow cSBoxLow) ∧ w'.cell? ⟨w.heap.size, 1, none⟩ = some (.slice ASBoxHigh nSBoxHigh cSBoxHigh) ∧ w'.cell? ⟨w.heap.size, 2, none⟩ = some (.slice ASCosts nSCosts cSCosts) ∧ w'.cell? ⟨w.heap.size, 3, none⟩ = some (.slice ASChoices nSChoices cSChoices) ∧ w'.cell? ⟨w.heap.size, 4, none⟩ = some (.slice ASPlans nSPlans cSPlans) ∧ w'.cell? ⟨w10.heap.size, 0, none⟩ = some (.slice Ax0BoxLow nx0BoxLow cx0BoxLow) ∧ w'.cell? ⟨w10.heap.size, 1, none⟩ = some (.slice Ax0BoxHigh nx0BoxHigh cx0BoxHigh) ∧ w'.cell? ⟨w10.heap.size, 2, none⟩ = some (.slice Ax0Costs nx0Costs cx0Costs) ∧ w'.cell? ⟨w10.heap.size, 3, none⟩ = some (.slice Ax0Choices nx0Choices cx0Choices) ∧ w'.cell? ⟨w10.heap.size, 4, none⟩ = some (.slice Ax0Plans nx0Plans cx0Plans)) := fun w' hb => ⟨hb, bxS.below hb 0 _ rfl, bxS.below hb 1 _ rfl, bxS.below hb 2 _ rfl, bxS.below hb 3 _ rfl, bxS.below hb 4 _ rfl, bxx0.below hb 0 _ rfl, bxx0.below hb 1 _ rfl, bxx0.below hb 2 _ rfl, bxx0.below hb 3 _ rfl, bxx0.below hb 4 _ rfl⟩
  have HSS15 := Lib.hid SS15; clear SS15
  have tok20 : True := trivial
  have tok24 : True := trivial
  go_region_held3 (fun w' => Below w13.heap.size w13 w' ∧ w'.cell? ⟨w.heap.size, 0, none⟩ = some (.slice ASBoxLow nSBoxLow cSBoxLow) ∧ w'.cell? ⟨w.heap.size, 1, none⟩ = some (.slice ASBoxHigh nSBoxHigh cSBoxHigh) ∧ w'.cell? ⟨w.heap.size, 2, none⟩ = some (.slice ASCosts nSCosts cSCosts) ∧ w'.cell? ⟨w.heap.size, 3, none⟩ = some (.slice ASChoices nSChoices cSChoices) ∧ w'.cell? ⟨w.heap.size, 4, none⟩ = some (.slice ASPlans nSPlans cSPlans) ∧ w'.cell? ⟨w10.heap.size, 0, none⟩ = some (.slice Ax0BoxLow nx0BoxLow cx0BoxLow) ∧ w'.cell? ⟨w10.heap.size, 1, none⟩ = some (.slice Ax0BoxHigh nx0BoxHigh cx0BoxHigh) ∧ w'.cell? ⟨w10.heap.size, 2, none⟩ = some (.slice Ax0Costs nx0Costs cx0Costs) ∧ w'.cell? ⟨w10.heap.size, 3, none⟩ = some (.slice Ax0Choices nx0Choices cx0Choices) ∧ w'.cell? ⟨w10.heap.size, 4, none⟩ = some (.slice Ax0Plans nx0Plans cx0Plans)) (first | exact HSS15.out _ (Below.refl _ _).drew | exact HSS15.out _ (by assumption)) (first | (go_at_call 47; have _t := tok20; refine (toSpace_c _ xS _ ((rSpace_ok NB).keep sS (cells_below (hB.trans (Below.mono ((Below.refl w13.heap.size w13).drew) hB.size))))).mono ?_; rintro e w17 ⟨csv16, fv16, rfl, ov16, frv16, hb18⟩; have hC19 : Below w13.heap.size w13 w17 := Below.trans ((Below.refl w13.heap.size w13).drew) (hb18.mono ((Below.refl w13.heap.size w13).drew).size); have Rv16 := (rSpace_ok NB).toRep ov16; clear tok20) | (go_at_call 49; have _t := tok24; refine (eqSpace_c _ _ xS xS _ ((rSpace_ok NB).keep ((rSpace_ok NB).toRep ox0) (cells_below (hC19))) Rv16).mono ?_; rintro e w21 ⟨rfl, hb22⟩; have hC23 : Below w13.heap.size w13 w21 := Below.trans (hC19) (hb22.mono (hC19).size); clear tok24))
  replace ox0 := (rSpace_ok NB).ownB ox0 hC23
  replace hB := hB.trans (hC23.mono hB.size)
  replace bxS := bxS.below hC23
  replace bxx0 := bxx0.below hC23
  clear HSS15 hC23
  have hdx0 : decide (xS = xS) = true := by simp
  go_wp2
  go_ret
  exact ⟨rfl, hB⟩

set_option maxRecDepth 100000 in
theorem lifted (os : Os) (started : os.Started) (H : Type) (enc : TypeId × Value → H) :
    ReturnsInHanded {} Try.checked os 7 .any (Rows.fnExactIsMonotoneSpaceSpec.pre6 enc Try.prog Try.f7 Rows.fnExactIsMonotoneSpaceRow.domain false) (Rows.fnExactIsMonotoneSpaceSpec.post enc Try.prog Try.f7 false true false false) := by
  refine returnsInHanded_of_change (C := Try.checked) own started (by kernel_rfl) Try.func7
    (ChangeSpec.witness6 (enc := enc) (C := Try.checked) false ⟨#[], #[.agg #[.slice none 0 0, .slice none 0 0, .slice none 0 0, .slice none 0 0, .slice none 0 0]], []⟩ 8 (by kernel_rfl) (by kernel_rfl) (by kernel_rfl) (by kernel_rfl)) ?_
  intro W base args ds gs before hval0 hW hcnd _
  have hval : ∀ (j : Nat) t v, Try.f7.params[j]? = some t → args[j]? = some v → Value.okWide Try.prog W .any base t v := hval0
  have hW' := hW
  obtain ⟨p, q, hA0, hV, rfl, hfz, hnd⟩ := hW
  have hA : DataW.TrodAll enc Try.prog W 0 (fun _ => true) true Try.f7.params.toList args.toList ds p := hA0
  rw [Try.params7] at hA hval
  obtain ⟨v0, vs0, d0, ds0, p0, q0, hargs, rfl, rfl, h0, r0⟩ := trodAll_cons hA
  obtain ⟨rfl, rfl, rfl⟩ := trodAll_nil r0
  obtain rfl : args = #[v0] := by cases args; simp_all
  obtain ⟨rfl, rfl⟩ := trodVars_none hV
  obtain ⟨ca0, rfl, _⟩ := okWide_struct Try.underlying76 (hval 0 76 v0 rfl rfl)
  obtain ⟨cl0⟩ := ca0
  have k0 := h0
  have lt0 : ∀ x ∈ p0, x.block < W.heap.size := by obtain ⟨m, hm⟩ := k0; exact DataW.trod_lt m _ _ _ hm
  obtain ⟨x0, g0⟩ : ∃ x, (rSpace maxLen).rep W cl0 x := by
    obtain ⟨fuel, hf⟩ := h0
    exact opensSpace hf
  clear hA0 hval0
  refine (walk cl0 x0 W g0).mono fun e W' ⟨he, bel⟩ => ?_
  subst he
  exact ⟨_, rfl, _, _, _, [], _, [], hW', trodAll_mk1 (shut_bool Try.underlying4 _), (trodAll_cons_mk (Below.trod laidOut (by kernel_rfl) (of_decide_eq_true (by kernel_rfl)) k0 bel lt0) trodAll_mk0), rfl, bel.frame _, fun h => by cases h⟩

theorem over : Rows.fnExactIsMonotoneSpaceRow.holds Try.pinned (OpenSpec.ofChange Rows.fnExactIsMonotoneSpaceSpec) :=
  OpenClaim.holds_of_wide 7 Try.f7 rfl rfl rfl rfl rfl rfl rfl ⟨rfl, rfl, rfl, rfl, rfl⟩ rfl rfl rfl rfl rfl (by kernel_rfl) Try.func7 (by kernel_rfl)
    (of_decide_eq_true (by kernel_rfl)) (by unfold Func.isWrapper; first | (rw [if_pos (by decide +kernel)]; kernel_rfl) | (rw [if_neg (by decide +kernel)]; exact ⟨rfl, rfl⟩))
    (fun os started H enc _ => lifted os started H enc)

theorem proved : Rows.FnExactIsMonotoneSpaceSaid := over
#print axioms proved
end Go.Proofs.Ytbipbinbehkjhaa.fnExactIsMonotoneSpace
