/-
  For every input the law FnExactSpaceCost returns true and leaves its arguments as they were; no condition beyond the statement's own.
-/
import Derived.Test.YtobildkjikhdiaaRows
import Derived.Test.YtobildkjikhdiaaOpens
import Derived.Test.YtobildkjikhdiaaTo
import Derived.Test.YtobildkjikhdiaaEq
import Derived.Test.YtobildkjikhdiaaSpc
import Derived.WalkKit
import Derived.ProofKit
import Derived.OpenShut
import Derived.ShutString
import Derived.ChangeOld
import Derived.Below
import Derived.Deep.RegionHeld3
namespace Go.Proofs.Ytobildkjikhdiaa.fnExactSpaceCost
open Go.ChangeShapes Go.WideShapes Go.ChangeAt Go.RowKit
open Go.ChangeMaps (open_string shut_string)
set_option linter.unusedVariables false
set_option linter.unusedSimpArgs false

theorem own : ownKnob Try.prog.godebug = none := by kernel_rfl
theorem laidOut : laidOutB Try.prog = true := by kernel_rfl

set_option maxRecDepth 100000 in
set_option maxHeartbeats 4000000 in
theorem walk (csS : List Value) (xS : SpaceD) (ALocation : Option Addr) (nLocation kLocation : Nat) (lLocation : List Int) (w : World) (rS : (rSpace maxLen).rep w csS xS) (rLocation : RS maxLen rInt w ALocation nLocation kLocation lLocation) :
    Calls Try.prog 12 #[.agg csS.toArray, .slice ALocation nLocation kLocation] w fun e w' => e = .returned (.bool true) ∧ Below w.heap.size w w' := by
  have hB : Below w.heap.size w w := Below.refl _ _
  have qS := rS
  obtain ⟨ASBoxLow, nSBoxLow, cSBoxLow, ASBoxHigh, nSBoxHigh, cSBoxHigh, ASCosts, nSCosts, cSCosts, ASChoices, nSChoices, cSChoices, ASPlans, nSPlans, cSPlans, rfl, hSBoxLow, hSBoxHigh, hSCosts, hSChoices, hSPlans⟩ := rSpace_rep.1 qS
  clear qS
  by_cases hsz : nLocation ≤ 1048576
  rotate_left
  · have hnLocation : nLocation ≤ 9223372036854775807 := rLocation.nb
    go_enter Try.func12, Try.ntmps12
    go_wp2
    go_ret
    exact ⟨rfl, (by repeat' (first | with_reducible exact hB | with_reducible refine Below.setCell ?_ ?_ _ | with_reducible refine Below.alloc ?_ ?_ _ | (simp; done) | (simp; omega) | omega))⟩
  have sLocation := smallIntS rLocation (by have := rLocation.len; omega)
  go_enter Try.func12, Try.ntmps12
  have hA1 := (Below.refl (World.heap (w)).size (w)).alloc (Nat.le_refl _) (.cells #[.slice ASBoxLow nSBoxLow cSBoxLow, .slice ASBoxHigh nSBoxHigh cSBoxHigh, .slice ASCosts nSCosts cSCosts, .slice ASChoices nSChoices cSChoices, .slice ASPlans nSPlans cSPlans] 71)
  replace hB := hB.trans (hA1.mono hB.size)
  have bxS := Bx.new (w) [.slice ASBoxLow nSBoxLow cSBoxLow, .slice ASBoxHigh nSBoxHigh cSBoxHigh, .slice ASCosts nSCosts cSCosts, .slice ASChoices nSChoices cSChoices, .slice ASPlans nSPlans cSPlans] 71
  clear hA1
  go_wp2_with fail
  refine (szSpace_c _ xS _ _ ((rSpace_ok maxLen).keep rS (cells_below hB)) (by omega) (by omega)).mono ?_
  rintro e w3 ⟨rfl, hb2⟩
  replace hB := hB.trans (hb2.mono hB.size)
  replace bxS := bxS.below hb2
  clear hb2
  by_cases hszS : ((bulkSpace xS : Nat) : Int) ≤ 1048576
  rotate_left
  · rw [lessBy_no hszS]
    go_wp2
    go_ret
    exact ⟨rfl, hB⟩
  rw [lessBy_yes hszS]
  have sS := smallSpace rS (by omega)
  obtain ⟨L4, hL4⟩ : ∃ L : Int, L = 1048576 - ((bulkSpace xS : Nat) : Int) := ⟨_, rfl⟩
  rw [← hL4]
  have pL4 : 0 ≤ L4 := by omega
  have uL4 : L4 ≤ 1048576 := by omega
  clear hL4
  have cbxS_0 := bxS 0 _ rfl
  have cbxS_1 := bxS 1 _ rfl
  have cbxS_2 := bxS 2 _ rfl
  have cbxS_3 := bxS 3 _ rfl
  have cbxS_4 := bxS 4 _ rfl
  go_wp2_with fail
  refine (toSpace_c _ xS _ ((rSpace_ok NB).keep sS (cells_below hB))).mono ?_
  rintro e w6 ⟨csv5, fv5, rfl, ov5, frv5, hb7⟩
  replace hB := hB.trans (hb7.mono hB.size)
  replace bxS := bxS.below hb7
  clear hb7
  have Rv5 := (rSpace_ok NB).toRep ov5
  go_wp2_with fail
  refine (toIntS_c _ _ _ _ _ (sLocation.below rInt_ok hB)).mono ?_
  rintro e w9 ⟨Av8, nv8, cv8, rfl, Mv8, hb10⟩
  replace hB := hB.trans (hb10.mono hB.size)
  replace bxS := bxS.below hb10
  replace Rv5 := (rSpace_ok NB).keep Rv5 (cells_below hb10)
  clear hb10
  have Rv8 := Mv8.rs rInt_ok
  go_wp2_with fail
  refine (sSpaceCost_c _ xS _ _ _ _ _ Rv5 Rv8).mono ?_
  rintro e w11 ⟨rfl, hb12⟩
  replace hB := hB.trans (hb12.mono hB.size)
  replace bxS := bxS.below hb12
  replace Rv5 := (rSpace_ok NB).keep Rv5 (cells_below hb12)
  replace Rv8 := Rv8.below rInt_ok hb12
  clear hb12 cbxS_0 cbxS_1 cbxS_2 cbxS_3 cbxS_4
  have cbxS_0 := bxS 0 _ rfl
  have cbxS_1 := bxS 1 _ rfl
  have cbxS_2 := bxS 2 _ rfl
  have cbxS_3 := bxS 3 _ rfl
  have cbxS_4 := bxS 4 _ rfl
  go_wp2_with fail
  refine (toSpace_c _ xS _ ((rSpace_ok NB).keep sS (cells_below hB))).mono ?_
  rintro e w13 ⟨csx0, fx0, rfl, ox0, frx0, hb14⟩
  replace hB := hB.trans (hb14.mono hB.size)
  replace bxS := bxS.below hb14
  replace Rv5 := (rSpace_ok NB).keep Rv5 (cells_below hb14)
  replace Rv8 := Rv8.below rInt_ok hb14
  clear hb14 cbxS_0 cbxS_1 cbxS_2 cbxS_3 cbxS_4
  have Rx0 := (rSpace_ok NB).toRep ox0
  obtain ⟨Ax0BoxLow, nx0BoxLow, cx0BoxLow, Ax0BoxHigh, nx0BoxHigh, cx0BoxHigh, Ax0Costs, nx0Costs, cx0Costs, Ax0Choices, nx0Choices, cx0Choices, Ax0Plans, nx0Plans, cx0Plans, rfl, _, _, _, _, _⟩ := rSpace_rep.1 Rx0
  have hA15 := (Below.refl w13.heap.size w13).alloc (Nat.le_refl _) (.cells #[.slice Ax0BoxLow nx0BoxLow cx0BoxLow, .slice Ax0BoxHigh nx0BoxHigh cx0BoxHigh, .slice Ax0Costs nx0Costs cx0Costs, .slice Ax0Choices nx0Choices cx0Choices, .slice Ax0Plans nx0Plans cx0Plans] 76)
  replace hB := hB.trans (hA15.mono hB.size)
  replace bxS := bxS.below hA15
  replace Rv5 := (rSpace_ok NB).keep Rv5 (cells_below hA15)
  replace Rv8 := Rv8.below rInt_ok hA15
  replace Rx0 := (rSpace_ok NB).keep Rx0 (cells_below hA15)
  have bxx0 := Bx.new w13 [.slice Ax0BoxLow nx0BoxLow cx0BoxLow, .slice Ax0BoxHigh nx0BoxHigh cx0BoxHigh, .slice Ax0Costs nx0Costs cx0Costs, .slice Ax0Choices nx0Choices cx0Choices, .slice Ax0Plans nx0Plans cx0Plans] 76
  clear hA15
  go_wp2_with fail
  refine (toIntS_c _ _ _ _ _ (sLocation.below rInt_ok hB)).mono ?_
  rintro e w16 ⟨Ax1, nx1, cx1, rfl, Mx1, hb17⟩
  replace hB := hB.trans (hb17.mono hB.size)
  replace bxS := bxS.below hb17
  replace bxx0 := bxx0.below hb17
  replace Rv5 := (rSpace_ok NB).keep Rv5 (cells_below hb17)
  replace Rv8 := Rv8.below rInt_ok hb17
  replace Rx0 := (rSpace_ok NB).keep Rx0 (cells_below hb17)
  clear hb17
  have Rx1 := Mx1.rs rInt_ok
  have cbxx0_0 := bxx0 0 _ rfl
  have cbxx0_1 := bxx0 1 _ rfl
  have cbxx0_2 := bxx0 2 _ rfl
  have cbxx0_3 := bxx0 3 _ rfl
  have cbxx0_4 := bxx0 4 _ rfl
  go_wp2_with fail
  refine (iSpaceCost_c _ xS _ _ _ _ _ Rx0 Rx1).mono ?_
  rintro e w18 ⟨rfl, hb19⟩
  replace hB := hB.trans (hb19.mono hB.size)
  replace bxS := bxS.below hb19
  replace bxx0 := bxx0.below hb19
  replace Rv5 := (rSpace_ok NB).keep Rv5 (cells_below hb19)
  replace Rv8 := Rv8.below rInt_ok hb19
  replace Rx0 := (rSpace_ok NB).keep Rx0 (cells_below hb19)
  replace Rx1 := Rx1.below rInt_ok hb19
  clear hb19 cbxx0_0 cbxx0_1 cbxx0_2 cbxx0_3 cbxx0_4
  have hnei : ∀ v : Int, (v != v) = false := fun v => by simp
  have hneb : ∀ v : Bool, (v == v) = true := fun v => by simp
  go_wp2_with fail
  have SS20 : ∀ w', Below w18.heap.size w18 w' → (Below w18.heap.size w18 w' ∧ w'.cell? ⟨w.heap.size, 0, none⟩ = some (.slice ASBoxLow nSBoxLow cSBoxLow) ∧ w'.cell? ⟨w.heap.size, 1, none⟩ = some (.slice ASBoxHigh nSBoxHigh cSBoxHigh) ∧ w'.cell? ⟨w.heap.size, 2, none⟩ = some (.slice ASCosts nSCosts cSCosts) ∧ w'.cell? ⟨w.heap.size, 3, none⟩ = some (.slice ASChoices nSChoices cSChoices) ∧ w'.cell? ⟨w.heap.size, 4, none⟩ = some (.slice ASPlans nSPlans cSPlans) ∧ w'.cell? ⟨w13.heap.size, 0, none⟩ = some (.slice Ax0BoxLow nx0BoxLow cx0BoxLow) ∧ w'.cell? ⟨w13.heap.size, 1, none⟩ = some (.slice Ax0BoxHigh nx0BoxHigh cx0BoxHigh) ∧ w'.cell? ⟨w13.heap.size, 2, none⟩ = some (.slice Ax0Costs nx0Costs cx0Costs) ∧ w'.cell? ⟨w13.heap.size, 3, none⟩ = some (.slice Ax0Choices nx0Choices cx0Choices) ∧ w'.cell? ⟨w13.heap.size, 4, none⟩ = some (.slice Ax0Plans nx0Plans cx0Plans)) := fun w' hb => ⟨hb, bxS.below hb 0 _ rfl, bxS.below hb 1 _ rfl, bxS.below hb 2 _ rfl, bxS.below hb 3 _ rfl, bxS.below hb 4 _ rfl, bxx0.below hb 0 _ rfl, bxx0.below hb 1 _ rfl, bxx0.below hb 2 _ rfl, bxx0.below hb 3 _ rfl, bxx0.below hb 4 _ rfl⟩
  have HSS20 := Lib.hid SS20; clear SS20
  have tok25 : True := trivial
  have tok29 : True := trivial
  go_region_held3 (fun w' => Below w18.heap.size w18 w' ∧ w'.cell? ⟨w.heap.size, 0, none⟩ = some (.slice ASBoxLow nSBoxLow cSBoxLow) ∧ w'.cell? ⟨w.heap.size, 1, none⟩ = some (.slice ASBoxHigh nSBoxHigh cSBoxHigh) ∧ w'.cell? ⟨w.heap.size, 2, none⟩ = some (.slice ASCosts nSCosts cSCosts) ∧ w'.cell? ⟨w.heap.size, 3, none⟩ = some (.slice ASChoices nSChoices cSChoices) ∧ w'.cell? ⟨w.heap.size, 4, none⟩ = some (.slice ASPlans nSPlans cSPlans) ∧ w'.cell? ⟨w13.heap.size, 0, none⟩ = some (.slice Ax0BoxLow nx0BoxLow cx0BoxLow) ∧ w'.cell? ⟨w13.heap.size, 1, none⟩ = some (.slice Ax0BoxHigh nx0BoxHigh cx0BoxHigh) ∧ w'.cell? ⟨w13.heap.size, 2, none⟩ = some (.slice Ax0Costs nx0Costs cx0Costs) ∧ w'.cell? ⟨w13.heap.size, 3, none⟩ = some (.slice Ax0Choices nx0Choices cx0Choices) ∧ w'.cell? ⟨w13.heap.size, 4, none⟩ = some (.slice Ax0Plans nx0Plans cx0Plans)) (first | exact HSS20.out _ (Below.refl _ _).drew | exact HSS20.out _ (by assumption)) (first | (go_at_call 46; have _t := tok25; refine (toSpace_c _ xS _ ((rSpace_ok NB).keep sS (cells_below (hB.trans (Below.mono ((Below.refl w18.heap.size w18).drew) hB.size))))).mono ?_; rintro e w22 ⟨csv21, fv21, rfl, ov21, frv21, hb23⟩; have hC24 : Below w18.heap.size w18 w22 := Below.trans ((Below.refl w18.heap.size w18).drew) (hb23.mono ((Below.refl w18.heap.size w18).drew).size); have Rv21 := (rSpace_ok NB).toRep ov21; clear tok25) | (go_at_call 48; have _t := tok29; refine (eqSpace_c _ _ xS xS _ ((rSpace_ok NB).keep Rx0 (cells_below (hC24))) Rv21).mono ?_; rintro e w26 ⟨rfl, hb27⟩; have hC28 : Below w18.heap.size w18 w26 := Below.trans (hC24) (hb27.mono (hC24).size); clear tok29))
  replace hB := hB.trans (hC28.mono hB.size)
  replace bxS := bxS.below hC28
  replace bxx0 := bxx0.below hC28
  replace Rv5 := (rSpace_ok NB).keep Rv5 (cells_below hC28)
  replace Rv8 := Rv8.below rInt_ok hC28
  replace Rx0 := (rSpace_ok NB).keep Rx0 (cells_below hC28)
  replace Rx1 := Rx1.below rInt_ok hC28
  clear HSS20 hC28
  have hdx0 : decide (xS = xS) = true := by simp
  go_wp2_with fail
  refine (toIntS_c _ _ _ _ _ (sLocation.below rInt_ok hB)).mono ?_
  rintro e w30 ⟨Av32, nv32, cv32, rfl, Mv32, hb31⟩
  replace hB := hB.trans (hb31.mono hB.size)
  replace bxS := bxS.below hb31
  replace bxx0 := bxx0.below hb31
  replace Rv5 := (rSpace_ok NB).keep Rv5 (cells_below hb31)
  replace Rv8 := Rv8.below rInt_ok hb31
  replace Rx0 := (rSpace_ok NB).keep Rx0 (cells_below hb31)
  replace Rx1 := Rx1.below rInt_ok hb31
  clear hb31
  have Rv32 := Mv32.rs rInt_ok
  go_wp2_with fail
  refine (eqIntS_b _ _ _ _ _ _ _ _ _ Rx1 Rv32).mono ?_
  rintro e w33 ⟨rfl, hb34⟩
  replace hB := hB.trans (hb34.mono hB.size)
  replace bxS := bxS.below hb34
  replace bxx0 := bxx0.below hb34
  replace Rv5 := (rSpace_ok NB).keep Rv5 (cells_below hb34)
  replace Rv8 := Rv8.below rInt_ok hb34
  replace Rx0 := (rSpace_ok NB).keep Rx0 (cells_below hb34)
  replace Rx1 := Rx1.below rInt_ok hb34
  clear hb34
  have hdx1 : decide (lLocation = lLocation) = true := by simp
  go_wp2
  go_ret
  exact ⟨rfl, hB⟩

set_option maxRecDepth 100000 in
theorem lifted (os : Os) (started : os.Started) (H : Type) (enc : TypeId × Value → H) :
    ReturnsInHanded {} Try.checked os 12 .any (Rows.fnExactSpaceCostSpec.pre6 enc Try.prog Try.f12 Rows.fnExactSpaceCostRow.domain false) (Rows.fnExactSpaceCostSpec.post enc Try.prog Try.f12 false true false false) := by
  refine returnsInHanded_of_change (C := Try.checked) own started (by kernel_rfl) Try.func12
    (ChangeSpec.witness6 (enc := enc) (C := Try.checked) false ⟨#[], #[.agg #[.slice none 0 0, .slice none 0 0, .slice none 0 0, .slice none 0 0, .slice none 0 0], .slice none 0 0], []⟩ 8 (by kernel_rfl) (by kernel_rfl) (by kernel_rfl) (by kernel_rfl)) ?_
  intro W base args ds gs before hval0 hW hcnd _
  have hval : ∀ (j : Nat) t v, Try.f12.params[j]? = some t → args[j]? = some v → Value.okWide Try.prog W .any base t v := hval0
  have hW' := hW
  obtain ⟨p, q, hA0, hV, rfl, hfz, hnd⟩ := hW
  have hA : DataW.TrodAll enc Try.prog W 0 (fun _ => true) true Try.f12.params.toList args.toList ds p := hA0
  rw [Try.params12] at hA hval
  obtain ⟨v0, vs0, d0, ds0, p0, q0, hargs, rfl, rfl, h0, r0⟩ := trodAll_cons hA
  obtain ⟨v1, vs1, d1, ds1, p1, q1, rfl, rfl, rfl, h1, r1⟩ := trodAll_cons r0
  obtain ⟨rfl, rfl, rfl⟩ := trodAll_nil r1
  obtain rfl : args = #[v0, v1] := by cases args; simp_all
  obtain ⟨rfl, rfl⟩ := trodVars_none hV
  obtain ⟨ca0, rfl, _⟩ := okWide_struct Try.underlying71 (hval 0 71 v0 rfl rfl)
  obtain ⟨cl0⟩ := ca0
  have k0 := h0
  have lt0 : ∀ x ∈ p0, x.block < W.heap.size := by obtain ⟨m, hm⟩ := k0; exact DataW.trod_lt m _ _ _ hm
  obtain ⟨x0, g0⟩ : ∃ x, (rSpace maxLen).rep W cl0 x := by
    obtain ⟨fuel, hf⟩ := h0
    exact opensSpace hf
  obtain ⟨A1, n1, c1, rfl⟩ := okWide_slice Try.underlying22 (hval 1 22 v1 rfl rfl)
  have k1 := h1
  have lt1 : ∀ x ∈ p1, x.block < W.heap.size := by obtain ⟨m, hm⟩ := k1; exact DataW.trod_lt m _ _ _ hm
  obtain ⟨l1, g1⟩ : ∃ l, RS maxLen rInt W A1 n1 c1 l := by
    obtain ⟨fuel, hf⟩ := h1
    obtain ⟨l, A, n, c, e, hr⟩ := (opens_slice rInt_ok Try.underlying22 (by kernel_rfl) (opens_int Try.underlying3)) hf
    simp [Value.cells] at e
    obtain ⟨rfl, rfl, rfl⟩ := e
    exact ⟨l, hr⟩
  clear hA0 hval0
  refine (walk cl0 x0 A1 n1 c1 l1 W g0 g1).mono fun e W' ⟨he, bel⟩ => ?_
  subst he
  exact ⟨_, rfl, _, _, _, [], _, [], hW', trodAll_mk1 (shut_bool Try.underlying4 _), (trodAll_cons_mk (Below.trod laidOut (by kernel_rfl) (of_decide_eq_true (by kernel_rfl)) k0 bel lt0) (trodAll_cons_mk (Below.trod laidOut (by kernel_rfl) (of_decide_eq_true (by kernel_rfl)) k1 bel lt1) trodAll_mk0)), rfl, bel.frame _, fun h => by cases h⟩

theorem over : Rows.fnExactSpaceCostRow.holds Try.pinned (OpenSpec.ofChange Rows.fnExactSpaceCostSpec) :=
  OpenClaim.holds_of_wide 12 Try.f12 rfl rfl rfl rfl rfl rfl rfl ⟨rfl, rfl, rfl, rfl, rfl⟩ rfl rfl rfl rfl rfl (by kernel_rfl) Try.func12 (by kernel_rfl)
    (of_decide_eq_true (by kernel_rfl)) (by unfold Func.isWrapper; first | (rw [if_pos (by decide +kernel)]; kernel_rfl) | (rw [if_neg (by decide +kernel)]; exact ⟨rfl, rfl⟩))
    (fun os started H enc _ => lifted os started H enc)

theorem proved : Rows.FnExactSpaceCostSaid := over
#print axioms proved
end Go.Proofs.Ytobildkjikhdiaa.fnExactSpaceCost
