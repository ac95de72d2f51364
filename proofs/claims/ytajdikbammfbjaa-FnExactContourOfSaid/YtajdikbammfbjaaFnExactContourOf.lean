/-
  For every input the law FnExactContourOf returns true and leaves its arguments as they were; no condition beyond the statement's own.
-/
import Derived.Test.YtajdikbammfbjaaRows
import Derived.Test.YtajdikbammfbjaaOpens
import Derived.Test.YtajdikbammfbjaaNotes
import Derived.Test.YtajdikbammfbjaaTo
import Derived.Test.YtajdikbammfbjaaEq
import Derived.Test.YtajdikbammfbjaaLoc
import Derived.WalkKit
import Derived.ProofKit
import Derived.OpenShut
import Derived.ShutString
import Derived.ChangeOld
import Derived.Below
import Derived.Deep.RegionHeld3
namespace Go.Proofs.Ytajdikbammfbjaa.fnExactContourOf
open Go.ChangeShapes Go.WideShapes Go.ChangeAt Go.RowKit
open Go.ChangeMaps (open_string shut_string)
set_option linter.unusedVariables false
set_option linter.unusedSimpArgs false

theorem own : ownKnob Try.prog.godebug = none := by kernel_rfl
theorem laidOut : laidOutB Try.prog = true := by kernel_rfl

set_option maxRecDepth 100000 in
set_option maxHeartbeats 4000000 in
theorem walk (ABudgets : Option Addr) (nBudgets kBudgets : Nat) (lBudgets : List Int) (aCost : Int) (w : World) (rBudgets : RS maxLen rInt w ABudgets nBudgets kBudgets lBudgets) (iCost : I64 aCost) :
    Calls Try.prog 4 #[.slice ABudgets nBudgets kBudgets, .int .i64 aCost] w fun e w' => e = .returned (.bool true) ∧ Below w.heap.size w w' := by
  have hB : Below w.heap.size w w := Below.refl _ _
  by_cases hsz : nBudgets ≤ 1048576
  rotate_left
  · have hnBudgets : nBudgets ≤ 9223372036854775807 := rBudgets.nb
    go_enter Try.func4, Try.ntmps4
    go_wp2
    go_ret
    exact ⟨rfl, (by repeat' (first | with_reducible exact hB | with_reducible refine Below.setCell ?_ ?_ _ | with_reducible refine Below.alloc ?_ ?_ _ | (simp; done) | (simp; omega) | omega))⟩
  have sBudgets := smallIntS rBudgets (by have := rBudgets.len; omega)
  go_enter Try.func4, Try.ntmps4
  go_wp2_with fail
  refine (toIntS_c _ _ _ _ _ (sBudgets.below rInt_ok hB)).mono ?_
  rintro e w2 ⟨Av1, nv1, cv1, rfl, Mv1, hb3⟩
  replace hB := hB.trans (hb3.mono hB.size)
  clear hb3
  have Rv1 := Mv1.rs rInt_ok
  go_wp2_with fail
  refine (sContourOf_c _ _ _ _ _ _ Rv1).mono ?_
  rintro e w4 ⟨rfl, hb5⟩
  have hb5b := Below.of_eq hb5
  replace hB := hB.trans (hb5b.mono hB.size)
  replace Rv1 := Rv1.below rInt_ok hb5b
  clear hb5b
  go_wp2_with fail
  refine (toIntS_c _ _ _ _ _ (sBudgets.below rInt_ok hB)).mono ?_
  rintro e w6 ⟨Ax0, nx0, cx0, rfl, Mx0, hb7⟩
  replace hB := hB.trans (hb7.mono hB.size)
  replace Rv1 := Rv1.below rInt_ok hb7
  clear hb7
  have Rx0 := Mx0.rs rInt_ok
  go_wp2_with fail
  refine (iContourOf_c _ _ _ _ _ _ Rx0).mono ?_
  rintro e w8 ⟨rfl, hb9⟩
  replace hB := hB.trans (hb9.mono hB.size)
  replace Rv1 := Rv1.below rInt_ok hb9
  replace Rx0 := Rx0.below rInt_ok hb9
  clear hb9
  have hnei : ∀ v : Int, (v != v) = false := fun v => by simp
  have hneb : ∀ v : Bool, (v == v) = true := fun v => by simp
  go_wp2_with fail
  refine (toIntS_c _ _ _ _ _ (sBudgets.below rInt_ok hB)).mono ?_
  rintro e w10 ⟨Av12, nv12, cv12, rfl, Mv12, hb11⟩
  replace hB := hB.trans (hb11.mono hB.size)
  replace Rv1 := Rv1.below rInt_ok hb11
  replace Rx0 := Rx0.below rInt_ok hb11
  clear hb11
  have Rv12 := Mv12.rs rInt_ok
  go_wp2_with fail
  refine (eqIntS_b _ _ _ _ _ _ _ _ _ Rx0 Rv12).mono ?_
  rintro e w13 ⟨rfl, hb14⟩
  replace hB := hB.trans (hb14.mono hB.size)
  replace Rv1 := Rv1.below rInt_ok hb14
  replace Rx0 := Rx0.below rInt_ok hb14
  clear hb14
  have hdx0 : decide (lBudgets = lBudgets) = true := by simp
  go_wp2
  go_ret
  exact ⟨rfl, hB⟩

set_option maxRecDepth 100000 in
theorem lifted (os : Os) (started : os.Started) (H : Type) (enc : TypeId × Value → H) :
    ReturnsInHanded {} Try.checked os 4 .any (Rows.fnExactContourOfSpec.pre6 enc Try.prog Try.f4 Rows.fnExactContourOfRow.domain false) (Rows.fnExactContourOfSpec.post enc Try.prog Try.f4 false true false false) := by
  refine returnsInHanded_of_change (C := Try.checked) own started (by kernel_rfl) Try.func4
    (ChangeSpec.witness6 (enc := enc) (C := Try.checked) false ⟨#[], #[.slice none 0 0, .int .i64 0], []⟩ 8 (by kernel_rfl) (by kernel_rfl) (by kernel_rfl) (by kernel_rfl)) ?_
  intro W base args ds gs before hval0 hW hcnd _
  have hval : ∀ (j : Nat) t v, Try.f4.params[j]? = some t → args[j]? = some v → Value.okWide Try.prog W .any base t v := hval0
  have hW' := hW
  obtain ⟨p, q, hA0, hV, rfl, hfz, hnd⟩ := hW
  have hA : DataW.TrodAll enc Try.prog W 0 (fun _ => true) true Try.f4.params.toList args.toList ds p := hA0
  rw [Try.params4] at hA hval
  obtain ⟨v0, vs0, d0, ds0, p0, q0, hargs, rfl, rfl, h0, r0⟩ := trodAll_cons hA
  obtain ⟨v1, vs1, d1, ds1, p1, q1, rfl, rfl, rfl, h1, r1⟩ := trodAll_cons r0
  obtain ⟨rfl, rfl, rfl⟩ := trodAll_nil r1
  obtain rfl : args = #[v0, v1] := by cases args; simp_all
  obtain ⟨rfl, rfl⟩ := trodVars_none hV
  obtain ⟨A0, n0, c0, rfl⟩ := okWide_slice Try.underlying24 (hval 0 24 v0 rfl rfl)
  have k0 := h0
  have lt0 : ∀ x ∈ p0, x.block < W.heap.size := by obtain ⟨m, hm⟩ := k0; exact DataW.trod_lt m _ _ _ hm
  obtain ⟨l0, g0⟩ : ∃ l, RS maxLen rInt W A0 n0 c0 l := by
    obtain ⟨fuel, hf⟩ := h0
    obtain ⟨l, A, n, c, e, hr⟩ := (opens_slice rInt_ok Try.underlying24 (by kernel_rfl) (opens_int Try.underlying3)) hf
    simp [Value.cells] at e
    obtain ⟨rfl, rfl, rfl⟩ := e
    exact ⟨l, hr⟩
  obtain ⟨a1, rfl, rfl, rfl, w1⟩ := open_int Try.underlying3 (hval 1 3 v1 rfl rfl) h1
  clear hA0 hval0
  refine (walk A0 n0 c0 l0 a1 W g0 (bounds_i64 w1)).mono fun e W' ⟨he, bel⟩ => ?_
  subst he
  exact ⟨_, rfl, _, _, _, [], _, [], hW', trodAll_mk1 (shut_bool Try.underlying4 _), (trodAll_cons_mk (Below.trod laidOut (by kernel_rfl) (of_decide_eq_true (by kernel_rfl)) k0 bel lt0) (trodAll_cons_mk (shut_int Try.underlying3 w1) trodAll_mk0)), rfl, bel.frame _, fun h => by cases h⟩

theorem over : Rows.fnExactContourOfRow.holds Try.pinned (OpenSpec.ofChange Rows.fnExactContourOfSpec) :=
  OpenClaim.holds_of_wide 4 Try.f4 rfl rfl rfl rfl rfl rfl rfl ⟨rfl, rfl, rfl, rfl, rfl⟩ rfl rfl rfl rfl rfl (by kernel_rfl) Try.func4 (by kernel_rfl)
    (of_decide_eq_true (by kernel_rfl)) (by unfold Func.isWrapper; first | (rw [if_pos (by decide +kernel)]; kernel_rfl) | (rw [if_neg (by decide +kernel)]; exact ⟨rfl, rfl⟩))
    (fun os started H enc _ => lifted os started H enc)

theorem proved : Rows.FnExactContourOfSaid := over
#print axioms proved
end Go.Proofs.Ytajdikbammfbjaa.fnExactContourOf
