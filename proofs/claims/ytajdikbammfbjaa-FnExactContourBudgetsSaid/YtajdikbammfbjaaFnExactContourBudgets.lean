/-
  For every three ints the law FnExactContourBudgets returns true; no condition.
-/
import Derived.Test.YtajdikbammfbjaaRows
import Derived.Test.YtajdikbammfbjaaBudg
import Derived.Test.YtajdikbammfbjaaEq
import Derived.WalkKit
import Derived.ProofKit
import Derived.OpenShut
import Derived.ChangeOld
namespace Go.Proofs.Ytajdikbammfbjaa.fnExactContourBudgets
open Go.ChangeShapes Go.WideShapes Go.ChangeAt Go.RowKit
set_option linter.unusedVariables false

theorem own : ownKnob Try.prog.godebug = none := by kernel_rfl
theorem laidOut : laidOutB Try.prog = true := by kernel_rfl
set_option maxRecDepth 100000 in
set_option maxHeartbeats 1600000 in
theorem walk (lo hi r : Int) (w : World) (i1 : I64 lo) (i2 : I64 hi) (i3 : I64 r) :
    Calls Try.prog 6 #[.int .i64 lo, .int .i64 hi, .int .i64 r] w fun e w' => e = .returned (.bool true) ∧ Below w.heap.size w w' := by
  go_enter Try.func6, Try.ntmps6
  go_wp2_with fail
  refine (sContourBudgets_c lo hi r _).mono ?_
  rintro e w1 ⟨A1, n1, c1, rfl, M1, hB⟩
  have R1 := M1.rs rInt_ok
  go_wp2_with fail
  refine (iContourBudgets_c lo hi r _).mono ?_
  rintro e w2 ⟨A2, n2, c2, rfl, M2, hb2⟩
  have hE : Below w1.heap.size w1 w2 := hb2
  have R2 := M2.rs rInt_ok
  have hnn : n2 ≤ 4294967296 := M2.nb
  go_wp2_with fail
  refine (eqIntS_b _ _ _ _ _ _ _ _ _ R2 (R1.below rInt_ok hE)).mono ?_
  rintro e w3 ⟨rfl, hb3⟩
  have M3 := M2.below rInt_ok hb3
  replace hE := hE.trans (hb3.mono hE.size)
  clear R2 hb3 hb2 M2
  have hd : decide (contours lo hi r = contours lo hi r) = true := by simp
  go_wp2_with fail
  refine (markIntS_c w1.heap.size A2 n2 c2 _ 1 _ M3 (by omega) (by omega)).mono ?_
  rintro e w4 ⟨rfl, M4, hg, hsz⟩
  have hb4 : Below w1.heap.size w3 w4 := M3.grown (Below.refl _ _) hE.size hg
  replace hE := hE.trans hb4
  clear hg hb4 M3 hsz
  have R4 := M4.rs rInt_ok
  go_wp2_with fail
  refine (heldIntS_c A2 n2 c2 1 _ R4 (by omega) (by omega)).mono ?_
  rintro e w5 ⟨rfl, hw5⟩
  have hb5 := Below.of_eq hw5
  replace M4 := M4.below rInt_ok hb5
  replace hE := hE.trans (hb5.mono hE.size)
  clear hb5 hw5 R4
  have hneq : ((1 + (n2 : Int)) != (1 + (n2 : Int))) = false := by simp
  go_wp2_with fail
  refine (iContourBudgets_c lo hi r _).mono ?_
  rintro e w6 ⟨A6, n6, c6, rfl, M6, hb6⟩
  replace M4 := M4.below rInt_ok hb6
  replace hE := hE.trans (hb6.mono hE.size)
  have R6 := M6.rs rInt_ok
  clear hb6 M6
  go_wp2_with fail
  refine (eqIntS_b _ _ _ _ _ _ _ _ _ R6 (R1.below rInt_ok hE)).mono ?_
  rintro e w7 ⟨rfl, hb7⟩
  replace M4 := M4.below rInt_ok hb7
  replace hE := hE.trans (hb7.mono hE.size)
  have R7 := M4.rs rInt_ok
  go_wp2_with fail
  refine (heldIntS_c A2 n2 c2 1 _ R7 (by omega) (by omega)).mono ?_
  rintro e w8 ⟨rfl, hw8⟩
  have hb8 := Below.of_eq hw8
  replace hE := hE.trans (hb8.mono hE.size)
  go_wp2
  go_ret
  exact ⟨rfl, hB.trans (hE.mono hB.size)⟩

set_option maxRecDepth 100000 in
theorem lifted (os : Os) (started : os.Started) (H : Type) (enc : TypeId × Value → H) :
    ReturnsInHanded {} Try.checked os 6 .any (Rows.fnExactContourBudgetsSpec.pre6 enc Try.prog Try.f6 Rows.fnExactContourBudgetsRow.domain false) (Rows.fnExactContourBudgetsSpec.post enc Try.prog Try.f6 false true false false) := by
  refine returnsInHanded_of_change (C := Try.checked) own started (by kernel_rfl) Try.func6
    (ChangeSpec.witness6 (enc := enc) (C := Try.checked) false ⟨#[], #[.int .i64 0, .int .i64 0, .int .i64 0], []⟩ 8 (by kernel_rfl) (by kernel_rfl) (by kernel_rfl) (by kernel_rfl)) ?_
  intro W base args ds gs before hval0 hW hcnd _
  have hval : ∀ (j : Nat) t v, Try.f6.params[j]? = some t → args[j]? = some v → Value.okWide Try.prog W .any base t v := hval0
  have hW' := hW
  obtain ⟨p, q, hA0, hV, rfl, hfz, hnd⟩ := hW
  have hA : DataW.TrodAll enc Try.prog W 0 (fun _ => true) true Try.f6.params.toList args.toList ds p := hA0
  rw [Try.params6] at hA hval
  obtain ⟨v0, vs0, d0, ds0, p0, q0, hargs, rfl, rfl, h0, r0⟩ := trodAll_cons hA
  obtain ⟨v1, vs1, d1, ds1, p1, q1, rfl, rfl, rfl, h1, r1⟩ := trodAll_cons r0
  obtain ⟨v2, vs2, d2, ds2, p2, q2, rfl, rfl, rfl, h2, r2⟩ := trodAll_cons r1
  obtain ⟨rfl, rfl, rfl⟩ := trodAll_nil r2
  obtain rfl : args = #[v0, v1, v2] := by cases args; simp_all
  obtain ⟨rfl, rfl⟩ := trodVars_none hV
  obtain ⟨a0, rfl, rfl, rfl, w0⟩ := open_int Try.underlying3 (hval 0 3 v0 rfl rfl) h0
  obtain ⟨a1, rfl, rfl, rfl, w1⟩ := open_int Try.underlying3 (hval 1 3 v1 rfl rfl) h1
  obtain ⟨a2, rfl, rfl, rfl, w2⟩ := open_int Try.underlying3 (hval 2 3 v2 rfl rfl) h2
  clear hA0 hval0
  refine (walk a0 a1 a2 W (bounds_i64 w0) (bounds_i64 w1) (bounds_i64 w2)).mono fun e W' ⟨he, bel⟩ => ?_
  subst he
  exact ⟨_, rfl, _, _, _, [], _, [], hW', trodAll_mk1 (shut_bool Try.underlying4 _), (trodAll_cons_mk (shut_int Try.underlying3 w0) (trodAll_cons_mk (shut_int Try.underlying3 w1) (trodAll_cons_mk (shut_int Try.underlying3 w2) trodAll_mk0))), rfl, bel.frame _, fun h => by cases h⟩

theorem over : Rows.fnExactContourBudgetsRow.holds Try.pinned (OpenSpec.ofChange Rows.fnExactContourBudgetsSpec) :=
  OpenClaim.holds_of_wide 6 Try.f6 rfl rfl rfl rfl rfl rfl rfl ⟨rfl, rfl, rfl, rfl, rfl⟩ rfl rfl rfl rfl rfl (by kernel_rfl) Try.func6 (by kernel_rfl)
    (of_decide_eq_true (by kernel_rfl)) (by unfold Func.isWrapper; first | (rw [if_pos (by decide +kernel)]; kernel_rfl) | (rw [if_neg (by decide +kernel)]; exact ⟨rfl, rfl⟩))
    (fun os started H enc _ => lifted os started H enc)

theorem proved : Rows.FnExactContourBudgetsSaid := over
#print axioms proved
end Go.Proofs.Ytajdikbammfbjaa.fnExactContourBudgets
