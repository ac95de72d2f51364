/-
  For every input the law FnExactIsWithinFactor returns true and leaves its arguments as they were; no condition beyond the statement's own.
-/
import Derived.Test.YtajdikbammfbjaaRows
import Derived.Test.YtajdikbammfbjaaOpens
import Derived.Test.YtajdikbammfbjaaTo
import Derived.Test.YtajdikbammfbjaaEq
import Derived.Test.YtajdikbammfbjaaRat2
import Derived.WalkKit
import Derived.ProofKit
import Derived.OpenShut
import Derived.ShutString
import Derived.ChangeOld
import Derived.Below
import Derived.Deep.RegionHeld3
namespace Go.Proofs.Ytajdikbammfbjaa.fnExactIsWithinFactor
open Go.ChangeShapes Go.WideShapes Go.ChangeAt Go.RowKit
open Go.ChangeMaps (open_string shut_string)
set_option linter.unusedVariables false
set_option linter.unusedSimpArgs false

theorem own : ownKnob Try.prog.godebug = none := by kernel_rfl
theorem laidOut : laidOutB Try.prog = true := by kernel_rfl

set_option maxRecDepth 100000 in
set_option maxHeartbeats 4000000 in
theorem walk (aTotal : Int) (csFactor : List Value) (xFactor : RationalD) (aOptimum : Int) (w : World) (iTotal : I64 aTotal) (rFactor : (rRational maxLen).rep w csFactor xFactor) (iOptimum : I64 aOptimum) :
    Calls Try.prog 5 #[.int .i64 aTotal, .agg csFactor.toArray, .int .i64 aOptimum] w fun e w' => e = .returned (.bool true) ∧ Below w.heap.size w w' := by
  have hB : Below w.heap.size w w := Below.refl _ _
  have qFactor := rFactor
  obtain ⟨rfl, hFactorNum, hFactorDen⟩ := rRational_rep.1 qFactor
  clear qFactor
  go_enter Try.func5, Try.ntmps5
  have hA1 := (Below.refl (World.heap (w)).size (w)).alloc (Nat.le_refl _) (.cells #[.int .i64 xFactor.fNum, .int .i64 xFactor.fDen] 30)
  replace hB := hB.trans (hA1.mono hB.size)
  have bxFactor := Bx.new (w) [.int .i64 xFactor.fNum, .int .i64 xFactor.fDen] 30
  clear hA1
  have sFactor := smallRational rFactor
  go_wp2_with fail
  refine (toRational_c _ xFactor _ ((rRational_ok NB).keep sFactor (cells_below hB))).mono ?_
  rintro e w3 ⟨csv2, fv2, rfl, ov2, frv2, hb4⟩
  replace hB := hB.trans (hb4.mono hB.size)
  replace bxFactor := bxFactor.below hb4
  clear hb4
  have Rv2 := (rRational_ok NB).toRep ov2
  go_wp2_with fail
  refine (sIsWithinFactor_c _ _ xFactor _ _ Rv2).mono ?_
  rintro e w5 ⟨rfl, hb6⟩
  replace hB := hB.trans (hb6.mono hB.size)
  replace bxFactor := bxFactor.below hb6
  replace Rv2 := (rRational_ok NB).keep Rv2 (cells_below hb6)
  clear hb6
  have cbxFactor_0 := bxFactor 0 _ rfl
  have cbxFactor_1 := bxFactor 1 _ rfl
  go_wp2_with fail
  refine (toRational_c _ xFactor _ ((rRational_ok NB).keep sFactor (cells_below hB))).mono ?_
  rintro e w8 ⟨csv7, fv7, rfl, ov7, frv7, hb9⟩
  replace hB := hB.trans (hb9.mono hB.size)
  replace bxFactor := bxFactor.below hb9
  replace Rv2 := (rRational_ok NB).keep Rv2 (cells_below hb9)
  clear hb9
  have Rv7 := (rRational_ok NB).toRep ov7
  go_wp2_with fail
  refine (iIsWithinFactor_c _ _ xFactor _ _ Rv7).mono ?_
  rintro e w10 ⟨rfl, hb11⟩
  replace hB := hB.trans (hb11.mono hB.size)
  replace bxFactor := bxFactor.below hb11
  replace Rv2 := (rRational_ok NB).keep Rv2 (cells_below hb11)
  replace Rv7 := (rRational_ok NB).keep Rv7 (cells_below hb11)
  clear hb11 cbxFactor_0 cbxFactor_1
  have hnei : ∀ v : Int, (v != v) = false := fun v => by simp
  have hneb : ∀ v : Bool, (v == v) = true := fun v => by simp
  go_wp2
  go_ret
  exact ⟨rfl, hB⟩

set_option maxRecDepth 100000 in
theorem lifted (os : Os) (started : os.Started) (H : Type) (enc : TypeId × Value → H) :
    ReturnsInHanded {} Try.checked os 5 .any (Rows.fnExactIsWithinFactorSpec.pre6 enc Try.prog Try.f5 Rows.fnExactIsWithinFactorRow.domain false) (Rows.fnExactIsWithinFactorSpec.post enc Try.prog Try.f5 false true false false) := by
  refine returnsInHanded_of_change (C := Try.checked) own started (by kernel_rfl) Try.func5
    (ChangeSpec.witness6 (enc := enc) (C := Try.checked) false ⟨#[], #[.int .i64 0, .agg #[.int .i64 0, .int .i64 0], .int .i64 0], []⟩ 8 (by kernel_rfl) (by kernel_rfl) (by kernel_rfl) (by kernel_rfl)) ?_
  intro W base args ds gs before hval0 hW hcnd _
  have hval : ∀ (j : Nat) t v, Try.f5.params[j]? = some t → args[j]? = some v → Value.okWide Try.prog W .any base t v := hval0
  have hW' := hW
  obtain ⟨p, q, hA0, hV, rfl, hfz, hnd⟩ := hW
  have hA : DataW.TrodAll enc Try.prog W 0 (fun _ => true) true Try.f5.params.toList args.toList ds p := hA0
  rw [Try.params5] at hA hval
  obtain ⟨v0, vs0, d0, ds0, p0, q0, hargs, rfl, rfl, h0, r0⟩ := trodAll_cons hA
  obtain ⟨v1, vs1, d1, ds1, p1, q1, rfl, rfl, rfl, h1, r1⟩ := trodAll_cons r0
  obtain ⟨v2, vs2, d2, ds2, p2, q2, rfl, rfl, rfl, h2, r2⟩ := trodAll_cons r1
  obtain ⟨rfl, rfl, rfl⟩ := trodAll_nil r2
  obtain rfl : args = #[v0, v1, v2] := by cases args; simp_all
  obtain ⟨rfl, rfl⟩ := trodVars_none hV
  obtain ⟨a0, rfl, rfl, rfl, w0⟩ := open_int Try.underlying3 (hval 0 3 v0 rfl rfl) h0
  obtain ⟨ca1, rfl, _⟩ := okWide_struct Try.underlying30 (hval 1 30 v1 rfl rfl)
  obtain ⟨cl1⟩ := ca1
  have k1 := h1
  have lt1 : ∀ x ∈ p1, x.block < W.heap.size := by obtain ⟨m, hm⟩ := k1; exact DataW.trod_lt m _ _ _ hm
  obtain ⟨x1, g1⟩ : ∃ x, (rRational maxLen).rep W cl1 x := by
    obtain ⟨fuel, hf⟩ := h1
    exact opensRational hf
  obtain ⟨a2, rfl, rfl, rfl, w2⟩ := open_int Try.underlying3 (hval 2 3 v2 rfl rfl) h2
  clear hA0 hval0
  refine (walk a0 cl1 x1 a2 W (bounds_i64 w0) g1 (bounds_i64 w2)).mono fun e W' ⟨he, bel⟩ => ?_
  subst he
  exact ⟨_, rfl, _, _, _, [], _, [], hW', trodAll_mk1 (shut_bool Try.underlying4 _), (trodAll_cons_mk (shut_int Try.underlying3 w0) (trodAll_cons_mk (Below.trod laidOut (by kernel_rfl) (of_decide_eq_true (by kernel_rfl)) k1 bel lt1) (trodAll_cons_mk (shut_int Try.underlying3 w2) trodAll_mk0))), rfl, bel.frame _, fun h => by cases h⟩

theorem over : Rows.fnExactIsWithinFactorRow.holds Try.pinned (OpenSpec.ofChange Rows.fnExactIsWithinFactorSpec) :=
  OpenClaim.holds_of_wide 5 Try.f5 rfl rfl rfl rfl rfl rfl rfl ⟨rfl, rfl, rfl, rfl, rfl⟩ rfl rfl rfl rfl rfl (by kernel_rfl) Try.func5 (by kernel_rfl)
    (of_decide_eq_true (by kernel_rfl)) (by unfold Func.isWrapper; first | (rw [if_pos (by decide +kernel)]; kernel_rfl) | (rw [if_neg (by decide +kernel)]; exact ⟨rfl, rfl⟩))
    (fun os started H enc _ => lifted os started H enc)

theorem proved : Rows.FnExactIsWithinFactorSaid := over
#print axioms proved
end Go.Proofs.Ytajdikbammfbjaa.fnExactIsWithinFactor
