/-
  For every pair of ints the law FnExactMeasuredRatio returns true; no condition.
-/
import Derived.Test.YtajdikbammfbjaaRows
import Derived.Test.YtajdikbammfbjaaMake
import Derived.Test.YtajdikbammfbjaaEq
import Derived.WalkKit
import Derived.ProofKit
import Derived.OpenShut
import Derived.ChangeOld
namespace Go.Proofs.Ytajdikbammfbjaa.fnExactMeasuredRatio
open Go.ChangeShapes Go.WideShapes Go.ChangeAt Go.RowKit
set_option linter.unusedVariables false

theorem own : ownKnob Try.prog.godebug = none := by kernel_rfl
theorem laidOut : laidOutB Try.prog = true := by kernel_rfl
theorem mkR_I64 (t o : Int) (ht : I64 t) (ho : I64 o) : I64 (measured t o).1.fNum ∧ I64 (measured t o).1.fDen := by
  unfold measured
  split
  · rename_i h
    simp only [Bool.and_eq_true, inR_t] at h
    have hg := gcd_bd (a := t) h.2.1
    have q1 := div_bd h.1.1 hg.1
    have q2 := div_bd (a := o) (by omega) hg.1
    unfold mkR
    split
    · unfold I64; simp only; omega
    · unfold I64; simp only; omega
  · unfold I64; simp only; omega
set_option maxRecDepth 100000 in
set_option maxHeartbeats 1600000 in
theorem walk (t o : Int) (w : World) (ht : I64 t) (ho : I64 o) :
    Calls Try.prog 9 #[.int .i64 t, .int .i64 o] w fun e w' => e = .returned (.bool true) ∧ Below w.heap.size w w' := by
  have hI := mkR_I64 t o ht ho
  generalize hm : measured t o = R at hI
  have HM := Lib.hid hm; clear hm
  obtain ⟨⟨rn, rd⟩, rb⟩ := R
  simp only at hI
  go_enter Try.func9, Try.ntmps9
  go_wp2_with fail
  refine (sMeasuredRatio_c t o _).mono ?_
  rw [HM.out]
  rintro e w1 ⟨rfl, hB⟩
  simp only
  have hA := (Below.refl w1.heap.size w1).alloc (Nat.le_refl _) (.cells #[.int .i64 rn, .int .i64 rd] 32)
  have bxa := Bx.new w1 [.int .i64 rn, .int .i64 rd] 32
  replace hB := hB.trans (hA.mono hB.size)
  go_wp2_with fail
  refine (iMeasuredRatio_c t o _).mono ?_
  rw [HM.out]
  rintro e w2 ⟨rfl, hb2⟩
  simp only
  replace hB := hB.trans (hb2.mono hB.size)
  replace bxa := bxa.below hb2
  have ca0 := bxa 0 _ rfl
  have ca1 := bxa 1 _ rfl
  have hlt : w1.heap.size < w2.heap.size := World.block_lt_of_cell? _ _ ca0
  have hA2 := (Below.refl w2.heap.size w2).alloc (Nat.le_refl _) (.cells #[.int .i64 rn, .int .i64 rd] 32)
  replace hB := hB.trans (hA2.mono hB.size)
  clear hA hb2 bxa
  go_wp2_with fail
  refine (eqRational_c _ _ ⟨rn, rd⟩ ⟨rn, rd⟩ _ (rRational_rep.2 ⟨rfl, hI.1, hI.2⟩) (rRational_rep.2 ⟨rfl, hI.1, hI.2⟩)).mono ?_
  rintro e w3 ⟨rfl, hb3⟩
  replace hB := hB.trans (hb3.mono hB.size)
  have hd : decide ((⟨rn, rd⟩ : RationalD) = ⟨rn, rd⟩) = true := by simp
  have hneb : ∀ v : Bool, (v == v) = true := fun v => by simp
  go_wp2
  go_ret
  exact ⟨rfl, hB⟩

set_option maxRecDepth 100000 in
theorem lifted (os : Os) (started : os.Started) (H : Type) (enc : TypeId × Value → H) :
    ReturnsInHanded {} Try.checked os 9 .any (Rows.fnExactMeasuredRatioSpec.pre6 enc Try.prog Try.f9 Rows.fnExactMeasuredRatioRow.domain false) (Rows.fnExactMeasuredRatioSpec.post enc Try.prog Try.f9 false true false false) := by
  refine returnsInHanded_of_change (C := Try.checked) own started (by kernel_rfl) Try.func9
    (ChangeSpec.witness6 (enc := enc) (C := Try.checked) false ⟨#[], #[.int .i64 0, .int .i64 0], []⟩ 8 (by kernel_rfl) (by kernel_rfl) (by kernel_rfl) (by kernel_rfl)) ?_
  intro W base args ds gs before hval0 hW hcnd _
  have hval : ∀ (j : Nat) t v, Try.f9.params[j]? = some t → args[j]? = some v → Value.okWide Try.prog W .any base t v := hval0
  have hW' := hW
  obtain ⟨p, q, hA0, hV, rfl, hfz, hnd⟩ := hW
  have hA : DataW.TrodAll enc Try.prog W 0 (fun _ => true) true Try.f9.params.toList args.toList ds p := hA0
  rw [Try.params9] at hA hval
  obtain ⟨v0, vs0, d0, ds0, p0, q0, hargs, rfl, rfl, h0, r0⟩ := trodAll_cons hA
  obtain ⟨v1, vs1, d1, ds1, p1, q1, rfl, rfl, rfl, h1, r1⟩ := trodAll_cons r0
  obtain ⟨rfl, rfl, rfl⟩ := trodAll_nil r1
  obtain rfl : args = #[v0, v1] := by cases args; simp_all
  obtain ⟨rfl, rfl⟩ := trodVars_none hV
  obtain ⟨a0, rfl, rfl, rfl, w0⟩ := open_int Try.underlying3 (hval 0 3 v0 rfl rfl) h0
  obtain ⟨a1, rfl, rfl, rfl, w1⟩ := open_int Try.underlying3 (hval 1 3 v1 rfl rfl) h1
  clear hA0 hval0
  refine (walk a0 a1 W (bounds_i64 w0) (bounds_i64 w1)).mono fun e W' ⟨he, bel⟩ => ?_
  subst he
  exact ⟨_, rfl, _, _, _, [], _, [], hW', trodAll_mk1 (shut_bool Try.underlying4 _), (trodAll_cons_mk (shut_int Try.underlying3 w0) (trodAll_cons_mk (shut_int Try.underlying3 w1) trodAll_mk0)), rfl, bel.frame _, fun h => by cases h⟩

theorem over : Rows.fnExactMeasuredRatioRow.holds Try.pinned (OpenSpec.ofChange Rows.fnExactMeasuredRatioSpec) :=
  OpenClaim.holds_of_wide 9 Try.f9 rfl rfl rfl rfl rfl rfl rfl ⟨rfl, rfl, rfl, rfl, rfl⟩ rfl rfl rfl rfl rfl (by kernel_rfl) Try.func9 (by kernel_rfl)
    (of_decide_eq_true (by kernel_rfl)) (by unfold Func.isWrapper; first | (rw [if_pos (by decide +kernel)]; kernel_rfl) | (rw [if_neg (by decide +kernel)]; exact ⟨rfl, rfl⟩))
    (fun os started H enc _ => lifted os started H enc)

theorem proved : Rows.FnExactMeasuredRatioSaid := over
#print axioms proved
end Go.Proofs.Ytajdikbammfbjaa.fnExactMeasuredRatio
