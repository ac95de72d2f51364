/-
  Contracts: IsWithinFactor, MakeRational, MeasuredRatio.
-/
import Derived.Test.YtajdikbammfbjaaRat
namespace Go.Proofs.Ytajdikbammfbjaa
open Go.RowKit

def withinFactor (t : Int) (f : RationalD) (o : Int) : Bool :=
  validR f && (inR f.fNum 0 1000000 && (decide (f.fDen ≤ 10000) && (inR t 0 100000000000000 && (inR o 0 1000000000000 && decide (t * f.fDen ≤ f.fNum * o)))))

theorem validR_bd {x : RationalD} (h : validR x = true) : 1 ≤ x.fDen ∧ x.fDen ≤ 2147483647 ∧ -2147483647 ≤ x.fNum ∧ x.fNum ≤ 2147483647 := by
  unfold validR at h
  simp only [Bool.and_eq_true, inR_t] at h
  exact ⟨h.1.1, h.1.2, h.2.1.1, h.2.1.2⟩
theorem mul_bd {a b A B : Int} (h1 : 0 ≤ a) (h2 : a ≤ A) (h3 : 0 ≤ b) (h4 : b ≤ B) : 0 ≤ a * b ∧ a * b ≤ A * B :=
  ⟨Int.mul_nonneg h1 h3, Int.mul_le_mul h2 h4 h3 (by omega)⟩

set_option maxHeartbeats 1600000 in
theorem iIsWithinFactor_c (t : Int) (cs : List Value) (f : RationalD) (o : Int) (w : World) (h : (rRational NB).rep w cs f) :
    Calls Try.prog 23 #[.int .i64 t, .agg cs.toArray, .int .i64 o] w fun e w' => e = .returned (.bool (withinFactor t f o)) ∧ Below w.heap.size w w' := by
  have hrep := h
  obtain ⟨rfl, i1, i2⟩ := rRational_rep.1 h
  obtain ⟨n, d⟩ := f
  simp only at i1 i2 ⊢
  clear h
  have hB := (Below.refl w.heap.size w).alloc (Nat.le_refl _) (.cells #[.int .i64 n, .int .i64 d] 32)
  have bx := Bx.new w [.int .i64 n, .int .i64 d] 32
  go_enter Try.func23, Try.ntmps23
  go_wp2_with fail
  refine (iIsValidRational_c _ ⟨n, d⟩ _ ((rRational_ok NB).keep hrep (cells_below hB))).mono ?_
  rintro e w1 ⟨rfl, hb1⟩
  replace hB := hB.trans (hb1.mono hB.size)
  replace bx := bx.below hb1
  clear hb1
  have b0 := bx 0 _ rfl
  have b1 := bx 1 _ rfl
  cases hv : validR ⟨n, d⟩
  · go_wp2
    go_ret
    exact ⟨ret_bool (a := false) (by simp [withinFactor, hv]), hB⟩
  have hbd := validR_bd hv
  simp only at hbd
  cases h1 : inR n 0 1000000
  · go_wp2_with (go_at_call 66; refine (within_c _ _ _ _).mono ?_; rintro e w' ⟨rfl, rfl⟩)
    go_ret
    exact ⟨ret_bool (a := false) (by simp [withinFactor, h1]), hB⟩
  have h1' := inR_t.1 h1
  by_cases h2 : d ≤ 10000
  rotate_left
  · go_wp2_with (go_at_call 66; refine (within_c _ _ _ _).mono ?_; rintro e w' ⟨rfl, rfl⟩)
    go_ret
    exact ⟨ret_bool (a := false) (by have : decide (d ≤ 10000) = false := decide_eq_false (by omega)
                                     simp only [withinFactor, this, Bool.false_and, Bool.and_false]), hB⟩
  cases h3 : inR t 0 100000000000000
  · go_wp2_with (go_at_call 66; refine (within_c _ _ _ _).mono ?_; rintro e w' ⟨rfl, rfl⟩)
    go_ret
    exact ⟨ret_bool (a := false) (by simp [withinFactor, h3]), hB⟩
  have h3' := inR_t.1 h3
  cases h4 : inR o 0 1000000000000
  · go_wp2_with (go_at_call 66; refine (within_c _ _ _ _).mono ?_; rintro e w' ⟨rfl, rfl⟩)
    go_ret
    exact ⟨ret_bool (a := false) (by simp [withinFactor, h4]), hB⟩
  have h4' := inR_t.1 h4
  have m1 := mul_bd h3'.1 h3'.2 (b := d) (B := 10000) (by omega) h2
  have m2 := mul_bd h1'.1 h1'.2 h4'.1 h4'.2
  go_wp2_with (go_at_call 66; refine (within_c _ _ _ _).mono ?_; rintro e w' ⟨rfl, rfl⟩)
  go_ret
  exact ⟨ret_bool (by simp [withinFactor, hv, h1, h2, h3, h4]), hB⟩
set_option maxHeartbeats 1600000 in
theorem sIsWithinFactor_c (t : Int) (cs : List Value) (f : RationalD) (o : Int) (w : World) (h : (rRational NB).rep w cs f) :
    Calls Try.prog 21 #[.int .i64 t, .agg cs.toArray, .int .i64 o] w fun e w' => e = .returned (.bool (withinFactor t f o)) ∧ Below w.heap.size w w' := by
  have hrep := h
  obtain ⟨rfl, i1, i2⟩ := rRational_rep.1 h
  obtain ⟨n, d⟩ := f
  simp only at i1 i2 ⊢
  clear h
  have hB := (Below.refl w.heap.size w).alloc (Nat.le_refl _) (.cells #[.int .i64 n, .int .i64 d] 32)
  have bx := Bx.new w [.int .i64 n, .int .i64 d] 32
  go_enter Try.func21, Try.ntmps21
  go_wp2_with fail
  refine (sIsValidRational_c _ ⟨n, d⟩ _ ((rRational_ok NB).keep hrep (cells_below hB))).mono ?_
  rintro e w1 ⟨rfl, hb1⟩
  replace hB := hB.trans (hb1.mono hB.size)
  replace bx := bx.below hb1
  clear hb1
  have b0 := bx 0 _ rfl
  have b1 := bx 1 _ rfl
  cases hv : validR ⟨n, d⟩
  · go_wp2
    go_ret
    exact ⟨ret_bool (a := false) (by simp [withinFactor, hv]), hB⟩
  have hbd := validR_bd hv
  simp only at hbd
  by_cases h0 : n < 0
  · go_wp2
    go_ret
    exact ⟨ret_bool (a := false) (by have : inR n 0 1000000 = false := inR_f.2 (by omega); simp [withinFactor, this]), hB⟩
  cases h3 : inR t 0 100000000000000
  · go_wp2_with (go_at_call 65; refine (l1In_c _ _ _ _).mono ?_; rintro e w' ⟨rfl, rfl⟩)
    go_ret
    exact ⟨ret_bool (a := false) (by simp [withinFactor, h3]), hB⟩
  have h3' := inR_t.1 h3
  cases h4 : inR o 0 1000000000000
  · go_wp2_with (go_at_call 65; refine (l1In_c _ _ _ _).mono ?_; rintro e w' ⟨rfl, rfl⟩)
    go_ret
    exact ⟨ret_bool (a := false) (by simp [withinFactor, h4]), hB⟩
  have h4' := inR_t.1 h4
  by_cases h1 : n ≤ 1000000
  rotate_left
  · go_wp2_with (go_at_call 65; refine (l1In_c _ _ _ _).mono ?_; rintro e w' ⟨rfl, rfl⟩)
    go_ret
    exact ⟨ret_bool (a := false) (by have : inR n 0 1000000 = false := inR_f.2 (by omega); simp [withinFactor, this]), hB⟩
  by_cases h2 : d ≤ 10000
  rotate_left
  · go_wp2_with (go_at_call 65; refine (l1In_c _ _ _ _).mono ?_; rintro e w' ⟨rfl, rfl⟩)
    go_ret
    exact ⟨ret_bool (a := false) (by have : decide (d ≤ 10000) = false := decide_eq_false (by omega)
                                     simp only [withinFactor, this, Bool.false_and, Bool.and_false]), hB⟩
  have h1' : inR n 0 1000000 = true := inR_t.2 (by omega)
  have H1 := Lib.hid h1'; clear h1'
  have m1 := mul_bd h3'.1 h3'.2 (b := d) (B := 10000) (by omega) h2
  have m2 := mul_bd (a := n) (A := 1000000) (by omega) h1 h4'.1 h4'.2
  go_wp2_with (go_at_call 65; refine (l1In_c _ _ _ _).mono ?_; rintro e w' ⟨rfl, rfl⟩)
  go_ret
  exact ⟨ret_bool (by simp [withinFactor, hv, H1.out, h2, h3, h4]), hB⟩
end Go.Proofs.Ytajdikbammfbjaa
