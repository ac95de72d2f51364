/-
  Plain facts on the sequence of contour budgets; no program in sight.
-/
import Derived.Test.YtodhiehjfgkijaaBudg
import Derived.Test.YtodhiehjfgkijaaLoc
namespace Go.Proofs.Ytodhiehjfgkijaa
open Go.RowKit
set_option linter.unusedVariables false

theorem asc_le {l : List Int} (h : ∀ (k : Nat) (p c : Int), l[k]? = some p → l[k + 1]? = some c → p < c) {i j : Nat} (hij : i < j) {p c : Int} (hp : l[i]? = some p) (hc : l[j]? = some c) : p < c := by
  induction j generalizing c with
  | zero => omega
  | succ j ih =>
    have hj : j < l.length := by have := lt_of_at hc; omega
    have hx : l[j]? = some l[j] := List.getElem?_eq_getElem hj
    have h1 := h j _ _ hx hc
    by_cases e : i = j
    · subst e; rw [hp] at hx; injection hx with hx; omega
    · have := ih (by omega) hx; omega
theorem growTo_head (r h : Int) (f : Nat) (b : Int) : (growTo r h f b)[0]? = some b := by
  cases f with
  | zero => rfl
  | succ f => unfold growTo; split <;> rfl
theorem growTo_next {r h : Int} {f : Nat} {b : Int} {i : Nat} {x y : Int} (hx : (growTo r h f b)[i]? = some x) (hy : (growTo r h f b)[i + 1]? = some y) : y = x * r ∧ x < h := by
  induction f generalizing b i with
  | zero => simp [growTo] at hy
  | succ f ih =>
    unfold growTo at hx hy
    by_cases hb : b < h
    · rw [if_pos hb] at hx hy
      cases i with
      | zero =>
        simp at hx hy; subst hx
        rw [growTo_head] at hy; injection hy with hy
        exact ⟨hy.symm, hb⟩
      | succ i => exact ih (by simpa using hx) (by simpa using hy)
    · rw [if_neg hb] at hy; simp at hy
theorem growTo_len (r h : Int) (f : Nat) (b : Int) : 0 < (growTo r h f b).length ∧ (growTo r h f b).length ≤ f + 1 := by
  induction f generalizing b with
  | zero => simp [growTo]
  | succ f ih =>
    unfold growTo
    split
    · have := ih (b * r); simp; omega
    · simp
theorem growTo_last {r h : Int} (hr : 2 ≤ r) {f : Nat} {b : Int} (hb : 1 ≤ b) (hf : h ≤ b * 2 ^ f) {x : Int} (hx : (growTo r h f b)[(growTo r h f b).length - 1]? = some x) : h ≤ x := by
  induction f generalizing b with
  | zero => simp [growTo] at hx; subst hx; simpa using hf
  | succ f ih =>
    unfold growTo at hx
    by_cases hb2 : b < h
    · rw [if_pos hb2] at hx
      have hl := growTo_len r h f (b * r)
      have a1 : b * 2 ≤ b * r := Int.mul_le_mul_of_nonneg_left hr (by omega)
      refine ih (b := b * r) (by omega) ?_ ?_
      · have p0 : (0 : Int) ≤ 2 ^ f := Int.pow_nonneg (by omega)
        have e : b * 2 ^ (f + 1) = b * 2 * 2 ^ f := by rw [Int.pow_succ, Int.mul_comm (2 ^ f) 2, Int.mul_assoc]
        rw [e] at hf
        exact Int.le_trans hf (Int.mul_le_mul_of_nonneg_right a1 p0)
      · have e : (b :: growTo r h f (b * r)).length - 1 = ((growTo r h f (b * r)).length - 1) + 1 := by simp; omega
        rw [e, List.getElem?_cons_succ] at hx
        exact hx
    · rw [if_neg hb2] at hx; simp at hx; omega
theorem growTo_pos {r h : Int} (hr : 2 ≤ r) {f : Nat} {b : Int} (hb : 1 ≤ b) {i : Nat} {x : Int} (hx : (growTo r h f b)[i]? = some x) : 1 ≤ x := by
  induction f generalizing b i with
  | zero =>
    cases i with
    | zero => simp [growTo] at hx; omega
    | succ i => simp [growTo] at hx
  | succ f ih =>
    have a1 : b * 2 ≤ b * r := Int.mul_le_mul_of_nonneg_left hr (by omega)
    unfold growTo at hx
    split at hx
    · cases i with
      | zero => simp at hx; omega
      | succ i => exact ih (b := b * r) (by omega) (by simpa using hx)
    · cases i with
      | zero => simp at hx; omega
      | succ i => simp at hx
theorem growTo_asc {r h : Int} (hr : 2 ≤ r) {f : Nat} {b : Int} (hb : 1 ≤ b) (k : Nat) (p c : Int) (hp : (growTo r h f b)[k]? = some p) (hc : (growTo r h f b)[k + 1]? = some c) : p < c := by
  have h1 := growTo_pos hr hb hp
  have h2 := (growTo_next hp hc).1
  have a1 : p * 2 ≤ p * r := Int.mul_le_mul_of_nonneg_left hr (by omega)
  omega
theorem growTo_contour {r h : Int} (hr : 2 ≤ r) {f : Nat} {b : Int} (hb : 1 ≤ b) {i : Nat} {x : Int} (hx : (growTo r h f b)[i]? = some x) : contourOf (growTo r h f b) x = i := by
  refine contourOf_yes ?_ hx (Int.le_refl _)
  rw [List.all_eq_true]
  intro z hz
  obtain ⟨j, hj, rfl⟩ := List.getElem_of_mem hz
  rw [List.length_take] at hj
  have := asc_le (growTo_asc hr hb) (i := j) (j := i) (by omega) (List.getElem?_eq_getElem (by omega)) hx
  rw [List.getElem_take]; simp; omega
theorem growTo_top {r h : Int} (hr : 2 ≤ r) {f : Nat} {b : Int} (hb : 1 ≤ b) (hf : h ≤ b * 2 ^ f) : contourOf (growTo r h f b) h = (growTo r h f b).length - 1 := by
  have hl := growTo_len r h f b
  have hx : (growTo r h f b)[(growTo r h f b).length - 1]? = some ((growTo r h f b)[(growTo r h f b).length - 1]'(by omega)) := List.getElem?_eq_getElem (by omega)
  have h1 := growTo_last hr hb hf hx
  have h2 : contourOf (growTo r h f b) h = ((growTo r h f b).length - 1 : Nat) := by
    refine contourOf_yes ?_ hx h1
    rw [List.all_eq_true]
    intro z hz
    obtain ⟨j, hj, rfl⟩ := List.getElem_of_mem hz
    rw [List.length_take] at hj
    have a : (growTo r h f b)[j]? = some ((growTo r h f b)[j]'(by omega)) := List.getElem?_eq_getElem (by omega)
    have c : (growTo r h f b)[j + 1]? = some ((growTo r h f b)[j + 1]'(by omega)) := List.getElem?_eq_getElem (by omega)
    have := (growTo_next a c).2
    rw [List.getElem_take]; simp; omega
  omega
theorem contours_rng {lo hi r : Int} (h : validC lo hi r = true) : 1 ≤ lo ∧ lo ≤ 1000000000000 ∧ lo ≤ hi ∧ hi ≤ 1000000000000 ∧ 2 ≤ r ∧ r ≤ 8 := by
  unfold validC at h
  simp only [Bool.and_eq_true] at h
  have h1 := inR_t.1 h.1
  have h2 := inR_t.1 h.2.1
  have h3 := inR_t.1 h.2.2
  omega
theorem contours_len (lo hi r : Int) : (contours lo hi r).length ≤ 65 := by
  unfold contours; split
  · exact (growTo_len r hi 64 lo).2
  · simp
theorem contours_valid {lo hi r x : Int} {k : Nat} (h : (contours lo hi r)[k]? = some x) : validC lo hi r = true := by
  unfold contours at h
  split at h
  · assumption
  · simp at h
theorem contours_eq {lo hi r : Int} (h : validC lo hi r = true) : contours lo hi r = growTo r hi 64 lo := by unfold contours; rw [if_pos h]
theorem contours_at {lo hi r x : Int} {k : Nat} (h : (contours lo hi r)[k]? = some x) : contourOf (contours lo hi r) x = k ∧ (k + 1 < (contours lo hi r).length → x < hi) := by
  have hv := contours_valid h
  obtain ⟨a1, a2, a3, a4, a5, a6⟩ := contours_rng hv
  rw [contours_eq hv] at h ⊢
  refine ⟨growTo_contour a5 a1 h, fun hk => ?_⟩
  exact (growTo_next h (List.getElem?_eq_getElem hk)).2
theorem contours_prev {lo hi r p x : Int} {k : Nat} (hp : (contours lo hi r)[k]? = some p) (h : (contours lo hi r)[k + 1]? = some x) : x = p * r ∧ 1 ≤ p ∧ p ≤ 1000000000000 ∧ p * r ≤ 8000000000000 ∧ 1 ≤ p * r := by
  have hv := contours_valid h
  obtain ⟨a1, a2, a3, a4, a5, a6⟩ := contours_rng hv
  rw [contours_eq hv] at h hp
  have g1 := growTo_pos a5 a1 hp
  have g2 := growTo_next hp h
  have b1 : p * 2 ≤ p * r := Int.mul_le_mul_of_nonneg_left a5 (by omega)
  have b2 : p * r ≤ p * 8 := Int.mul_le_mul_of_nonneg_left a6 (by omega)
  exact ⟨g2.1, g1, by omega, by omega, by omega⟩
theorem contours_ends {lo hi r : Int} (h : 0 < (contours lo hi r).length) : (contours lo hi r)[0]? = some lo ∧ contourOf (contours lo hi r) hi = ((contours lo hi r).length : Int) - 1 ∧ ∀ x, (contours lo hi r)[(contours lo hi r).length - 1]? = some x → hi ≤ x := by
  have hv := contours_valid (List.getElem?_eq_getElem h)
  obtain ⟨a1, a2, a3, a4, a5, a6⟩ := contours_rng hv
  have hf : hi ≤ lo * 2 ^ 64 := by rw [show (2 : Int) ^ 64 = 18446744073709551616 from by decide]; omega
  rw [contours_eq hv]
  have hl := growTo_len r hi 64 lo
  refine ⟨growTo_head _ _ _ _, ?_, fun x hx => growTo_last a5 a1 hf hx⟩
  rw [growTo_top a5 a1 hf]
def slackOf (b s : Int) : Int := if inR b 0 1000000000000 && inR s 0 100 then b * (100 + s) / 100 else -1
theorem slack_rng {b s : Int} (h1 : inR b 0 1000000000000 = true) (h2 : inR s 0 100 = true) : 0 ≤ b ∧ 0 ≤ b * (100 + s) ∧ b * (100 + s) ≤ 200000000000000 ∧ b ≤ b * (100 + s) / 100 := by
  have g1 := inR_t.1 h1
  have g2 := inR_t.1 h2
  have a1 : b * 100 ≤ b * (100 + s) := Int.mul_le_mul_of_nonneg_left (by omega) (by omega)
  have a2 : b * (100 + s) ≤ b * 200 := Int.mul_le_mul_of_nonneg_left (by omega) (by omega)
  refine ⟨by omega, by omega, by omega, ?_⟩
  omega
set_option maxHeartbeats 800000 in
theorem sSlackBudget_c (b s : Int) (w : World) : Calls Try.prog 20 #[.int .i64 b, .int .i64 s] w fun e w' => e = .returned (.int .i64 (slackOf b s)) ∧ w = w' := by
  cases h1 : inR b 0 1000000000000
  · go_enter Try.func20, Try.ntmps20
    go_wp2_with (go_at_call 75; refine (l1In_c _ _ _ _).mono ?_; rintro e w' ⟨rfl, rfl⟩)
    go_ret
    exact ⟨ret_int (a := -1) (by simp [slackOf, h1]), rfl⟩
  cases h2 : inR s 0 100
  · go_enter Try.func20, Try.ntmps20
    go_wp2_with (go_at_call 75; refine (l1In_c _ _ _ _).mono ?_; rintro e w' ⟨rfl, rfl⟩)
    go_ret
    exact ⟨ret_int (a := -1) (by simp [slackOf, h2]), rfl⟩
  obtain ⟨g1, g2, g3, g4⟩ := slack_rng h1 h2
  have k2 := inR_t.1 h2
  have HE : Hid (slackOf b s = b * (100 + s) / 100) := by show slackOf b s = _; simp [slackOf, h1, h2]
  go_enter Try.func20, Try.ntmps20
  go_wp2_with (go_at_call 75; refine (l1In_c _ _ _ _).mono ?_; rintro e w' ⟨rfl, rfl⟩)
  go_ret
  exact ⟨ret_int (by rw [HE.out]), rfl⟩
set_option maxHeartbeats 800000 in
theorem iSlackBudget_c (b s : Int) (w : World) : Calls Try.prog 19 #[.int .i64 b, .int .i64 s] w fun e w' => e = .returned (.int .i64 (slackOf b s)) ∧ w = w' := by
  cases h1 : inR b 0 1000000000000
  · go_enter Try.func19, Try.ntmps19
    go_wp2_with (go_at_call 74; refine (within_c _ _ _ _).mono ?_; rintro e w' ⟨rfl, rfl⟩)
    go_ret
    exact ⟨ret_int (a := -1) (by simp [slackOf, h1]), rfl⟩
  cases h2 : inR s 0 100
  · go_enter Try.func19, Try.ntmps19
    go_wp2_with (go_at_call 74; refine (within_c _ _ _ _).mono ?_; rintro e w' ⟨rfl, rfl⟩)
    go_ret
    exact ⟨ret_int (a := -1) (by simp [slackOf, h2]), rfl⟩
  obtain ⟨g1, g2, g3, g4⟩ := slack_rng h1 h2
  have k2 := inR_t.1 h2
  have HE : Hid (slackOf b s = b * (100 + s) / 100) := by show slackOf b s = _; simp [slackOf, h1, h2]
  go_enter Try.func19, Try.ntmps19
  go_wp2_with (go_at_call 74; refine (within_c _ _ _ _).mono ?_; rintro e w' ⟨rfl, rfl⟩)
  go_ret
  exact ⟨ret_int (by rw [HE.out]), rfl⟩
theorem slack_or (b s : Int) : slackOf b s < 0 ∨ b ≤ slackOf b s := by
  unfold slackOf
  split
  · rename_i h
    simp only [Bool.and_eq_true] at h
    exact .inr (slack_rng h.1 h.2).2.2.2
  · exact .inl (by omega)
theorem sSlackBudget_v {b s m : Int} (h : slackOf b s = m) (w : World) : Calls Try.prog 20 #[.int .i64 b, .int .i64 s] w fun e w' => e = .returned (.int .i64 m) ∧ w = w' := h ▸ sSlackBudget_c b s w
theorem iSlackBudget_v {b s m : Int} (h : slackOf b s = m) (w : World) : Calls Try.prog 19 #[.int .i64 b, .int .i64 s] w fun e w' => e = .returned (.int .i64 m) ∧ w = w' := h ▸ iSlackBudget_c b s w
theorem big_c (A : Option Addr) (n cap : Nat) (w : World) : Calls Try.prog 12 #[.slice A n cap] w fun e w' => e = .returned (.bool (decide (1048576 < n))) ∧ w = w' := by
  by_cases h : (1048576 : Int) < n
  · go_enter Try.func12, Try.ntmps12
    go_wp2
    go_ret
    exact ⟨ret_bool (by simp; omega), rfl⟩
  · go_enter Try.func12, Try.ntmps12
    go_wp2
    go_ret
    exact ⟨ret_bool (by simp; omega), rfl⟩
theorem iContourOf_v {A : Option Addr} {n cap : Nat} {l : List Int} {c v : Int} {w : World} (hv : contourOf l c = v) (hr : RS NB rInt w A n cap l) :
    Calls Try.prog 17 #[.slice A n cap, .int .i64 c] w fun e w' => e = .returned (.int .i64 v) ∧ Below w.heap.size w w' := hv ▸ iContourOf_c A n cap l c w hr
end Go.Proofs.Ytodhiehjfgkijaa
