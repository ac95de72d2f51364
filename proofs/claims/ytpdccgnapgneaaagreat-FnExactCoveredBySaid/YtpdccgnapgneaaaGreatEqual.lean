/-
  Contracts: comparisons of rows, answers; the library's Equal and EqualFunc.
-/
import Derived.Test.YtpdccgnapgneaaaGreatTypes
import Derived.Test.YtpdccgnapgneaaaGreatDens
namespace Go.Proofs.YtpdccgnapgneaaaGreat
open Go.RowKit

/-! ### rows in order -/
def cmpRows : List Int → List Int → Int
  | [], [] => 0
  | [], _ :: _ => -1
  | _ :: _, [] => 1
  | a :: s, b :: t => if a < b then -1 else if b < a then 1 else cmpRows s t
theorem cmpRows_zero {l l' : List Int} : cmpRows l l' = 0 ↔ l = l' := by
  induction l generalizing l' with
  | nil => cases l' <;> simp [cmpRows]
  | cons a l ih => cases l' with
    | nil => simp [cmpRows]
    | cons b l' =>
      unfold cmpRows
      by_cases h1 : a < b
      · rw [if_pos h1]; simp; omega
      · rw [if_neg h1]
        by_cases h2 : b < a
        · rw [if_pos h2]; simp; omega
        · rw [if_neg h2, ih]; simp; omega
theorem cmpRows_drop {l l' : List Int} (k : Nat) (h : l.take k = l'.take k) (hk : k ≤ l.length) (hk' : k ≤ l'.length) : cmpRows l l' = cmpRows (l.drop k) (l'.drop k) := by
  induction k generalizing l l' with
  | zero => simp
  | succ k ih =>
    cases l with
    | nil => simp at hk
    | cons a l => cases l' with
      | nil => simp at hk'
      | cons b l' =>
        simp only [List.take_succ_cons, List.cons.injEq] at h
        obtain ⟨rfl, h⟩ := h
        rw [List.drop_succ_cons, List.drop_succ_cons, ← ih h (by simpa using hk) (by simpa using hk')]
        conv => lhs; unfold cmpRows
        rw [if_neg (by omega), if_neg (by omega)]
theorem drop_at {α : Type} {l : List α} {k : Nat} {x : α} (h : l[k]? = some x) : l.drop k = x :: l.drop (k + 1) := by
  obtain ⟨hk, rfl⟩ := List.getElem?_eq_some_iff.1 h
  exact List.drop_eq_getElem_cons hk
theorem cmpRows_lt {l l' : List Int} {k : Nat} {x y : Int} (h : l.take k = l'.take k) (hx : l[k]? = some x) (hy : l'[k]? = some y) (hlt : x < y) : cmpRows l l' = -1 := by
  rw [cmpRows_drop k h (Nat.le_of_lt (lt_of_at hx)) (Nat.le_of_lt (lt_of_at hy)), drop_at hx, drop_at hy]; unfold cmpRows; rw [if_pos hlt]
theorem cmpRows_gt {l l' : List Int} {k : Nat} {x y : Int} (h : l.take k = l'.take k) (hx : l[k]? = some x) (hy : l'[k]? = some y) (hlt : y < x) : cmpRows l l' = 1 := by
  rw [cmpRows_drop k h (Nat.le_of_lt (lt_of_at hx)) (Nat.le_of_lt (lt_of_at hy)), drop_at hx, drop_at hy]; unfold cmpRows; rw [if_neg (by omega), if_pos hlt]
theorem cmpRows_end {l l' : List Int} {k : Nat} (h : l.take k = l'.take k) (hk : k ≤ l.length) (hk' : k ≤ l'.length) (he : ¬ (k < l.length ∧ k < l'.length)) :
    cmpRows l l' = if l.length < l'.length then -1 else if l'.length < l.length then 1 else 0 := by
  rw [cmpRows_drop k h hk hk']
  by_cases h1 : k < l.length
  · have h2 : l'.length = k := by omega
    rw [List.drop_of_length_le (l := l') (by omega), List.drop_eq_getElem_cons h1]
    rw [if_neg (by omega), if_pos (by omega)]; rfl
  · have h2 : l.length = k := by omega
    rw [List.drop_of_length_le (l := l) (by omega)]
    by_cases h3 : k < l'.length
    · rw [List.drop_eq_getElem_cons h3, if_pos (by omega)]; rfl
    · rw [List.drop_of_length_le (l := l') (by omega), if_neg (by omega), if_neg (by omega)]; rfl


/-! ### slices.Equal -/

end Go.Proofs.YtpdccgnapgneaaaGreat
