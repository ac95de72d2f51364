/-
  Contracts: comparisons of rows, answers; the library's Equal and EqualFunc.
-/
import Derived.Test.YtpdccgnapgneaaaTypes
import Derived.Test.YtpdccgnapgneaaaDens
namespace Go.Proofs.Ytpdccgnapgneaaa
open Go.RowKit

/-! ### rows in order -/
def cmpRows : List Int → List Int → Int
  | [], [] => 0
  | [], _ :: _ => -1
  | _ :: _, [] => 1
  | a :: s, b :: t => if a < b then -1 else if b < a then 1 else cmpRows s t
theorem cmpRows_zero {l l' : List Int} : cmpRows l l' = 0 ↔ l = l' := by
  induction l generalizing l' with
  | nil => cases l' <;> simp [cmpRows]
  | cons a l ih => cases l' with
    | nil => simp [cmpRows]
    | cons b l' =>
      unfold cmpRows
      by_cases h1 : a < b
      · rw [if_pos h1]; simp; omega
      · rw [if_neg h1]
        by_cases h2 : b < a
        · rw [if_pos h2]; simp; omega
        · rw [if_neg h2, ih]; simp; omega
theorem cmpRows_drop {l l' : List Int} (k : Nat) (h : l.take k = l'.take k) (hk : k ≤ l.length) (hk' : k ≤ l'.length) : cmpRows l l' = cmpRows (l.drop k) (l'.drop k) := by
  induction k generalizing l l' with
  | zero => simp
  | succ k ih =>
    cases l with
    | nil => simp at hk
    | cons a l => cases l' with
      | nil => simp at hk'
      | cons b l' =>
        simp only [List.take_succ_cons, List.cons.injEq] at h
        obtain ⟨rfl, h⟩ := h
        rw [List.drop_succ_cons, List.drop_succ_cons, ← ih h (by simpa using hk) (by simpa using hk')]
        conv => lhs; unfold cmpRows
        rw [if_neg (by omega), if_neg (by omega)]
theorem drop_at {α : Type} {l : List α} {k : Nat} {x : α} (h : l[k]? = some x) : l.drop k = x :: l.drop (k + 1) := by
  obtain ⟨hk, rfl⟩ := List.getElem?_eq_some_iff.1 h
  exact List.drop_eq_getElem_cons hk
theorem cmpRows_lt {l l' : List Int} {k : Nat} {x y : Int} (h : l.take k = l'.take k) (hx : l[k]? = some x) (hy : l'[k]? = some y) (hlt : x < y) : cmpRows l l' = -1 := by
  rw [cmpRows_drop k h (Nat.le_of_lt (lt_of_at hx)) (Nat.le_of_lt (lt_of_at hy)), drop_at hx, drop_at hy]; unfold cmpRows; rw [if_pos hlt]
theorem cmpRows_gt {l l' : List Int} {k : Nat} {x y : Int} (h : l.take k = l'.take k) (hx : l[k]? = some x) (hy : l'[k]? = some y) (hlt : y < x) : cmpRows l l' = 1 := by
  rw [cmpRows_drop k h (Nat.le_of_lt (lt_of_at hx)) (Nat.le_of_lt (lt_of_at hy)), drop_at hx, drop_at hy]; unfold cmpRows; rw [if_neg (by omega), if_pos hlt]
theorem cmpRows_end {l l' : List Int} {k : Nat} (h : l.take k = l'.take k) (hk : k ≤ l.length) (hk' : k ≤ l'.length) (he : ¬ (k < l.length ∧ k < l'.length)) :
    cmpRows l l' = if l.length < l'.length then -1 else if l'.length < l.length then 1 else 0 := by
  rw [cmpRows_drop k h hk hk']
  by_cases h1 : k < l.length
  · have h2 : l'.length = k := by omega
    rw [List.drop_of_length_le (l := l') (by omega), List.drop_eq_getElem_cons h1]
    rw [if_neg (by omega), if_pos (by omega)]; rfl
  · have h2 : l.length = k := by omega
    rw [List.drop_of_length_le (l := l) (by omega)]
    by_cases h3 : k < l'.length
    · rw [List.drop_eq_getElem_cons h3, if_pos (by omega)]; rfl
    · rw [List.drop_of_length_le (l := l') (by omega), if_neg (by omega), if_neg (by omega)]; rfl


/-! ### slices.Equal -/
set_option maxHeartbeats 800000 in
theorem equalInts_c (A A' : Option Addr) (n n' cap cap' : Nat) (l l' : List Int) (w : World) (hr : RS NB rInt w A n cap l) (hr' : RS NB rInt w A' n' cap' l') :
    Calls Try.prog 41 #[.slice A n cap, .slice A' n' cap'] w fun e w' => e = .returned (.bool (decide (l = l'))) ∧ Qt w w' := by
  have hn := hr.bound
  have hn' := hr'.bound
  by_cases hne : n = n'
  · subst hne
    go_enter Try.func41, Try.ntmps41
    go_wp2
    go_loopw [13] (fun i wr => ∃ k : Nat, k ≤ n ∧ i = .int .i64 k ∧ l.take k = l'.take k ∧ ∃ q, wr = w.drewN q) (fun i _ => n - (intOf i).toNat)
    case atStart => exact ⟨0, Nat.zero_le _, rfl, rfl, 0, rfl⟩
    case round =>
      obtain ⟨k, hk, rfl, heq, q, rfl⟩ := hrel
      have HE := Lib.hid heq; clear heq
      by_cases hlt : k < n
      · obtain ⟨b, off, x, rfl, hc, hI, hxk⟩ := hr.ati hlt
        obtain ⟨b', off', x', rfl, hc', hI', hxk'⟩ := hr'.ati hlt
        by_cases hx : x = x'
        · have hb : (x != x') = false := by simp [hx]
          have HX := Lib.hid hx; clear hx
          go_wp2
          go_quiet (fail)
          go_wp2
          go_roundw
          case rel => exact ⟨k + 1, by omega, by go_num, take_eq_snoc HE.out hxk.out (HX.out ▸ hxk'.out), (by first | exact ⟨_, rfl⟩ | (simp only [World.drewN_drewN]; exact ⟨_, rfl⟩))⟩
          case measure => simp [intOf]; omega
        · have hb : (x != x') = true := by simp [hx]
          go_wp2
          go_quiet (fail)
          go_wp2
          go_ret
          exact ⟨ret_bool (a := false) (by have := ne_of_at hxk.out hxk'.out hx; simp [this]), (by first | exact ⟨_, rfl⟩ | (simp only [World.drewN_drewN]; exact ⟨_, rfl⟩))⟩
      · go_wp2
        go_ret
        have e : l = l' := by rw [← take_all hr.len hlt, ← take_all hr'.len hlt]; exact HE.out
        exact ⟨ret_bool (a := true) (by simp [e]), _, rfl⟩
  · have hb : ((n : Int) != (n' : Int)) = true := by simp; omega
    go_enter Try.func41, Try.ntmps41
    go_wp2
    go_ret
    have e : l ≠ l' := by rintro rfl; exact hne (hr.len.symm.trans hr'.len)
    exact ⟨ret_bool (a := false) (by simp [e]), Qt.refl _⟩

end Go.Proofs.Ytpdccgnapgneaaa
