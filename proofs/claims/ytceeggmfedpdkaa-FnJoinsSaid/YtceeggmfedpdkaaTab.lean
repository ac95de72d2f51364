/-
  Tab
-/
import Derived.Test.YtceeggmfedpdkaaKeep
import Derived.Test.YtceeggmfedpdkaaEqLib
import Derived.Test.YtceeggmfedpdkaaStr
import Derived.Test.YtceeggmfedpdkaaQc
namespace Go.Proofs.Ytceeggmfedpdkaa
open Go.RowKit
set_option linter.unusedVariables false
set_option linter.unusedSimpArgs false
theorem Qt.tr {a b c : World} (h1 : Qt a b) (h2 : Qt b c) : Qt a c := by
 obtain ⟨m, rfl⟩ := h1
 obtain ⟨k, rfl⟩ := h2
 exact ⟨_, World.drewN_drewN _ _ _⟩
def cmpI (x y : Int) : Int := if x < y then -1 else if y < x then 1 else 0
theorem isNaN_c (x : Int) (w : World) : Calls Try.prog 150 #[.int .i64 x] w fun e w' => e = .returned (.bool false) ∧ w' = w := by
 have h : (x != x) = false := by simp
 go_enter Try.func150, Try.ntmps150
 go_wp2
 go_ret
 exact ⟨rfl, rfl⟩
theorem cmpCompare_c (x y : Int) (w : World) : Calls Try.prog 136 #[.int .i64 x, .int .i64 y] w fun e w' => e = .returned (.int .i64 (cmpI x y)) ∧ w' = w := by
 unfold cmpI
 by_cases h1 : x < y <;> by_cases h2 : y < x
 all_goals try (exfalso; omega)
 all_goals
  go_enter Try.func136, Try.ntmps136
  go_wp2_with (go_at_call 150; refine (isNaN_c _ _).mono ?_; rintro e w' ⟨rfl, hww⟩; replace hww := hww.symm; subst hww)
  go_ret
  simp [h1, h2]
theorem cmpRows_long {l l' : List Int} {k : Nat} (h : l.take k = l'.take k) (hk : l'.length = k) (hlt : k < l.length) : cmpRows l l' = 1 := by
 rw [cmpRows_drop k h (by omega) (by omega), List.drop_of_length_le (l := l') (by omega)]
 obtain ⟨x, hx⟩ : ∃ x, l[k]? = some x := ⟨_, List.getElem?_eq_getElem hlt⟩
 rw [drop_at hx]; rfl
set_option maxRecDepth 100000 in
set_option maxHeartbeats 800000 in
theorem slicesCompare_c (A A' : Option Addr) (n n' cap cap' : Nat) (l l' : List Int) (w : World) (hr : RS NB rInt w A n cap l) (hr' : RS NB rInt w A' n' cap' l') :
  Calls Try.prog 105 #[.slice A n cap, .slice A' n' cap'] w fun e w' => e = .returned (.int .i64 (cmpRows l l')) ∧ w' = w := by
 have hn := hr.bound
 have hn' := hr'.bound
 have HL := Lib.hid hr.len
 have HL' := Lib.hid hr'.len
 go_enter Try.func105, Try.ntmps105
 go_wp2
 go_loop [11] (fun i => ∃ k : Nat, k ≤ n ∧ k ≤ n' ∧ i = .int .i64 k ∧ l.take k = l'.take k) (fun i => n - (intOf i).toNat)
 case atStart => exact ⟨0, Nat.zero_le _, Nat.zero_le _, rfl, rfl⟩
 case round =>
  obtain ⟨k, hk, hk', rfl, heq⟩ := hrel
  have HE := Lib.hid heq; clear heq
  by_cases hlt : k < n
  ·obtain ⟨b, off, x, rfl, hc, hI, hx⟩ := hr.ati hlt
   by_cases hlt' : k < n'
   ·obtain ⟨b', off', y, rfl, hc', hI', hy⟩ := hr'.ati hlt'
    have hge : ¬ (n' : Int) ≤ (k : Int) := by omega
    rcases Int.lt_trichotomy x y with h1 | h1 | h1
    ·have C1 : Hid (cmpI x y = -1) := by show _ = _; unfold cmpI; rw [if_pos h1]
     have HC := Lib.hid (cmpRows_lt HE.out hx.out hy.out h1)
     clear h1
     go_wp2_with (go_at_call 136; refine (cmpCompare_c _ _ _).mono ?_; rintro e w' ⟨he, hww⟩; rw [C1.out] at he; subst he; subst hww)
     go_ret
     exact ⟨ret_int HC.out.symm, rfl⟩
    ·subst h1
     have C1 : Hid (cmpI x x = 0) := by show _ = _; unfold cmpI; simp
     go_wp2_with (go_at_call 136; refine (cmpCompare_c _ _ _).mono ?_; rintro e w' ⟨he, hww⟩; rw [C1.out] at he; subst he; subst hww)
     go_round
     case rel => exact ⟨k + 1, by omega, by omega, by go_num, take_eq_snoc HE.out hx.out hy.out⟩
     case measure => simp [intOf]; omega
    ·have C1 : Hid (cmpI x y = 1) := by show _ = _; unfold cmpI; rw [if_neg (by omega), if_pos h1]
     have HC := Lib.hid (cmpRows_gt HE.out hx.out hy.out h1)
     clear h1
     go_wp2_with (go_at_call 136; refine (cmpCompare_c _ _ _).mono ?_; rintro e w' ⟨he, hww⟩; rw [C1.out] at he; subst he; subst hww)
     go_ret
     exact ⟨ret_int HC.out.symm, rfl⟩
   ·have hge : (n' : Int) ≤ (k : Int) := by omega
    have HC := Lib.hid (cmpRows_long (l := l) (l' := l') (k := k) HE.out (by have := HL'.out; omega) (by have := HL.out; omega))
    go_wp2
    go_ret
    exact ⟨ret_int HC.out.symm, rfl⟩
  ·have hkn : k = n := by omega
   have HC := Lib.hid (cmpRows_end (l := l) (l' := l') (k := k) HE.out (by have := HL.out; omega) (by have := HL'.out; omega) (by have := HL.out; omega))
   clear hkn
   by_cases h1 : n < n'
   ·have HC2 : Hid (cmpRows l l' = -1) := by show _ = _; rw [HC.out, HL.out, HL'.out, if_pos h1]
    go_wp2
    go_ret
    exact ⟨ret_int HC2.out.symm, rfl⟩
   ·have HC2 : Hid (cmpRows l l' = 0) := by show _ = _; rw [HC.out, HL.out, HL'.out, if_neg h1, if_neg (by omega)]
    go_wp2
    go_ret
    exact ⟨ret_int HC2.out.symm, rfl⟩
theorem iCompareRows_q (A A' : Option Addr) (n n' cap cap' : Nat) (l l' : List Int) (w : World) (hr : RS NB rInt w A n cap l) (hr' : RS NB rInt w A' n' cap' l') :
  Calls Try.prog 85 #[.slice A n cap, .slice A' n' cap'] w fun e w' => e = .returned (.int .i64 (cmpRows l l')) ∧ w' = w := by
 go_enter Try.func85, Try.ntmps85
 go_wp2_with (go_at_call 105; refine (slicesCompare_c _ _ _ _ _ _ _ _ _ hr hr').mono ?_; rintro e w' ⟨rfl, hww⟩; replace hww := hww.symm; subst hww)
 go_ret
 exact ⟨rfl, rfl⟩
/-- row i is above the one ahead of it -/
def ascAt (l : List (List Int)) (i : Nat) : Bool := match i with | 0 => true | j + 1 => match l[j]?, l[j + 1]? with | some a, some b => decide (cmpRows a b < 0) | _, _ => true
def ascRows (l : List (List Int)) : Bool := (List.range l.length).all (ascAt l)
theorem ascAt_s {l : List (List Int)} {j : Nat} {a b : List Int} (ha : l[j]? = some a) (hb : l[j + 1]? = some b) : ascAt l (j + 1) = decide (cmpRows a b < 0) := by simp only [ascAt, ha, hb]
def validTable (t : TableD) : Bool := nameOk t.fName && (inR t.fArity 1 3 && (decide (t.fRows.length ≤ 8) && (t.fRows.all (fun r => rowOk r t.fArity) && ascRows t.fRows)))
end Go.Proofs.Ytceeggmfedpdkaa
