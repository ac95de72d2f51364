/-
  Contracts: is a number in a list (the reference's l7Has, the library's Index, Contains).
-/
import Derived.Test.YtpdccgnapgneaaaGreatLoc
import Derived.Test.YtpdccgnapgneaaaGreatKeep
namespace Go.Proofs.YtpdccgnapgneaaaGreat
open Go.RowKit
set_option linter.unusedVariables false

def hasI (l : List Int) (x : Int) : Bool := decide (x ∈ l)
theorem hasI_no {l : List Int} {x : Int} (h : l.all (fun b => !(b == x)) = true) : hasI l x = false := by
  rw [List.all_eq_true] at h
  unfold hasI; rw [decide_eq_false_iff_not]
  intro hx; have := h x hx; simp at this
theorem hasI_yes {l : List Int} {x : Int} {k : Nat} (h : l[k]? = some x) : hasI l x = true := by unfold hasI; rw [decide_eq_true_iff]; exact mem_of_at h
set_option maxHeartbeats 400000 in
theorem l7Has_q (A : Option Addr) (n cap : Nat) (l : List Int) (x : Int) (w : World) (hr : RS NB rInt w A n cap l) :
    Calls Tryz.prog 94 #[.slice A n cap, .int .i64 x] w fun e w' => e = .returned (.bool (hasI l x)) ∧ w' = w := by
  have hn := hr.bound
  go_enter Tryz.func94, Tryz.ntmps94
  go_wp2
  go_loop [5] (fun i => ∃ k : Nat, k ≤ n ∧ i = .int .i64 k ∧ (l.take k).all (fun b => !(b == x)) = true) (fun i => n - (intOf i).toNat)
  case atStart => exact ⟨0, Nat.zero_le _, rfl, rfl⟩
  case round =>
    obtain ⟨k, hk, rfl, hall⟩ := hrel
    have Hall := Lib.hid hall; clear hall
    by_cases hlt : k < n
    · obtain ⟨b, off, y, rfl, hc, hI, hy⟩ := hr.ati hlt
      by_cases hx : y = x
      · have d1 : (y == x) = true := by simp [hx]
        have HX := Lib.hid hx; clear hx
        go_wp2
        go_ret
        exact ⟨ret_bool (a := true) (hasI_yes (HX.out ▸ hy.out)).symm, rfl⟩
      · have d1 : (y == x) = false := by simp [hx]
        go_wp2
        go_round
        case rel => exact ⟨k + 1, by omega, by go_num, all_snoc' Hall.out hy.out (by simp [d1])⟩
        case measure => simp [intOf]; omega
    · go_wp2
      go_ret
      exact ⟨ret_bool (a := false) (hasI_no (take_all hr.len hlt ▸ Hall.out)).symm, rfl⟩
theorem l7Has_v {A : Option Addr} {n cap : Nat} {l : List Int} {x : Int} {v : Bool} {w : World} (hv : hasI l x = v) (hr : RS NB rInt w A n cap l) :
    Calls Tryz.prog 94 #[.slice A n cap, .int .i64 x] w fun e w' => e = .returned (.bool v) ∧ w' = w := hv ▸ l7Has_q A n cap l x w hr
set_option maxHeartbeats 400000 in
theorem slicesIndex_q (A : Option Addr) (n cap : Nat) (l : List Int) (x : Int) (w : World) (hr : RS NB rInt w A n cap l) :
    Calls Tryz.prog 146 #[.slice A n cap, .int .i64 x] w fun e w' => e = .returned (.int .i64 (idxOf (fun b => b == x) l)) ∧ w' = w := by
  have hn := hr.bound
  go_enter Tryz.func146, Tryz.ntmps146
  go_wp2
  go_loop [8] (fun i => ∃ k : Nat, k ≤ n ∧ i = .int .i64 k ∧ (l.take k).all (fun b => !(b == x)) = true) (fun i => n - (intOf i).toNat)
  case atStart => exact ⟨0, Nat.zero_le _, rfl, rfl⟩
  case round =>
    obtain ⟨k, hk, rfl, hall⟩ := hrel
    have Hall := Lib.hid hall; clear hall
    by_cases hlt : k < n
    · obtain ⟨b, off, y, rfl, hc, hI, hy⟩ := hr.ati hlt
      by_cases hx : y = x
      · have d1 : (x == y) = true := by simp [hx]
        have HX := Lib.hid hx; clear hx
        go_wp2
        go_ret
        exact ⟨ret_int (idxOf_yes Hall.out hy.out (by simp [HX.out])).symm, rfl⟩
      · have d1 : (x == y) = false := by simp; exact fun e => hx e.symm
        go_wp2
        go_round
        case rel => exact ⟨k + 1, by omega, by go_num, all_snoc' Hall.out hy.out (by simp [hx])⟩
        case measure => simp [intOf]; omega
    · go_wp2
      go_ret
      exact ⟨ret_int (a := -1) (idxOf_no (take_all hr.len hlt ▸ Hall.out)).symm, rfl⟩
theorem idxOf_has (l : List Int) (x : Int) : decide (0 ≤ idxOf (fun b => b == x) l) = hasI l x := by
  unfold hasI
  rw [decide_eq_decide]
  constructor
  · intro h
    unfold idxOf at h
    cases hf : l.findIdx? (fun b => b == x) with
    | none => rw [hf] at h; simp at h
    | some i =>
      rw [List.findIdx?_eq_some_iff_getElem] at hf
      obtain ⟨hi, hb, _⟩ := hf
      have : l[i] = x := by simpa using hb
      rw [← this]; exact List.getElem_mem hi
  · intro h
    unfold idxOf
    cases hf : l.findIdx? (fun b => b == x) with
    | none => rw [List.findIdx?_eq_none_iff] at hf; have := hf x h; simp at this
    | some i => simp
theorem slicesContains_q (A : Option Addr) (n cap : Nat) (l : List Int) (x : Int) (w : World) (hr : RS NB rInt w A n cap l) :
    Calls Tryz.prog 129 #[.slice A n cap, .int .i64 x] w fun e w' => e = .returned (.bool (hasI l x)) ∧ w' = w := by
  go_enter Tryz.func129, Tryz.ntmps129
  go_wp2_with fail
  refine (slicesIndex_q _ _ _ _ _ _ hr).mono ?_
  rintro e w1 ⟨rfl, hw⟩
  generalize hk : idxOf (fun b => b == x) l = k
  have HK := Lib.hid hk; clear hk
  go_wp2
  go_ret
  exact ⟨ret_bool (by rw [← idxOf_has, HK.out]), rfl⟩
theorem slicesContains_v {A : Option Addr} {n cap : Nat} {l : List Int} {x : Int} {v : Bool} {w : World} (hv : hasI l x = v) (hr : RS NB rInt w A n cap l) :
    Calls Tryz.prog 129 #[.slice A n cap, .int .i64 x] w fun e w' => e = .returned (.bool v) ∧ w' = w := hv ▸ slicesContains_q A n cap l x w hr
end Go.Proofs.YtpdccgnapgneaaaGreat
