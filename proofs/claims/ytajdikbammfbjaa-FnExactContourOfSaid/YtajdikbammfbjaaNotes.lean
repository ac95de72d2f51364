/-
  Contracts: notes of runs.
-/
import Derived.Test.YtajdikbammfbjaaTypes
namespace Go.Proofs.Ytajdikbammfbjaa
open Go.RowKit

def aborted (l : List RunNoteD) : Nat := l.countP (fun x => !x.fDone)
theorem countP_snoc {α : Type} (p : α → Bool) {l : List α} {k : Nat} {x : α} (h : l[k]? = some x) : (l.take (k + 1)).countP p = (l.take k).countP p + if p x then 1 else 0 := by
  rw [take_snoc h, List.countP_append]; simp [List.countP_cons]
theorem countP_take_le {α : Type} (p : α → Bool) (l : List α) (k : Nat) : (l.take k).countP p ≤ k := Nat.le_trans List.countP_le_length (by simp; omega)

/-- the cells of the k-th note -/
theorem RS.note {M M' : Nat} {w : World} {A : Option Addr} {n cap : Nat} {l : List RunNoteD} (h : RS M (rRunNote M') w A n cap l) {k : Nat} (hk : k < n) :
    ∃ b off x, A = some ⟨b, off, none⟩ ∧ w.cell? ⟨b, off + k * 5, none⟩ = some (.int .i64 x.fContour) ∧ w.cell? ⟨b, off + k * 5 + 1, none⟩ = some (.int .i64 x.fPlan) ∧ w.cell? ⟨b, off + k * 5 + 2, none⟩ = some (.int .i64 x.fBudget) ∧ w.cell? ⟨b, off + k * 5 + 3, none⟩ = some (.int .i64 x.fCost) ∧ w.cell? ⟨b, off + k * 5 + 4, none⟩ = some (.bool x.fDone) ∧ I64 x.fCost ∧ Hid (l[k]? = some x) := by
  obtain ⟨b, off, x, cs, e, hrep, hc, hx⟩ := h.at_ hk
  obtain ⟨rfl, h1, h2, h3, h4⟩ := rRunNote_rep.1 hrep
  exact ⟨b, off, x, e, hc 0 _ rfl, hc 1 _ rfl, hc 2 _ rfl, hc 3 _ rfl, hc 4 _ rfl, h4, hx⟩

set_option maxHeartbeats 800000 in
theorem sAbortedRuns_c (cs : List Value) (x : OutcomeD) (w : World) (h : (rOutcome NB).rep w cs x) :
    Calls Try.prog 51 #[.agg cs.toArray] w fun e w' => e = .returned (.int .i64 (aborted x.fNotes : Nat)) ∧ Below w.heap.size w w' := by
  obtain ⟨AAnswerVars, nAnswerVars, cAnswerVars, AAnswerRows, nAnswerRows, cAnswerRows, ANotes, nNotes, cNotes, ABoxLow, nBoxLow, cBoxLow, ABoxHigh, nBoxHigh, cBoxHigh, rfl, hAnswerVars, hAnswerRows, hTotal, hNotes, hBoxLow, hBoxHigh⟩ := rOutcome_rep.1 h
  have hn := hNotes.bound
  go_enter Try.func51, Try.ntmps51
  go_wp2
  go_loopw [3, 4] (fun c i wr => ∃ k : Nat, k ≤ nNotes ∧ i = .int .i64 k ∧ c = .int .i64 ((x.fNotes.take k).countP (fun x => !x.fDone) : Nat) ∧ wr.cell? ⟨w.heap.size, 3, none⟩ = some (.slice ANotes nNotes cNotes) ∧ Below w.heap.size w wr) (fun _ i _ => nNotes - (intOf i).toNat)
  case atStart => exact ⟨0, Nat.zero_le _, rfl, rfl, by simp, (Below.refl _ _).alloc (Nat.le_refl _) _⟩
  case round =>
    obtain ⟨k, hk, rfl, rfl, hbox, hb⟩ := hrel
    have hle := countP_take_le (fun x => !x.fDone) x.fNotes k
    by_cases hlt : k < nNotes
    · obtain ⟨b, off, y, rfl, h0, h1, h2, h3, h4, _, hy⟩ := (hNotes.below (rRunNote_ok _) hb).note hlt
      have hsn := Lib.hid (countP_snoc (fun x : RunNoteD => !x.fDone) hy.out)
      generalize (x.fNotes.take k).countP (fun x => !x.fDone) = c0 at *
      cases hd : y.fDone
      all_goals
        rw [hd] at h4 hsn
        go_wp2
        go_roundw
        case rel => exact ⟨k + 1, by omega, by go_num, by rw [hsn.out]; simp <;> go_num, hbox, hb⟩
        case measure => simp [intOf]; omega
    · go_wp2
      go_ret
      exact ⟨ret_int (by rw [take_all hNotes.len hlt]; rfl), hb⟩
set_option maxHeartbeats 800000 in
theorem iAbortedRuns_c (cs : List Value) (x : OutcomeD) (w : World) (h : (rOutcome NB).rep w cs x) :
    Calls Try.prog 53 #[.agg cs.toArray] w fun e w' => e = .returned (.int .i64 (aborted x.fNotes : Nat)) ∧ Below w.heap.size w w' := by
  obtain ⟨AAnswerVars, nAnswerVars, cAnswerVars, AAnswerRows, nAnswerRows, cAnswerRows, ANotes, nNotes, cNotes, ABoxLow, nBoxLow, cBoxLow, ABoxHigh, nBoxHigh, cBoxHigh, rfl, hAnswerVars, hAnswerRows, hTotal, hNotes, hBoxLow, hBoxHigh⟩ := rOutcome_rep.1 h
  have hn := hNotes.bound
  go_enter Try.func53, Try.ntmps53
  go_wp2
  go_loopw [3, 9] (fun c i wr => ∃ k : Nat, k ≤ nNotes ∧ i = .int .i64 k ∧ c = .int .i64 ((x.fNotes.take k).countP (fun x => !x.fDone) : Nat) ∧ Below w.heap.size w wr) (fun _ i _ => nNotes - (intOf i).toNat)
  case atStart => exact ⟨0, Nat.zero_le _, rfl, rfl, (Below.refl _ _).alloc (Nat.le_refl _) _⟩
  case round =>
    obtain ⟨k, hk, rfl, rfl, hb⟩ := hrel
    have hle := countP_take_le (fun x => !x.fDone) x.fNotes k
    by_cases hlt : k < nNotes
    · obtain ⟨b, off, y, rfl, h0, h1, h2, h3, h4, _, hy⟩ := (hNotes.below (rRunNote_ok _) hb).note hlt
      have hsn := Lib.hid (countP_snoc (fun x : RunNoteD => !x.fDone) hy.out)
      generalize (x.fNotes.take k).countP (fun x => !x.fDone) = c0 at *
      cases hd : y.fDone
      all_goals
        rw [hd] at h4 hsn
        go_wp2
        go_roundw
        case rel => exact ⟨k + 1, by omega, by go_num, by rw [hsn.out]; simp <;> go_num, hb.alloc hb.size _⟩
        case measure => simp [intOf]; omega
    · go_wp2
      go_ret
      exact ⟨ret_int (by rw [take_all hNotes.len hlt]; rfl), hb⟩

/-! ### TotalOfNotes -/
def total (l : List RunNoteD) : Int := if l.all (fun x => inR x.fCost 0 1000000000000) && decide (l.length ≤ 10000) then (l.map (·.fCost)).sum else -1
def costs (l : List RunNoteD) : Int := (l.map (·.fCost)).sum
theorem costs_snoc {l : List RunNoteD} {k : Nat} {x : RunNoteD} (h : l[k]? = some x) : costs (l.take (k + 1)) = costs (l.take k) + x.fCost := by
  unfold costs; rw [take_snoc h, List.map_append, List.sum_append]; simp
theorem costs_bd {l : List RunNoteD} (h : l.all (fun x => inR x.fCost 0 1000000000000) = true) : 0 ≤ costs l ∧ costs l ≤ 1000000000000 * l.length := by
  induction l with
  | nil => simp [costs]
  | cons x l ih =>
    simp only [List.all_cons, Bool.and_eq_true, inR_t] at h
    have := ih h.2
    unfold costs at this ⊢
    simp only [List.map_cons, List.sum_cons, List.length_cons]; omega
theorem total_no {l : List RunNoteD} {k : Nat} {x : RunNoteD} (h : l[k]? = some x) (hx : inR x.fCost 0 1000000000000 = false) : total l = -1 := by
  unfold total; rw [if_neg]; intro hh; simp only [Bool.and_eq_true, List.all_eq_true] at hh; rw [hh.1 x (mem_of_at h)] at hx; cases hx
theorem total_long {l : List RunNoteD} {n : Nat} (hl : l.length = n) (h : 10000 < n) : total l = -1 := by
  unfold total; rw [if_neg]; intro hh; simp only [Bool.and_eq_true, decide_eq_true_eq] at hh; omega
theorem total_yes {l : List RunNoteD} {n : Nat} (hl : l.length = n) (h : n ≤ 10000) (ha : l.all (fun x => inR x.fCost 0 1000000000000) = true) : total l = costs l := by
  unfold total; rw [if_pos (by rw [ha]; simp; omega)]; rfl
theorem all_snocG {α : Type} {l : List α} {p : α → Bool} {k : Nat} {x : α} (h : (l.take k).all p = true) (hx : l[k]? = some x) (hp : p x = true) : (l.take (k + 1)).all p = true := by
  rw [take_snoc hx, List.all_append, h]; simp [hp]
set_option maxHeartbeats 800000 in
theorem sTotalOfNotes_c (A : Option Addr) (n cap : Nat) (l : List RunNoteD) (w : World) (hr : RS NB (rRunNote NB) w A n cap l) :
    Calls Try.prog 32 #[.slice A n cap] w fun e w' => e = .returned (.int .i64 (total l)) ∧ w = w' := by
  have hn := hr.bound
  go_enter Try.func32, Try.ntmps32
  go_wp2
  go_loop [3, 4] (fun c i => ∃ (k : Nat) (s : Int), k ≤ n ∧ k ≤ 10000 ∧ i = .int .i64 k ∧ c = .int .i64 s ∧ 0 ≤ s ∧ s ≤ 1000000000000 * k ∧ s = costs (l.take k) ∧ (l.take k).all (fun x => inR x.fCost 0 1000000000000) = true) (fun _ i => n - (intOf i).toNat)
  case atStart => exact ⟨0, 0, Nat.zero_le _, by omega, rfl, rfl, by omega, by omega, rfl, rfl⟩
  case round =>
    obtain ⟨k, s, hk, hk2, rfl, rfl, hs0, hs1, hs2, hall⟩ := hrel
    have HS := Lib.hid hs2; clear hs2
    have Hall := Lib.hid hall; clear hall
    by_cases hlt : k < n
    · obtain ⟨b, off, y, rfl, h0, h1, h2, h3, h4, hI, hy⟩ := hr.note hlt
      cases hx : inR y.fCost 0 1000000000000
      · go_wp2_with (go_at_call 65; refine (l1In_c _ _ _ _).mono ?_; rintro e w' ⟨rfl, rfl⟩)
        go_ret
        exact ⟨ret_int (a := -1) (total_no hy.out hx).symm, rfl⟩
      · have hx2 := inR_t.1 hx
        by_cases hk3 : 10000 ≤ k
        · have hd : decide ((10000 : Int) ≤ (k : Int)) = true := by simp; omega
          go_wp2_with (go_at_call 65; refine (l1In_c _ _ _ _).mono ?_; rintro e w' ⟨rfl, rfl⟩)
          go_ret
          exact ⟨ret_int (a := -1) (total_long hr.len (by omega)).symm, rfl⟩
        · have hd : decide ((10000 : Int) ≤ (k : Int)) = false := by simp; omega
          go_wp2_with (go_at_call 65; refine (l1In_c _ _ _ _).mono ?_; rintro e w' ⟨rfl, rfl⟩)
          go_round
          case rel => exact ⟨k + 1, s + y.fCost, by omega, by omega, by go_num, rfl, by omega, by omega, by rw [costs_snoc hy.out, HS.out], all_snocG Hall.out hy.out hx⟩
          case measure => simp [intOf]; omega
    · go_wp2
      go_ret
      have := Hall.out
      rw [take_all hr.len hlt] at this
      exact ⟨ret_int (by rw [HS.out, take_all hr.len hlt, total_yes hr.len (by omega) this]), rfl⟩
set_option maxHeartbeats 800000 in
theorem iTotalOfNotes_c (A : Option Addr) (n cap : Nat) (l : List RunNoteD) (w : World) (hr : RS NB (rRunNote NB) w A n cap l) (hn : n ≤ 1048576) :
    Calls Try.prog 34 #[.slice A n cap] w fun e w' => e = .returned (.int .i64 (total l)) ∧ Below w.heap.size w w' := by
  go_enter Try.func34, Try.ntmps34
  go_wp2
  go_loopw [3, 8] (fun c i wr => ∃ (k : Nat) (s : Int), k ≤ n ∧ i = .int .i64 k ∧ c = .int .i64 s ∧ 0 ≤ s ∧ s ≤ 1000000000000 * k ∧ s = costs (l.take k) ∧ (l.take k).all (fun x => inR x.fCost 0 1000000000000) = true ∧ Below w.heap.size w wr) (fun _ i _ => n - (intOf i).toNat)
  case atStart => exact ⟨0, 0, Nat.zero_le _, rfl, rfl, by omega, by omega, rfl, rfl, Below.refl _ _⟩
  case round =>
    obtain ⟨k, s, hk, rfl, rfl, hs0, hs1, hs2, hall, hb⟩ := hrel
    have HS := Lib.hid hs2; clear hs2
    have Hall := Lib.hid hall; clear hall
    by_cases hlt : k < n
    · obtain ⟨b, off, y, rfl, h0, h1, h2, h3, h4, hI, hy⟩ := (hr.below (rRunNote_ok _) hb).note hlt
      cases hx : inR y.fCost 0 1000000000000
      · go_wp2_with (go_at_call 66; refine (within_c _ _ _ _).mono ?_; rintro e w' ⟨rfl, rfl⟩)
        go_ret
        exact ⟨ret_int (a := -1) (total_no hy.out hx).symm, hb.alloc hb.size _⟩
      · have hx2 := inR_t.1 hx
        go_wp2_with (go_at_call 66; refine (within_c _ _ _ _).mono ?_; rintro e w' ⟨rfl, rfl⟩)
        go_roundw
        case rel => exact ⟨k + 1, s + y.fCost, by omega, by go_num, rfl, by omega, by omega, by rw [costs_snoc hy.out, HS.out], all_snocG Hall.out hy.out hx, hb.alloc hb.size _⟩
        case measure => simp [intOf]; omega
    · have := Hall.out
      rw [take_all hr.len hlt] at this
      have HA := Lib.hid this; clear this
      by_cases hlong : 10000 < n
      · go_wp2
        go_ret
        exact ⟨ret_int (a := -1) (total_long hr.len hlong).symm, hb⟩
      · go_wp2
        go_ret
        exact ⟨ret_int (by rw [HS.out, take_all hr.len hlt, total_yes hr.len (by omega) HA.out]), hb⟩
end Go.Proofs.Ytajdikbammfbjaa
