/-
  Contracts: notes of runs.
-/
import Derived.Test.YtobildkjikhdiaaTypes
namespace Go.Proofs.Ytobildkjikhdiaa
open Go.RowKit

def aborted (l : List RunNoteD) : Nat := l.countP (fun x => !x.fDone)
theorem countP_snoc {α : Type} (p : α → Bool) {l : List α} {k : Nat} {x : α} (h : l[k]? = some x) : (l.take (k + 1)).countP p = (l.take k).countP p + if p x then 1 else 0 := by
  rw [take_snoc h, List.countP_append]; simp [List.countP_cons]
theorem countP_take_le {α : Type} (p : α → Bool) (l : List α) (k : Nat) : (l.take k).countP p ≤ k := Nat.le_trans List.countP_le_length (by simp; omega)

/-- the cells of the k-th note -/
theorem RS.note {M M' : Nat} {w : World} {A : Option Addr} {n cap : Nat} {l : List RunNoteD} (h : RS M (rRunNote M') w A n cap l) {k : Nat} (hk : k < n) :
    ∃ b off x, A = some ⟨b, off, none⟩ ∧ w.cell? ⟨b, off + k * 5, none⟩ = some (.int .i64 x.fContour) ∧ w.cell? ⟨b, off + k * 5 + 1, none⟩ = some (.int .i64 x.fPlan) ∧ w.cell? ⟨b, off + k * 5 + 2, none⟩ = some (.int .i64 x.fBudget) ∧ w.cell? ⟨b, off + k * 5 + 3, none⟩ = some (.int .i64 x.fCost) ∧ w.cell? ⟨b, off + k * 5 + 4, none⟩ = some (.bool x.fDone) ∧ I64 x.fCost ∧ Hid (l[k]? = some x) := by
  obtain ⟨b, off, x, cs, e, hrep, hc, hx⟩ := h.at_ hk
  obtain ⟨rfl, h1, h2, h3, h4⟩ := rRunNote_rep.1 hrep
  exact ⟨b, off, x, e, hc 0 _ rfl, hc 1 _ rfl, hc 2 _ rfl, hc 3 _ rfl, hc 4 _ rfl, h4, hx⟩


/-! ### TotalOfNotes -/
def total (l : List RunNoteD) : Int := if l.all (fun x => inR x.fCost 0 1000000000000) && decide (l.length ≤ 10000) then (l.map (·.fCost)).sum else -1
def costs (l : List RunNoteD) : Int := (l.map (·.fCost)).sum
theorem costs_snoc {l : List RunNoteD} {k : Nat} {x : RunNoteD} (h : l[k]? = some x) : costs (l.take (k + 1)) = costs (l.take k) + x.fCost := by
  unfold costs; rw [take_snoc h, List.map_append, List.sum_append]; simp
theorem costs_bd {l : List RunNoteD} (h : l.all (fun x => inR x.fCost 0 1000000000000) = true) : 0 ≤ costs l ∧ costs l ≤ 1000000000000 * l.length := by
  induction l with
  | nil => simp [costs]
  | cons x l ih =>
    simp only [List.all_cons, Bool.and_eq_true, inR_t] at h
    have := ih h.2
    unfold costs at this ⊢
    simp only [List.map_cons, List.sum_cons, List.length_cons]; omega
theorem total_no {l : List RunNoteD} {k : Nat} {x : RunNoteD} (h : l[k]? = some x) (hx : inR x.fCost 0 1000000000000 = false) : total l = -1 := by
  unfold total; rw [if_neg]; intro hh; simp only [Bool.and_eq_true, List.all_eq_true] at hh; rw [hh.1 x (mem_of_at h)] at hx; cases hx
theorem total_long {l : List RunNoteD} {n : Nat} (hl : l.length = n) (h : 10000 < n) : total l = -1 := by
  unfold total; rw [if_neg]; intro hh; simp only [Bool.and_eq_true, decide_eq_true_eq] at hh; omega
theorem total_yes {l : List RunNoteD} {n : Nat} (hl : l.length = n) (h : n ≤ 10000) (ha : l.all (fun x => inR x.fCost 0 1000000000000) = true) : total l = costs l := by
  unfold total; rw [if_pos (by rw [ha]; simp; omega)]; rfl
theorem all_snocG {α : Type} {l : List α} {p : α → Bool} {k : Nat} {x : α} (h : (l.take k).all p = true) (hx : l[k]? = some x) (hp : p x = true) : (l.take (k + 1)).all p = true := by
  rw [take_snoc hx, List.all_append, h]; simp [hp]
end Go.Proofs.Ytobildkjikhdiaa
