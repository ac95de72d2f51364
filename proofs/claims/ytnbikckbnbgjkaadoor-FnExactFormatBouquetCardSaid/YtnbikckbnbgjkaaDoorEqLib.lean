/-
  Dens, Equal, EqLib
-/
import Derived.Test.YtnbikckbnbgjkaaDoorTypes
import Derived.Laws.StructEq
namespace Go.Proofs.YtnbikckbnbgjkaaDoor
open Go.RowKit

def density (l : List (List Int)) : Nat := l.foldl (fun m x => max m x.length) 0
theorem density_snoc {l : List (List Int)} {k : Nat} {x : List Int} (h : l[k]? = some x) : density (l.take (k + 1)) = max (density (l.take k)) x.length := by
 unfold density; rw [take_snoc h, List.foldl_append]; rfl
/-- the k-th row of a slice of slices -/
theorem RS.row {M M' : Nat} {e : TypeId} {w : World} {A : Option Addr} {n cap : Nat} {l : List (List Int)} (h : RS M (rSlice M' e rInt) w A n cap l) {k : Nat} (hk : k < n) :
  ∃ b off x Ar nr cr, A = some ⟨b, off, none⟩ ∧ w.cell? ⟨b, off + k, none⟩ = some (.slice Ar nr cr) ∧ RS M' rInt w Ar nr cr x ∧ Hid (l[k]? = some x) := by
 obtain ⟨b, off, x, cs, e, ⟨Ar, nr, cr, rfl, hr⟩, hc, hx⟩ := h.at_ hk
 exact ⟨b, off, x, Ar, nr, cr, e, by simpa [rSlice] using hc 0 _ rfl, hr, hx⟩

end Go.Proofs.YtnbikckbnbgjkaaDoor
namespace Go.Proofs.YtnbikckbnbgjkaaDoor
open Go.RowKit

/-! ### rows in order -/
def cmpRows : List Int → List Int → Int
 | [], [] => 0
 | [], _ :: _ => -1
 | _ :: _, [] => 1
 | a :: s, b :: t => if a < b then -1 else if b < a then 1 else cmpRows s t
theorem cmpRows_zero {l l' : List Int} : cmpRows l l' = 0 ↔ l = l' := by
 induction l generalizing l' with
 | nil => cases l' <;> simp [cmpRows]
 | cons a l ih => cases l' with
  | nil => simp [cmpRows]
  | cons b l' =>
   unfold cmpRows
   by_cases h1 : a < b
   ·rw [if_pos h1]; simp; omega
   ·rw [if_neg h1]
    by_cases h2 : b < a
    ·rw [if_pos h2]; simp; omega
    ·rw [if_neg h2, ih]; simp; omega
theorem cmpRows_drop {l l' : List Int} (k : Nat) (h : l.take k = l'.take k) (hk : k ≤ l.length) (hk' : k ≤ l'.length) : cmpRows l l' = cmpRows (l.drop k) (l'.drop k) := by
 induction k generalizing l l' with
 | zero => simp
 | succ k ih =>
  cases l with
  | nil => simp at hk
  | cons a l => cases l' with
   | nil => simp at hk'
   | cons b l' =>
    simp only [List.take_succ_cons, List.cons.injEq] at h
    obtain ⟨rfl, h⟩ := h
    rw [List.drop_succ_cons, List.drop_succ_cons, ← ih h (by simpa using hk) (by simpa using hk')]
    conv => lhs; unfold cmpRows
    rw [if_neg (by omega), if_neg (by omega)]
theorem drop_at {α : Type} {l : List α} {k : Nat} {x : α} (h : l[k]? = some x) : l.drop k = x :: l.drop (k + 1) := by
 obtain ⟨hk, rfl⟩ := List.getElem?_eq_some_iff.1 h
 exact List.drop_eq_getElem_cons hk
theorem cmpRows_lt {l l' : List Int} {k : Nat} {x y : Int} (h : l.take k = l'.take k) (hx : l[k]? = some x) (hy : l'[k]? = some y) (hlt : x < y) : cmpRows l l' = -1 := by
 rw [cmpRows_drop k h (Nat.le_of_lt (lt_of_at hx)) (Nat.le_of_lt (lt_of_at hy)), drop_at hx, drop_at hy]; unfold cmpRows; rw [if_pos hlt]
theorem cmpRows_gt {l l' : List Int} {k : Nat} {x y : Int} (h : l.take k = l'.take k) (hx : l[k]? = some x) (hy : l'[k]? = some y) (hlt : y < x) : cmpRows l l' = 1 := by
 rw [cmpRows_drop k h (Nat.le_of_lt (lt_of_at hx)) (Nat.le_of_lt (lt_of_at hy)), drop_at hx, drop_at hy]; unfold cmpRows; rw [if_neg (by omega), if_pos hlt]
theorem cmpRows_end {l l' : List Int} {k : Nat} (h : l.take k = l'.take k) (hk : k ≤ l.length) (hk' : k ≤ l'.length) (he : ¬ (k < l.length ∧ k < l'.length)) :
  cmpRows l l' = if l.length < l'.length then -1 else if l'.length < l.length then 1 else 0 := by
 rw [cmpRows_drop k h hk hk']
 by_cases h1 : k < l.length
 ·have h2 : l'.length = k := by omega
  rw [List.drop_of_length_le (l := l') (by omega), List.drop_eq_getElem_cons h1]
  rw [if_neg (by omega), if_pos (by omega)]; rfl
 ·have h2 : l.length = k := by omega
  rw [List.drop_of_length_le (l := l) (by omega)]
  by_cases h3 : k < l'.length
  ·rw [List.drop_eq_getElem_cons h3, if_pos (by omega)]; rfl
  ·rw [List.drop_of_length_le (l := l') (by omega), if_neg (by omega), if_neg (by omega)]; rfl


/-! ### slices.Equal -/

end Go.Proofs.YtnbikckbnbgjkaaDoor
namespace Go.Proofs.YtnbikckbnbgjkaaDoor
open Go.RowKit
set_option linter.unusedVariables false
set_option linter.unusedSimpArgs false

theorem RS.ePlanStep {M M' : Nat} {w : World} {A : Option Addr} {n cap : Nat} {l : List PlanStepD} (h : RS M (rPlanStep M') w A n cap l) {k : Nat} (hk : k < n) :
  ∃ b off x, A = some ⟨b, off, none⟩ ∧ w.cell? ⟨b, off + k * 3, none⟩ = some (.int .i64 x.fKind) ∧ w.cell? ⟨b, off + k * 3 + 1, none⟩ = some (.int .i64 x.fAtom) ∧ w.cell? ⟨b, off + k * 3 + 2, none⟩ = some (.int .i64 x.fOrder) ∧ I64 x.fKind ∧ I64 x.fAtom ∧ I64 x.fOrder ∧ Hid (l[k]? = some x) := by
 obtain ⟨b, off, x, cs, e, hrep, hc, hx⟩ := h.at_ hk
 obtain ⟨rfl, hKind, hAtom, hOrder⟩ := rPlanStep_rep.1 hrep
 exact ⟨b, off, x, e, hc 0 _ rfl, hc 1 _ rfl, hc 2 _ rfl, hKind, hAtom, hOrder, hx⟩
theorem guardPlanStep : Tryd.prog.eqGuardType Tryd.prog.depth 113 = false := by kernel_rfl
theorem neqPlanStep (x x' : PlanStepD) (W : World) : (binOp .neq 113 (.agg #[.int .i64 x.fKind, .int .i64 x.fAtom, .int .i64 x.fOrder]) (.agg #[.int .i64 x'.fKind, .int .i64 x'.fAtom, .int .i64 x'.fOrder])).run Tryd.prog W = .ok (.bool (!decide (x = x'))) W := by
 rw [run_neq_struct, show (10000 : Nat) = 9999 + 1 from rfl, run_equalIn_struct _ _ _ _ _ (by kernel_rfl) (by kernel_rfl)]
 have hd : decide (x = x') = ((x.fKind == x'.fKind) && ((x.fAtom == x'.fAtom) && (x.fOrder == x'.fOrder))) := by
  rw [Bool.eq_iff_iff]; cases x; cases x'; simp
 rw [hd]
 by_cases h0 : x.fKind = x'.fKind <;> by_cases h1 : x.fAtom = x'.fAtom <;> by_cases h2 : x.fOrder = x'.fOrder <;> simp [go_sem, Tryd.underlying113, Tryd.underlying3, Tryd.underlying4, h0, h1, h2]
theorem eqlPlanStep (x x' : PlanStepD) (W : World) : (binOp .eql 113 (.agg #[.int .i64 x.fKind, .int .i64 x.fAtom, .int .i64 x.fOrder]) (.agg #[.int .i64 x'.fKind, .int .i64 x'.fAtom, .int .i64 x'.fOrder])).run Tryd.prog W = .ok (.bool (decide (x = x'))) W := by
 rw [run_eql_struct, show (10000 : Nat) = 9999 + 1 from rfl, run_equalIn_struct _ _ _ _ _ (by kernel_rfl) (by kernel_rfl)]
 have hd : decide (x = x') = ((x.fKind == x'.fKind) && ((x.fAtom == x'.fAtom) && (x.fOrder == x'.fOrder))) := by
  rw [Bool.eq_iff_iff]; cases x; cases x'; simp
 rw [hd]
 by_cases h0 : x.fKind = x'.fKind <;> by_cases h1 : x.fAtom = x'.fAtom <;> by_cases h2 : x.fOrder = x'.fOrder <;> simp [go_sem, Tryd.underlying113, Tryd.underlying3, Tryd.underlying4, h0, h1, h2]
theorem RS.eObservation {M M' : Nat} {w : World} {A : Option Addr} {n cap : Nat} {l : List ObservationD} (h : RS M (rObservation M') w A n cap l) {k : Nat} (hk : k < n) :
  ∃ b off x, A = some ⟨b, off, none⟩ ∧ w.cell? ⟨b, off + k * 3, none⟩ = some (.int .i64 x.fMask) ∧ w.cell? ⟨b, off + k * 3 + 1, none⟩ = some (.int .i64 x.fClass) ∧ w.cell? ⟨b, off + k * 3 + 2, none⟩ = some (.bool x.fExact) ∧ I64 x.fMask ∧ I64 x.fClass ∧ Hid (l[k]? = some x) := by
 obtain ⟨b, off, x, cs, e, hrep, hc, hx⟩ := h.at_ hk
 obtain ⟨rfl, hMask, hClass⟩ := rObservation_rep.1 hrep
 exact ⟨b, off, x, e, hc 0 _ rfl, hc 1 _ rfl, hc 2 _ rfl, hMask, hClass, hx⟩
theorem guardObservation : Tryd.prog.eqGuardType Tryd.prog.depth 70 = false := by kernel_rfl
theorem neqObservation (x x' : ObservationD) (W : World) : (binOp .neq 70 (.agg #[.int .i64 x.fMask, .int .i64 x.fClass, .bool x.fExact]) (.agg #[.int .i64 x'.fMask, .int .i64 x'.fClass, .bool x'.fExact])).run Tryd.prog W = .ok (.bool (!decide (x = x'))) W := by
 rw [run_neq_struct, show (10000 : Nat) = 9999 + 1 from rfl, run_equalIn_struct _ _ _ _ _ (by kernel_rfl) (by kernel_rfl)]
 have hd : decide (x = x') = ((x.fMask == x'.fMask) && ((x.fClass == x'.fClass) && (x.fExact == x'.fExact))) := by
  rw [Bool.eq_iff_iff]; cases x; cases x'; simp
 rw [hd]
 by_cases h0 : x.fMask = x'.fMask <;> by_cases h1 : x.fClass = x'.fClass <;> by_cases h2 : x.fExact = x'.fExact <;> simp [go_sem, Tryd.underlying70, Tryd.underlying3, Tryd.underlying4, h0, h1, h2]
theorem eqlObservation (x x' : ObservationD) (W : World) : (binOp .eql 70 (.agg #[.int .i64 x.fMask, .int .i64 x.fClass, .bool x.fExact]) (.agg #[.int .i64 x'.fMask, .int .i64 x'.fClass, .bool x'.fExact])).run Tryd.prog W = .ok (.bool (decide (x = x'))) W := by
 rw [run_eql_struct, show (10000 : Nat) = 9999 + 1 from rfl, run_equalIn_struct _ _ _ _ _ (by kernel_rfl) (by kernel_rfl)]
 have hd : decide (x = x') = ((x.fMask == x'.fMask) && ((x.fClass == x'.fClass) && (x.fExact == x'.fExact))) := by
  rw [Bool.eq_iff_iff]; cases x; cases x'; simp
 rw [hd]
 by_cases h0 : x.fMask = x'.fMask <;> by_cases h1 : x.fClass = x'.fClass <;> by_cases h2 : x.fExact = x'.fExact <;> simp [go_sem, Tryd.underlying70, Tryd.underlying3, Tryd.underlying4, h0, h1, h2]
theorem RS.eRunNote {M M' : Nat} {w : World} {A : Option Addr} {n cap : Nat} {l : List RunNoteD} (h : RS M (rRunNote M') w A n cap l) {k : Nat} (hk : k < n) :
  ∃ b off x, A = some ⟨b, off, none⟩ ∧ w.cell? ⟨b, off + k * 5, none⟩ = some (.int .i64 x.fContour) ∧ w.cell? ⟨b, off + k * 5 + 1, none⟩ = some (.int .i64 x.fPlan) ∧ w.cell? ⟨b, off + k * 5 + 2, none⟩ = some (.int .i64 x.fBudget) ∧ w.cell? ⟨b, off + k * 5 + 3, none⟩ = some (.int .i64 x.fCost) ∧ w.cell? ⟨b, off + k * 5 + 4, none⟩ = some (.bool x.fDone) ∧ I64 x.fContour ∧ I64 x.fPlan ∧ I64 x.fBudget ∧ I64 x.fCost ∧ Hid (l[k]? = some x) := by
 obtain ⟨b, off, x, cs, e, hrep, hc, hx⟩ := h.at_ hk
 obtain ⟨rfl, hContour, hPlan, hBudget, hCost⟩ := rRunNote_rep.1 hrep
 exact ⟨b, off, x, e, hc 0 _ rfl, hc 1 _ rfl, hc 2 _ rfl, hc 3 _ rfl, hc 4 _ rfl, hContour, hPlan, hBudget, hCost, hx⟩
theorem guardRunNote : Tryd.prog.eqGuardType Tryd.prog.depth 76 = false := by kernel_rfl
theorem neqRunNote (x x' : RunNoteD) (W : World) : (binOp .neq 76 (.agg #[.int .i64 x.fContour, .int .i64 x.fPlan, .int .i64 x.fBudget, .int .i64 x.fCost, .bool x.fDone]) (.agg #[.int .i64 x'.fContour, .int .i64 x'.fPlan, .int .i64 x'.fBudget, .int .i64 x'.fCost, .bool x'.fDone])).run Tryd.prog W = .ok (.bool (!decide (x = x'))) W := by
 rw [run_neq_struct, show (10000 : Nat) = 9999 + 1 from rfl, run_equalIn_struct _ _ _ _ _ (by kernel_rfl) (by kernel_rfl)]
 have hd : decide (x = x') = ((x.fContour == x'.fContour) && ((x.fPlan == x'.fPlan) && ((x.fBudget == x'.fBudget) && ((x.fCost == x'.fCost) && (x.fDone == x'.fDone))))) := by
  rw [Bool.eq_iff_iff]; cases x; cases x'; simp
 rw [hd]
 by_cases h0 : x.fContour = x'.fContour <;> by_cases h1 : x.fPlan = x'.fPlan <;> by_cases h2 : x.fBudget = x'.fBudget <;> by_cases h3 : x.fCost = x'.fCost <;> by_cases h4 : x.fDone = x'.fDone <;> simp [go_sem, Tryd.underlying76, Tryd.underlying3, Tryd.underlying4, h0, h1, h2, h3, h4]
theorem eqlRunNote (x x' : RunNoteD) (W : World) : (binOp .eql 76 (.agg #[.int .i64 x.fContour, .int .i64 x.fPlan, .int .i64 x.fBudget, .int .i64 x.fCost, .bool x.fDone]) (.agg #[.int .i64 x'.fContour, .int .i64 x'.fPlan, .int .i64 x'.fBudget, .int .i64 x'.fCost, .bool x'.fDone])).run Tryd.prog W = .ok (.bool (decide (x = x'))) W := by
 rw [run_eql_struct, show (10000 : Nat) = 9999 + 1 from rfl, run_equalIn_struct _ _ _ _ _ (by kernel_rfl) (by kernel_rfl)]
 have hd : decide (x = x') = ((x.fContour == x'.fContour) && ((x.fPlan == x'.fPlan) && ((x.fBudget == x'.fBudget) && ((x.fCost == x'.fCost) && (x.fDone == x'.fDone))))) := by
  rw [Bool.eq_iff_iff]; cases x; cases x'; simp
 rw [hd]
 by_cases h0 : x.fContour = x'.fContour <;> by_cases h1 : x.fPlan = x'.fPlan <;> by_cases h2 : x.fBudget = x'.fBudget <;> by_cases h3 : x.fCost = x'.fCost <;> by_cases h4 : x.fDone = x'.fDone <;> simp [go_sem, Tryd.underlying76, Tryd.underlying3, Tryd.underlying4, h0, h1, h2, h3, h4]
end Go.Proofs.YtnbikckbnbgjkaaDoor
