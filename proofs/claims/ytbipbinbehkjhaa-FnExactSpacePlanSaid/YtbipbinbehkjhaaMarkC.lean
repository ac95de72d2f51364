/-
  How much is marked: bounds. Printed by genmark.py.
-/
import Derived.Test.YtbipbinbehkjhaaMark
import Derived.Test.YtbipbinbehkjhaaSz
namespace Go.Proofs.Ytbipbinbehkjhaa
open Go.RowKit
set_option linter.unusedVariables false
set_option linter.unusedSimpArgs false

theorem cntS_le {α : Type} {c b : α → Nat} {l : List α} (h : ∀ x, c x ≤ 8 * (1 + b x)) : cntS c l ≤ 8 * bulkS b l := by
  unfold cntS bulkS
  induction l with
  | nil => simp
  | cons x l ih => simp only [List.map_cons, List.sum_cons, List.length_cons] at ih ⊢; have := h x; omega
theorem cntS_len {α : Type} {c : α → Nat} {l : List α} {m : Nat} (h : ∀ x, c x = m) : cntS c l = m * l.length := by
  unfold cntS
  induction l with
  | nil => simp
  | cons x l ih => simp only [List.map_cons, List.sum_cons, List.length_cons] at ih ⊢; rw [ih, h x, Nat.mul_add]; omega
theorem cntb_IntS (l : List Int) : cnt_IntS l ≤ 8 * l.length := by unfold cnt_IntS; omega
theorem cnto_IntS {w : World} {fp : List Nat} {A : Option Addr} {n cap : Nat} {l : List Int} (h : OS NB 3 rInt w fp A n cap l) : cnt_IntS l ≤ 4294967296 := by unfold cnt_IntS; rw [h.len]; exact h.nb
theorem cntb_Box (x : BoxD) : cnt_Box x ≤ 8 * bulkBox x := by
  have := cntb_IntS x.fLow
  have := cntb_IntS x.fHigh
  unfold cnt_Box bulkBox; omega
theorem cnto_Box {w : World} {fp : List Nat} {cs : List Value} {x : BoxD} (h : (rBox NB).own w fp cs x) : cnt_Box x ≤ 8589934592 := by
  obtain ⟨ALow, nLow, cLow, AHigh, nHigh, cHigh, fLow, fHigh, rfl, rfl, hLow, hHigh⟩ := rBox_own.1 h
  have := cnto_IntS hLow
  have := cnto_IntS hHigh
  simp only [cnt_Box]; omega
theorem cntb_PlanStepS (l : List PlanStepD) : cnt_PlanStepS l ≤ 8 * (l.length) := by
  unfold cnt_PlanStepS; rw [cntS_len (c := cntE_PlanStep) (m := 3) (fun _ => rfl)]; omega
theorem cnto_PlanStepS {w : World} {fp : List Nat} {A : Option Addr} {n cap : Nat} {l : List PlanStepD} (h : OS NB 158 (rPlanStep NB) w fp A n cap l) : cnt_PlanStepS l ≤ 12884901888 := by
  have := h.len; have : n ≤ 4294967296 := h.nb; unfold cnt_PlanStepS; rw [cntS_len (c := cntE_PlanStep) (m := 3) (fun _ => rfl)]; omega
theorem cntb_Plan (x : PlanD) : cnt_Plan x ≤ 8 * bulkPlan x := by
  have := cntb_PlanStepS x.fSteps
  unfold cnt_Plan bulkPlan; omega
theorem cnto_Plan {w : World} {fp : List Nat} {cs : List Value} {x : PlanD} (h : (rPlan NB).own w fp cs x) : cnt_Plan x ≤ 12884901888 := by
  obtain ⟨ASteps, nSteps, cSteps, fSteps, rfl, rfl, hSteps⟩ := rPlan_own.1 h
  have := cnto_PlanStepS hSteps
  simp only [cnt_Plan]; omega
theorem cntb_PlanS (l : List PlanD) : cnt_PlanS l ≤ 8 * (bulkS (fun x => bulkPlan x) l) := by
  unfold cnt_PlanS; refine cntS_le fun x => ?_
  have := cntb_PlanStepS x.fSteps
  unfold cntE_Plan; simp only [bulkPlan]; omega
theorem cntb_Space (x : SpaceD) : cnt_Space x ≤ 8 * bulkSpace x := by
  have := cntb_Box x.fBox
  have := cntb_IntS x.fCosts
  have := cntb_IntS x.fChoices
  have := cntb_PlanS x.fPlans
  unfold cnt_Space bulkSpace; omega
end Go.Proofs.Ytbipbinbehkjhaa
