/-
  MarkC
-/
import Derived.Test.YtbmaigkgjmkihaaGreatMark
import Derived.Test.YtbmaigkgjmkihaaGreatSz
namespace Go.Proofs.YtbmaigkgjmkihaaGreat
open Go.RowKit
set_option linter.unusedVariables false
set_option linter.unusedSimpArgs false

theorem cntS_le {α : Type} {c b : α → Nat} {l : List α} (h : ∀ x, c x ≤ 8 * (1 + b x)) : cntS c l ≤ 8 * bulkS b l := by
 unfold cntS bulkS
 induction l with
 | nil => simp
 | cons x l ih => simp only [List.map_cons, List.sum_cons, List.length_cons] at ih ⊢; have := h x; omega
theorem cntS_len {α : Type} {c : α → Nat} {l : List α} {m : Nat} (h : ∀ x, c x = m) : cntS c l = m * l.length := by
 unfold cntS
 induction l with
 | nil => simp
 | cons x l ih => simp only [List.map_cons, List.sum_cons, List.length_cons] at ih ⊢; rw [ih, h x, Nat.mul_add]; omega
theorem cntb_IntS (l : List Int) : cnt_IntS l ≤ 8 * l.length := by unfold cnt_IntS; omega
theorem cnto_IntS {w : World} {fp : List Nat} {A : Option Addr} {n cap : Nat} {l : List Int} (h : OS NB 3 rInt w fp A n cap l) : cnt_IntS l ≤ 4294967296 := by unfold cnt_IntS; rw [h.len]; exact h.nb
theorem cntb_AtomS (l : List AtomD) : cnt_AtomS l ≤ 8 * (bulkS (fun x => bulkAtom x) l) := by
 unfold cnt_AtomS; refine cntS_le fun x => ?_
 have := cntb_IntS x.fVars
 unfold cntE_Atom; simp only [bulkAtom]; omega
theorem cntb_Query (x : QueryD) : cnt_Query x ≤ 8 * bulkQuery x := by
 have := cntb_AtomS x.fAtoms
 unfold cnt_Query bulkQuery; omega
theorem cntb_Box (x : BoxD) : cnt_Box x ≤ 8 * bulkBox x := by
 have := cntb_IntS x.fLow
 have := cntb_IntS x.fHigh
 unfold cnt_Box bulkBox; omega
theorem cnto_Box {w : World} {fp : List Nat} {cs : List Value} {x : BoxD} (h : (rBox NB).own w fp cs x) : cnt_Box x ≤ 8589934592 := by
 obtain ⟨ALow, nLow, cLow, AHigh, nHigh, cHigh, fLow, fHigh, rfl, rfl, hLow, hHigh⟩ := rBox_own.1 h
 have := cnto_IntS hLow
 have := cnto_IntS hHigh
 simp only [cnt_Box]; omega
theorem cntb_CostStepS (l : List CostStepD) : cnt_CostStepS l ≤ 8 * (l.length) := by
 unfold cnt_CostStepS; rw [cntS_len (c := cntE_CostStep) (m := 2) (fun _ => rfl)]; omega
theorem cnto_CostStepS {w : World} {fp : List Nat} {A : Option Addr} {n cap : Nat} {l : List CostStepD} (h : OS NB 149 (rCostStep NB) w fp A n cap l) : cnt_CostStepS l ≤ 8589934592 := by
 have := h.len; have : n ≤ 4294967296 := h.nb; unfold cnt_CostStepS; rw [cntS_len (c := cntE_CostStep) (m := 2) (fun _ => rfl)]; omega
theorem cntb_Operator (x : OperatorD) : cnt_Operator x ≤ 8 * bulkOperator x := by
 have := cntb_CostStepS x.fSteps
 unfold cnt_Operator bulkOperator; omega
theorem cnto_Operator {w : World} {fp : List Nat} {cs : List Value} {x : OperatorD} (h : (rOperator NB).own w fp cs x) : cnt_Operator x ≤ 8589934592 := by
 obtain ⟨ASteps, nSteps, cSteps, fSteps, rfl, rfl, hFixed, hPerLeft, hPerRight, hPerOutput, hPerPair, hSteps⟩ := rOperator_own.1 h
 have := cnto_CostStepS hSteps
 simp only [cnt_Operator]; omega
theorem cntb_Model (x : ModelD) : cnt_Model x ≤ 8 * bulkModel x := by
 have := cntb_Operator x.fScan
 have := cntb_Operator x.fSort
 have := cntb_Operator x.fHash
 have := cntb_Operator x.fMerge
 have := cntb_Operator x.fNested
 unfold cnt_Model bulkModel; omega
theorem cnto_Model {w : World} {fp : List Nat} {cs : List Value} {x : ModelD} (h : (rModel NB).own w fp cs x) : cnt_Model x ≤ 42949672960 := by
 obtain ⟨AScanSteps, nScanSteps, cScanSteps, ASortSteps, nSortSteps, cSortSteps, AHashSteps, nHashSteps, cHashSteps, AMergeSteps, nMergeSteps, cMergeSteps, ANestedSteps, nNestedSteps, cNestedSteps, fScanSteps, fSortSteps, fHashSteps, fMergeSteps, fNestedSteps, rfl, rfl, hScanFixed, hScanPerLeft, hScanPerRight, hScanPerOutput, hScanPerPair, hScanSteps, hSortFixed, hSortPerLeft, hSortPerRight, hSortPerOutput, hSortPerPair, hSortSteps, hHashFixed, hHashPerLeft, hHashPerRight, hHashPerOutput, hHashPerPair, hHashSteps, hMergeFixed, hMergePerLeft, hMergePerRight, hMergePerOutput, hMergePerPair, hMergeSteps, hNestedFixed, hNestedPerLeft, hNestedPerRight, hNestedPerOutput, hNestedPerPair, hNestedSteps⟩ := rModel_own.1 h
 have := cnto_CostStepS hScanSteps
 have := cnto_CostStepS hSortSteps
 have := cnto_CostStepS hHashSteps
 have := cnto_CostStepS hMergeSteps
 have := cnto_CostStepS hNestedSteps
 simp only [cnt_Model, cnt_Operator]; omega
theorem cntb_PlanStepS (l : List PlanStepD) : cnt_PlanStepS l ≤ 8 * (l.length) := by
 unfold cnt_PlanStepS; rw [cntS_len (c := cntE_PlanStep) (m := 3) (fun _ => rfl)]; omega
theorem cnto_PlanStepS {w : World} {fp : List Nat} {A : Option Addr} {n cap : Nat} {l : List PlanStepD} (h : OS NB 170 (rPlanStep NB) w fp A n cap l) : cnt_PlanStepS l ≤ 12884901888 := by
 have := h.len; have : n ≤ 4294967296 := h.nb; unfold cnt_PlanStepS; rw [cntS_len (c := cntE_PlanStep) (m := 3) (fun _ => rfl)]; omega
theorem cntb_PlanS (l : List PlanD) : cnt_PlanS l ≤ 8 * (bulkS (fun x => bulkPlan x) l) := by
 unfold cnt_PlanS; refine cntS_le fun x => ?_
 have := cntb_PlanStepS x.fSteps
 unfold cntE_Plan; simp only [bulkPlan]; omega
theorem cntb_Space (x : SpaceD) : cnt_Space x ≤ 8 * bulkSpace x := by
 have := cntb_Box x.fBox
 have := cntb_IntS x.fCosts
 have := cntb_IntS x.fChoices
 have := cntb_PlanS x.fPlans
 unfold cnt_Space bulkSpace; omega
end Go.Proofs.YtbmaigkgjmkihaaGreat
