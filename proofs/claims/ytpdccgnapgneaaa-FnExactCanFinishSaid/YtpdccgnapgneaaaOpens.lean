/-
  From the statement's reading of the laws' arguments to the words of Base; small arguments. Printed by gen.py.
-/
import Derived.Test.YtpdccgnapgneaaaSz
import Derived.Test.YtpdccgnapgneaaaOpen
namespace Go.Proofs.Ytpdccgnapgneaaa
open Go.RowKit Go.Deep Go.ChangeShapes Go.WideShapes
set_option linter.unusedVariables false
set_option linter.unusedSimpArgs false

theorem smallIntS {w : World} {A : Option Addr} {n cap : Nat} {l : List Int} (h : RS maxLen rInt w A n cap l) (hb : l.length ≤ 1048576) : RS NB rInt w A n cap l := by
  have hl := h.len
  refine ⟨h.len, by unfold NB; omega, h.nc, fun hn => ?_⟩
  obtain ⟨b, off, e, hc⟩ := h.cell hn
  refine ⟨b, off, e, fun j x hj => ?_⟩
  obtain ⟨cs, h1, h2⟩ := hc j x hj
  exact ⟨cs, h1, h2⟩
theorem smallAtom {w : World} {cs : List Value} {x : AtomD} (h : (rAtom maxLen).rep w cs x) (hb : bulkAtom x ≤ 1048576) : (rAtom NB).rep w cs x := by
  obtain ⟨AVars, nVars, cVars, rfl, hName, hVars⟩ := rAtom_rep.1 h
  simp only [bulkAtom] at hb
  exact rAtom_rep.2 ⟨AVars, nVars, cVars, rfl, (by unfold NB; omega), (smallIntS hVars (by omega))⟩
theorem smallAtomS {w : World} {A : Option Addr} {n cap : Nat} {l : List AtomD} (h : RS maxLen (rAtom maxLen) w A n cap l) (hb : bulkS (fun x => bulkAtom x) l ≤ 1048576) : RS NB (rAtom NB) w A n cap l := by
  have hl := h.len
  unfold bulkS at hb
  refine ⟨h.len, by unfold NB; omega, h.nc, fun hn => ?_⟩
  obtain ⟨b, off, e, hc⟩ := h.cell hn
  refine ⟨b, off, e, fun j x hj => ?_⟩
  obtain ⟨cs, h1, h2⟩ := hc j x hj
  have e1 := sum_ge (fun x => bulkAtom x) hj
  exact ⟨cs, smallAtom h1 (by omega), h2⟩
theorem smallQuery {w : World} {cs : List Value} {x : QueryD} (h : (rQuery maxLen).rep w cs x) (hb : bulkQuery x ≤ 1048576) : (rQuery NB).rep w cs x := by
  obtain ⟨AAtoms, nAtoms, cAtoms, rfl, hVariableCount, hAtoms⟩ := rQuery_rep.1 h
  simp only [bulkQuery] at hb
  exact rQuery_rep.2 ⟨AAtoms, nAtoms, cAtoms, rfl, hVariableCount, (smallAtomS hAtoms (by omega))⟩
theorem smallBox {w : World} {cs : List Value} {x : BoxD} (h : (rBox maxLen).rep w cs x) (hb : bulkBox x ≤ 1048576) : (rBox NB).rep w cs x := by
  obtain ⟨ALow, nLow, cLow, AHigh, nHigh, cHigh, rfl, hLow, hHigh⟩ := rBox_rep.1 h
  simp only [bulkBox] at hb
  exact rBox_rep.2 ⟨ALow, nLow, cLow, AHigh, nHigh, cHigh, rfl, (smallIntS hLow (by omega)), (smallIntS hHigh (by omega))⟩
theorem smallCostStep {w : World} {cs : List Value} {x : CostStepD} (h : (rCostStep maxLen).rep w cs x) : (rCostStep NB).rep w cs x := by
  exact rCostStep_rep.2 (rCostStep_rep.1 h)
theorem smallCostStepS {w : World} {A : Option Addr} {n cap : Nat} {l : List CostStepD} (h : RS maxLen (rCostStep maxLen) w A n cap l) (hb : l.length ≤ 1048576) : RS NB (rCostStep NB) w A n cap l := by
  have hl := h.len
  refine ⟨h.len, by unfold NB; omega, h.nc, fun hn => ?_⟩
  obtain ⟨b, off, e, hc⟩ := h.cell hn
  refine ⟨b, off, e, fun j x hj => ?_⟩
  obtain ⟨cs, h1, h2⟩ := hc j x hj
  exact ⟨cs, smallCostStep h1, h2⟩
theorem smallOperator {w : World} {cs : List Value} {x : OperatorD} (h : (rOperator maxLen).rep w cs x) (hb : bulkOperator x ≤ 1048576) : (rOperator NB).rep w cs x := by
  obtain ⟨ASteps, nSteps, cSteps, rfl, hFixed, hPerLeft, hPerRight, hPerOutput, hPerPair, hSteps⟩ := rOperator_rep.1 h
  simp only [bulkOperator] at hb
  exact rOperator_rep.2 ⟨ASteps, nSteps, cSteps, rfl, hFixed, hPerLeft, hPerRight, hPerOutput, hPerPair, (smallCostStepS hSteps (by omega))⟩
theorem smallModel {w : World} {cs : List Value} {x : ModelD} (h : (rModel maxLen).rep w cs x) (hb : bulkModel x ≤ 1048576) : (rModel NB).rep w cs x := by
  obtain ⟨AScanSteps, nScanSteps, cScanSteps, ASortSteps, nSortSteps, cSortSteps, AHashSteps, nHashSteps, cHashSteps, AMergeSteps, nMergeSteps, cMergeSteps, ANestedSteps, nNestedSteps, cNestedSteps, rfl, hScanFixed, hScanPerLeft, hScanPerRight, hScanPerOutput, hScanPerPair, hScanSteps, hSortFixed, hSortPerLeft, hSortPerRight, hSortPerOutput, hSortPerPair, hSortSteps, hHashFixed, hHashPerLeft, hHashPerRight, hHashPerOutput, hHashPerPair, hHashSteps, hMergeFixed, hMergePerLeft, hMergePerRight, hMergePerOutput, hMergePerPair, hMergeSteps, hNestedFixed, hNestedPerLeft, hNestedPerRight, hNestedPerOutput, hNestedPerPair, hNestedSteps⟩ := rModel_rep.1 h
  simp only [bulkModel, bulkOperator] at hb
  exact rModel_rep.2 ⟨AScanSteps, nScanSteps, cScanSteps, ASortSteps, nSortSteps, cSortSteps, AHashSteps, nHashSteps, cHashSteps, AMergeSteps, nMergeSteps, cMergeSteps, ANestedSteps, nNestedSteps, cNestedSteps, rfl, hScanFixed, hScanPerLeft, hScanPerRight, hScanPerOutput, hScanPerPair, (smallCostStepS hScanSteps (by omega)), hSortFixed, hSortPerLeft, hSortPerRight, hSortPerOutput, hSortPerPair, (smallCostStepS hSortSteps (by omega)), hHashFixed, hHashPerLeft, hHashPerRight, hHashPerOutput, hHashPerPair, (smallCostStepS hHashSteps (by omega)), hMergeFixed, hMergePerLeft, hMergePerRight, hMergePerOutput, hMergePerPair, (smallCostStepS hMergeSteps (by omega)), hNestedFixed, hNestedPerLeft, hNestedPerRight, hNestedPerOutput, hNestedPerPair, (smallCostStepS hNestedSteps (by omega))⟩
theorem smallPlanStep {w : World} {cs : List Value} {x : PlanStepD} (h : (rPlanStep maxLen).rep w cs x) : (rPlanStep NB).rep w cs x := by
  exact rPlanStep_rep.2 (rPlanStep_rep.1 h)
theorem smallPlanStepS {w : World} {A : Option Addr} {n cap : Nat} {l : List PlanStepD} (h : RS maxLen (rPlanStep maxLen) w A n cap l) (hb : l.length ≤ 1048576) : RS NB (rPlanStep NB) w A n cap l := by
  have hl := h.len
  refine ⟨h.len, by unfold NB; omega, h.nc, fun hn => ?_⟩
  obtain ⟨b, off, e, hc⟩ := h.cell hn
  refine ⟨b, off, e, fun j x hj => ?_⟩
  obtain ⟨cs, h1, h2⟩ := hc j x hj
  exact ⟨cs, smallPlanStep h1, h2⟩
theorem smallPlan {w : World} {cs : List Value} {x : PlanD} (h : (rPlan maxLen).rep w cs x) (hb : bulkPlan x ≤ 1048576) : (rPlan NB).rep w cs x := by
  obtain ⟨ASteps, nSteps, cSteps, rfl, hSteps⟩ := rPlan_rep.1 h
  simp only [bulkPlan] at hb
  exact rPlan_rep.2 ⟨ASteps, nSteps, cSteps, rfl, (smallPlanStepS hSteps (by omega))⟩
theorem opensAtom : Opens Try.prog 116 (rAtom maxLen) := by
  intro H enc w base spare held fuel cs x h
  obtain ⟨xs, n, rfl, _, hlen, hxl, hf⟩ := DataW.trod_struct Try.underlying116 h
  have e0 : (Try.prog.cellsOf 9) = 1 := by kernel_rfl
  have f0 : DataW.trod enc Try.prog w base spare held n 9 ((cs.drop 0).take 1) = xs[0]? := (congrArg (fun k => DataW.trod enc Try.prog w base spare held n 9 ((cs.drop 0).take k)) e0.symm).trans (hf 0 _ rfl)
  obtain ⟨y0, g0⟩ := opens_field (opens_str Try.underlying9) (i := 0) (by rw [hxl]; decide) f0
  have e1 : (Try.prog.cellsOf 24) = 1 := by kernel_rfl
  have f1 : DataW.trod enc Try.prog w base spare held n 24 ((cs.drop 1).take 1) = xs[1]? := (congrArg (fun k => DataW.trod enc Try.prog w base spare held n 24 ((cs.drop 1).take k)) e1.symm).trans (hf 1 _ rfl)
  obtain ⟨y1, g1⟩ := opens_field (opens_slice rInt_ok Try.underlying24 (by kernel_rfl) (opens_int Try.underlying3)) (i := 1) (by rw [hxl]; decide) f1
  have hl : cs.length = 2 := hlen.trans (by kernel_rfl)
  refine ⟨⟨y0, y1⟩, ?_⟩
  have t1 : (rSlice maxLen 3 rInt).rep w (cs.drop 1) y1 := by rw [List.take_of_length_le (by rw [List.length_drop, hl]; decide)] at g1; exact g1
  have t0 : (rPair (rStr maxLen) ((rSlice maxLen 3 rInt))).rep w (cs.drop 0) (y0, y1) := rPair_split 1 g0 (by rw [List.drop_drop]; exact t1)
  exact t0
theorem opensQuery : Opens Try.prog 52 (rQuery maxLen) := by
  intro H enc w base spare held fuel cs x h
  obtain ⟨xs, n, rfl, _, hlen, hxl, hf⟩ := DataW.trod_struct Try.underlying52 h
  have e0 : (Try.prog.cellsOf 3) = 1 := by kernel_rfl
  have f0 : DataW.trod enc Try.prog w base spare held n 3 ((cs.drop 0).take 1) = xs[0]? := (congrArg (fun k => DataW.trod enc Try.prog w base spare held n 3 ((cs.drop 0).take k)) e0.symm).trans (hf 0 _ rfl)
  obtain ⟨y0, g0⟩ := opens_field (opens_int Try.underlying3) (i := 0) (by rw [hxl]; decide) f0
  have e1 : (Try.prog.cellsOf 50) = 1 := by kernel_rfl
  have f1 : DataW.trod enc Try.prog w base spare held n 50 ((cs.drop 1).take 1) = xs[1]? := (congrArg (fun k => DataW.trod enc Try.prog w base spare held n 50 ((cs.drop 1).take k)) e1.symm).trans (hf 1 _ rfl)
  obtain ⟨y1, g1⟩ := opens_field (opens_slice (rAtom_ok maxLen) Try.underlying50 (by kernel_rfl) opensAtom) (i := 1) (by rw [hxl]; decide) f1
  have hl : cs.length = 2 := hlen.trans (by kernel_rfl)
  refine ⟨⟨y0, y1⟩, ?_⟩
  have t1 : (rSlice maxLen 124 (rAtom maxLen)).rep w (cs.drop 1) y1 := by rw [List.take_of_length_le (by rw [List.length_drop, hl]; decide)] at g1; exact g1
  have t0 : (rPair rInt ((rSlice maxLen 124 (rAtom maxLen)))).rep w (cs.drop 0) (y0, y1) := rPair_split 1 g0 (by rw [List.drop_drop]; exact t1)
  exact t0
theorem opensBox : Opens Try.prog 56 (rBox maxLen) := by
  intro H enc w base spare held fuel cs x h
  obtain ⟨xs, n, rfl, _, hlen, hxl, hf⟩ := DataW.trod_struct Try.underlying56 h
  have e0 : (Try.prog.cellsOf 24) = 1 := by kernel_rfl
  have f0 : DataW.trod enc Try.prog w base spare held n 24 ((cs.drop 0).take 1) = xs[0]? := (congrArg (fun k => DataW.trod enc Try.prog w base spare held n 24 ((cs.drop 0).take k)) e0.symm).trans (hf 0 _ rfl)
  obtain ⟨y0, g0⟩ := opens_field (opens_slice rInt_ok Try.underlying24 (by kernel_rfl) (opens_int Try.underlying3)) (i := 0) (by rw [hxl]; decide) f0
  have e1 : (Try.prog.cellsOf 24) = 1 := by kernel_rfl
  have f1 : DataW.trod enc Try.prog w base spare held n 24 ((cs.drop 1).take 1) = xs[1]? := (congrArg (fun k => DataW.trod enc Try.prog w base spare held n 24 ((cs.drop 1).take k)) e1.symm).trans (hf 1 _ rfl)
  obtain ⟨y1, g1⟩ := opens_field (opens_slice rInt_ok Try.underlying24 (by kernel_rfl) (opens_int Try.underlying3)) (i := 1) (by rw [hxl]; decide) f1
  have hl : cs.length = 2 := hlen.trans (by kernel_rfl)
  refine ⟨⟨y0, y1⟩, ?_⟩
  have t1 : (rSlice maxLen 3 rInt).rep w (cs.drop 1) y1 := by rw [List.take_of_length_le (by rw [List.length_drop, hl]; decide)] at g1; exact g1
  have t0 : (rPair (rSlice maxLen 3 rInt) ((rSlice maxLen 3 rInt))).rep w (cs.drop 0) (y0, y1) := rPair_split 1 g0 (by rw [List.drop_drop]; exact t1)
  exact t0
theorem opensCostStep : Opens Try.prog 150 (rCostStep maxLen) := by
  intro H enc w base spare held fuel cs x h
  obtain ⟨xs, n, rfl, _, hlen, hxl, hf⟩ := DataW.trod_struct Try.underlying150 h
  have e0 : (Try.prog.cellsOf 3) = 1 := by kernel_rfl
  have f0 : DataW.trod enc Try.prog w base spare held n 3 ((cs.drop 0).take 1) = xs[0]? := (congrArg (fun k => DataW.trod enc Try.prog w base spare held n 3 ((cs.drop 0).take k)) e0.symm).trans (hf 0 _ rfl)
  obtain ⟨y0, g0⟩ := opens_field (opens_int Try.underlying3) (i := 0) (by rw [hxl]; decide) f0
  have e1 : (Try.prog.cellsOf 3) = 1 := by kernel_rfl
  have f1 : DataW.trod enc Try.prog w base spare held n 3 ((cs.drop 1).take 1) = xs[1]? := (congrArg (fun k => DataW.trod enc Try.prog w base spare held n 3 ((cs.drop 1).take k)) e1.symm).trans (hf 1 _ rfl)
  obtain ⟨y1, g1⟩ := opens_field (opens_int Try.underlying3) (i := 1) (by rw [hxl]; decide) f1
  have hl : cs.length = 2 := hlen.trans (by kernel_rfl)
  refine ⟨⟨y0, y1⟩, ?_⟩
  have t1 : rInt.rep w (cs.drop 1) y1 := by rw [List.take_of_length_le (by rw [List.length_drop, hl]; decide)] at g1; exact g1
  have t0 : (rPair rInt (rInt)).rep w (cs.drop 0) (y0, y1) := rPair_split 1 g0 (by rw [List.drop_drop]; exact t1)
  exact t0
theorem opensOperator : Opens Try.prog 47 (rOperator maxLen) := by
  intro H enc w base spare held fuel cs x h
  obtain ⟨xs, n, rfl, _, hlen, hxl, hf⟩ := DataW.trod_struct Try.underlying47 h
  have e0 : (Try.prog.cellsOf 3) = 1 := by kernel_rfl
  have f0 : DataW.trod enc Try.prog w base spare held n 3 ((cs.drop 0).take 1) = xs[0]? := (congrArg (fun k => DataW.trod enc Try.prog w base spare held n 3 ((cs.drop 0).take k)) e0.symm).trans (hf 0 _ rfl)
  obtain ⟨y0, g0⟩ := opens_field (opens_int Try.underlying3) (i := 0) (by rw [hxl]; decide) f0
  have e1 : (Try.prog.cellsOf 3) = 1 := by kernel_rfl
  have f1 : DataW.trod enc Try.prog w base spare held n 3 ((cs.drop 1).take 1) = xs[1]? := (congrArg (fun k => DataW.trod enc Try.prog w base spare held n 3 ((cs.drop 1).take k)) e1.symm).trans (hf 1 _ rfl)
  obtain ⟨y1, g1⟩ := opens_field (opens_int Try.underlying3) (i := 1) (by rw [hxl]; decide) f1
  have e2 : (Try.prog.cellsOf 3) = 1 := by kernel_rfl
  have f2 : DataW.trod enc Try.prog w base spare held n 3 ((cs.drop 2).take 1) = xs[2]? := (congrArg (fun k => DataW.trod enc Try.prog w base spare held n 3 ((cs.drop 2).take k)) e2.symm).trans (hf 2 _ rfl)
  obtain ⟨y2, g2⟩ := opens_field (opens_int Try.underlying3) (i := 2) (by rw [hxl]; decide) f2
  have e3 : (Try.prog.cellsOf 3) = 1 := by kernel_rfl
  have f3 : DataW.trod enc Try.prog w base spare held n 3 ((cs.drop 3).take 1) = xs[3]? := (congrArg (fun k => DataW.trod enc Try.prog w base spare held n 3 ((cs.drop 3).take k)) e3.symm).trans (hf 3 _ rfl)
  obtain ⟨y3, g3⟩ := opens_field (opens_int Try.underlying3) (i := 3) (by rw [hxl]; decide) f3
  have e4 : (Try.prog.cellsOf 3) = 1 := by kernel_rfl
  have f4 : DataW.trod enc Try.prog w base spare held n 3 ((cs.drop 4).take 1) = xs[4]? := (congrArg (fun k => DataW.trod enc Try.prog w base spare held n 3 ((cs.drop 4).take k)) e4.symm).trans (hf 4 _ rfl)
  obtain ⟨y4, g4⟩ := opens_field (opens_int Try.underlying3) (i := 4) (by rw [hxl]; decide) f4
  have e5 : (Try.prog.cellsOf 45) = 1 := by kernel_rfl
  have f5 : DataW.trod enc Try.prog w base spare held n 45 ((cs.drop 5).take 1) = xs[5]? := (congrArg (fun k => DataW.trod enc Try.prog w base spare held n 45 ((cs.drop 5).take k)) e5.symm).trans (hf 5 _ rfl)
  obtain ⟨y5, g5⟩ := opens_field (opens_slice (rCostStep_ok maxLen) Try.underlying45 (by kernel_rfl) opensCostStep) (i := 5) (by rw [hxl]; decide) f5
  have hl : cs.length = 6 := hlen.trans (by kernel_rfl)
  refine ⟨⟨y0, y1, y2, y3, y4, y5⟩, ?_⟩
  have t5 : (rSlice maxLen 148 (rCostStep maxLen)).rep w (cs.drop 5) y5 := by rw [List.take_of_length_le (by rw [List.length_drop, hl]; decide)] at g5; exact g5
  have t4 : (rPair rInt ((rSlice maxLen 148 (rCostStep maxLen)))).rep w (cs.drop 4) (y4, y5) := rPair_split 1 g4 (by rw [List.drop_drop]; exact t5)
  have t3 : (rPair rInt (rPair rInt ((rSlice maxLen 148 (rCostStep maxLen))))).rep w (cs.drop 3) (y3, y4, y5) := rPair_split 1 g3 (by rw [List.drop_drop]; exact t4)
  have t2 : (rPair rInt (rPair rInt (rPair rInt ((rSlice maxLen 148 (rCostStep maxLen)))))).rep w (cs.drop 2) (y2, y3, y4, y5) := rPair_split 1 g2 (by rw [List.drop_drop]; exact t3)
  have t1 : (rPair rInt (rPair rInt (rPair rInt (rPair rInt ((rSlice maxLen 148 (rCostStep maxLen))))))).rep w (cs.drop 1) (y1, y2, y3, y4, y5) := rPair_split 1 g1 (by rw [List.drop_drop]; exact t2)
  have t0 : (rPair rInt (rPair rInt (rPair rInt (rPair rInt (rPair rInt ((rSlice maxLen 148 (rCostStep maxLen)))))))).rep w (cs.drop 0) (y0, y1, y2, y3, y4, y5) := rPair_split 1 g0 (by rw [List.drop_drop]; exact t1)
  exact t0
theorem opensModel : Opens Try.prog 49 (rModel maxLen) := by
  intro H enc w base spare held fuel cs x h
  obtain ⟨xs, n, rfl, _, hlen, hxl, hf⟩ := DataW.trod_struct Try.underlying49 h
  have e0 : (Try.prog.cellsOf 47) = 6 := by kernel_rfl
  have f0 : DataW.trod enc Try.prog w base spare held n 47 ((cs.drop 0).take 6) = xs[0]? := (congrArg (fun k => DataW.trod enc Try.prog w base spare held n 47 ((cs.drop 0).take k)) e0.symm).trans (hf 0 _ rfl)
  obtain ⟨y0, g0⟩ := opens_field opensOperator (i := 0) (by rw [hxl]; decide) f0
  have e1 : (Try.prog.cellsOf 47) = 6 := by kernel_rfl
  have f1 : DataW.trod enc Try.prog w base spare held n 47 ((cs.drop 6).take 6) = xs[1]? := (congrArg (fun k => DataW.trod enc Try.prog w base spare held n 47 ((cs.drop 6).take k)) e1.symm).trans (hf 1 _ rfl)
  obtain ⟨y1, g1⟩ := opens_field opensOperator (i := 1) (by rw [hxl]; decide) f1
  have e2 : (Try.prog.cellsOf 47) = 6 := by kernel_rfl
  have f2 : DataW.trod enc Try.prog w base spare held n 47 ((cs.drop 12).take 6) = xs[2]? := (congrArg (fun k => DataW.trod enc Try.prog w base spare held n 47 ((cs.drop 12).take k)) e2.symm).trans (hf 2 _ rfl)
  obtain ⟨y2, g2⟩ := opens_field opensOperator (i := 2) (by rw [hxl]; decide) f2
  have e3 : (Try.prog.cellsOf 47) = 6 := by kernel_rfl
  have f3 : DataW.trod enc Try.prog w base spare held n 47 ((cs.drop 18).take 6) = xs[3]? := (congrArg (fun k => DataW.trod enc Try.prog w base spare held n 47 ((cs.drop 18).take k)) e3.symm).trans (hf 3 _ rfl)
  obtain ⟨y3, g3⟩ := opens_field opensOperator (i := 3) (by rw [hxl]; decide) f3
  have e4 : (Try.prog.cellsOf 47) = 6 := by kernel_rfl
  have f4 : DataW.trod enc Try.prog w base spare held n 47 ((cs.drop 24).take 6) = xs[4]? := (congrArg (fun k => DataW.trod enc Try.prog w base spare held n 47 ((cs.drop 24).take k)) e4.symm).trans (hf 4 _ rfl)
  obtain ⟨y4, g4⟩ := opens_field opensOperator (i := 4) (by rw [hxl]; decide) f4
  have hl : cs.length = 30 := hlen.trans (by kernel_rfl)
  refine ⟨⟨y0, y1, y2, y3, y4⟩, ?_⟩
  have t4 : (rOperator maxLen).rep w (cs.drop 24) y4 := by rw [List.take_of_length_le (by rw [List.length_drop, hl]; decide)] at g4; exact g4
  have t3 : (rPair (rOperator maxLen) ((rOperator maxLen))).rep w (cs.drop 18) (y3, y4) := rPair_split 6 g3 (by rw [List.drop_drop]; exact t4)
  have t2 : (rPair (rOperator maxLen) (rPair (rOperator maxLen) ((rOperator maxLen)))).rep w (cs.drop 12) (y2, y3, y4) := rPair_split 6 g2 (by rw [List.drop_drop]; exact t3)
  have t1 : (rPair (rOperator maxLen) (rPair (rOperator maxLen) (rPair (rOperator maxLen) ((rOperator maxLen))))).rep w (cs.drop 6) (y1, y2, y3, y4) := rPair_split 6 g1 (by rw [List.drop_drop]; exact t2)
  have t0 : (rPair (rOperator maxLen) (rPair (rOperator maxLen) (rPair (rOperator maxLen) (rPair (rOperator maxLen) ((rOperator maxLen)))))).rep w (cs.drop 0) (y0, y1, y2, y3, y4) := rPair_split 6 g0 (by rw [List.drop_drop]; exact t1)
  exact t0
theorem opensPlanStep : Opens Try.prog 129 (rPlanStep maxLen) := by
  intro H enc w base spare held fuel cs x h
  obtain ⟨xs, n, rfl, _, hlen, hxl, hf⟩ := DataW.trod_struct Try.underlying129 h
  have e0 : (Try.prog.cellsOf 3) = 1 := by kernel_rfl
  have f0 : DataW.trod enc Try.prog w base spare held n 3 ((cs.drop 0).take 1) = xs[0]? := (congrArg (fun k => DataW.trod enc Try.prog w base spare held n 3 ((cs.drop 0).take k)) e0.symm).trans (hf 0 _ rfl)
  obtain ⟨y0, g0⟩ := opens_field (opens_int Try.underlying3) (i := 0) (by rw [hxl]; decide) f0
  have e1 : (Try.prog.cellsOf 3) = 1 := by kernel_rfl
  have f1 : DataW.trod enc Try.prog w base spare held n 3 ((cs.drop 1).take 1) = xs[1]? := (congrArg (fun k => DataW.trod enc Try.prog w base spare held n 3 ((cs.drop 1).take k)) e1.symm).trans (hf 1 _ rfl)
  obtain ⟨y1, g1⟩ := opens_field (opens_int Try.underlying3) (i := 1) (by rw [hxl]; decide) f1
  have e2 : (Try.prog.cellsOf 3) = 1 := by kernel_rfl
  have f2 : DataW.trod enc Try.prog w base spare held n 3 ((cs.drop 2).take 1) = xs[2]? := (congrArg (fun k => DataW.trod enc Try.prog w base spare held n 3 ((cs.drop 2).take k)) e2.symm).trans (hf 2 _ rfl)
  obtain ⟨y2, g2⟩ := opens_field (opens_int Try.underlying3) (i := 2) (by rw [hxl]; decide) f2
  have hl : cs.length = 3 := hlen.trans (by kernel_rfl)
  refine ⟨⟨y0, y1, y2⟩, ?_⟩
  have t2 : rInt.rep w (cs.drop 2) y2 := by rw [List.take_of_length_le (by rw [List.length_drop, hl]; decide)] at g2; exact g2
  have t1 : (rPair rInt (rInt)).rep w (cs.drop 1) (y1, y2) := rPair_split 1 g1 (by rw [List.drop_drop]; exact t2)
  have t0 : (rPair rInt (rPair rInt (rInt))).rep w (cs.drop 0) (y0, y1, y2) := rPair_split 1 g0 (by rw [List.drop_drop]; exact t1)
  exact t0
theorem opensPlan : Opens Try.prog 55 (rPlan maxLen) := by
  intro H enc w base spare held fuel cs x h
  obtain ⟨xs, n, rfl, _, hlen, hxl, hf⟩ := DataW.trod_struct Try.underlying55 h
  have e0 : (Try.prog.cellsOf 53) = 1 := by kernel_rfl
  have f0 : DataW.trod enc Try.prog w base spare held n 53 ((cs.drop 0).take 1) = xs[0]? := (congrArg (fun k => DataW.trod enc Try.prog w base spare held n 53 ((cs.drop 0).take k)) e0.symm).trans (hf 0 _ rfl)
  obtain ⟨y0, g0⟩ := opens_field (opens_slice (rPlanStep_ok maxLen) Try.underlying53 (by kernel_rfl) opensPlanStep) (i := 0) (by rw [hxl]; decide) f0
  have hl : cs.length = 1 := hlen.trans (by kernel_rfl)
  refine ⟨⟨y0⟩, ?_⟩
  show (rSlice maxLen 127 (rPlanStep maxLen)).rep w cs y0
  rw [List.drop_zero, List.take_of_length_le (by rw [hl]; decide)] at g0
  exact g0
end Go.Proofs.Ytpdccgnapgneaaa
