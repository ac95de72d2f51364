/-
  Sz
-/
import Derived.Test.YtnbikckbnbgjkaaDoorTypes
namespace Go.Proofs.YtnbikckbnbgjkaaDoor
open Go.RowKit
set_option linter.unusedVariables false
set_option linter.unusedSimpArgs false

/-- a slice counts its elements, and what they count -/
def bulkS {α : Type} (f : α → Nat) (l : List α) : Nat := l.length + (l.map f).sum
theorem sum_ge {α : Type} (f : α → Nat) {l : List α} {k : Nat} {x : α} (h : l[k]? = some x) : ((l.take k).map f).sum + f x ≤ (l.map f).sum := by
 have e : l.map f = (l.take (k + 1)).map f ++ (l.drop (k + 1)).map f := by rw [← List.map_append, List.take_append_drop]
 rw [e, List.sum_append, take_snoc h, List.map_append, List.sum_append]; simp only [List.map_cons, List.map_nil, List.sum_cons, List.sum_nil]; omega

set_option maxRecDepth 100000 in
set_option maxHeartbeats 800000 in
theorem szIntSS_c (A : Option Addr) (n cap : Nat) (l : List (List Int)) (left : Int) (w : World) (hr : RS maxLen (rSlice maxLen 3 rInt) w A n cap l) (h0 : 0 ≤ left) (h1 : left ≤ 1048576) : Calls Tryd.prog 38 #[.slice A n cap, .int .i64 left] w fun e w' => e = .returned (.int .i64 (lessBy left (bulkS (fun x => x.length) l))) ∧ Below w.heap.size w w' := by
 have hn : n ≤ 9223372036854775807 := hr.nb
 by_cases h : (n : Int) ≤ left
 ·obtain ⟨L1, hL1⟩ : ∃ L, L = left - (n : Int) := ⟨_, rfl⟩
  have HL1 := Lib.hid hL1
  clear hL1
  go_enter Tryd.func38, Tryd.ntmps38
  go_wp2
  go_loopw [1, 5] (fun lv i wr => ∃ (k : Nat) (L : Int), k ≤ n ∧ i = .int .i64 k ∧ lv = .int .i64 L ∧ 0 ≤ L ∧ L ≤ 1048576 ∧ L = left - n - (((l.take k).map (fun x => x.length)).sum : Nat) ∧ Below w.heap.size w wr) (fun _ i _ => n - (intOf i).toNat)
  case atStart => exact ⟨0, _, Nat.zero_le _, rfl, rfl, by omega, by omega, by simp, Below.refl _ _⟩
  case round =>
   obtain ⟨k, L, hk, rfl, rfl, hL0, hLu, hLe, hb⟩ := hrel
   have HLe := Lib.hid hLe; clear hLe
   by_cases hlt : k < n
   ·obtain ⟨b, off, x, cs, rfl, hrep, hcell, hxk⟩ := (hr.below (rSlice_ok maxLen _ rInt_ok) hb).at_ hlt
    have hrep0 := hrep
    obtain ⟨Ae, ne, ce, rfl, hre⟩ := hrep
    have q0 : wr.cell? ⟨b, off + k, none⟩ = some (.slice Ae ne ce) := by simpa [rSlice] using hcell 0 _ rfl
    clear hcell
    go_wp2_with fail
    refine (szIntS_c _ _ _ _ L _ hre hL0 hLu).mono ?_
    rintro e w1 ⟨rfl, hb1⟩
    have hB1 : Below w.heap.size w w1 := hb.trans (hb1.mono hb.size)
    obtain ⟨am, ham⟩ : ∃ am : Nat, am = x.length := ⟨_, rfl⟩
    rw [← ham]
    have HA := Lib.hid ham; clear ham
    by_cases hx : (am : Int) ≤ L
    ·rw [lessBy_yes hx]
     obtain ⟨L2, hL2⟩ : ∃ L2, L2 = L - (am : Int) := ⟨_, rfl⟩
     rw [← hL2]
     have HL2 := Lib.hid hL2
     have p2 : 0 ≤ L2 := by omega
     have u2 : L2 ≤ 1048576 := by omega
     clear hL2 hx
     go_wp2
     go_roundw
     case rel => exact ⟨k + 1, L2, by omega, by go_num, rfl, p2, u2, by rw [take_snoc hxk.out, List.map_append, List.sum_append]; have := HL2.out; have := HLe.out; have := HA.out; simp only [List.map_cons, List.map_nil, List.sum_cons, List.sum_nil]; omega, hB1⟩
     case measure => simp [intOf]; omega
    ·rw [lessBy_no hx]
     go_wp2
     go_ret
     refine ⟨ret_int (a := -1) (lessBy_no ?_).symm, hB1⟩
     have e1 := sum_ge (fun x => x.length) hxk.out
     have := HLe.out; have := HA.out; have := hr.len; unfold bulkS; omega
   ·go_wp2
    go_ret
    refine ⟨ret_int ?_, hb⟩
    have e1 := HLe.out
    rw [take_all hr.len hlt] at e1
    rw [lessBy_yes (by have := hr.len; unfold bulkS; omega)]
    have := hr.len; unfold bulkS; omega
 ·go_enter Tryd.func38, Tryd.ntmps38
  go_wp2
  go_ret
  exact ⟨ret_int (a := -1) (lessBy_no (by have := hr.len; unfold bulkS; omega)).symm, Below.refl _ _⟩









def bulkAnswer (x : AnswerD) : Nat := (x.fVars.length) + (bulkS (fun x => x.length) x.fRows)
set_option maxHeartbeats 800000 in
theorem szAnswer_c (cs : List Value) (x : AnswerD) (left : Int) (w : World) (h : (rAnswer maxLen).rep w cs x) (h0 : 0 ≤ left) (h1 : left ≤ 1048576) : Calls Tryd.prog 22 #[.agg cs.toArray, .int .i64 left] w fun e w' => e = .returned (.int .i64 (lessBy left (bulkAnswer x))) ∧ Below w.heap.size w w' := by
 obtain ⟨AVars, nVars, cVars, ARows, nRows, cRows, rfl, hVars, hRows⟩ := rAnswer_rep.1 h
 clear h
 have hB0 : Below w.heap.size w w := Below.refl _ _
 have HB : Hid (bulkAnswer x = (x.fVars.length) + (bulkS (fun x => x.length) x.fRows)) := rfl
 go_enter Tryd.func22, Tryd.ntmps22
 go_wp2_with fail
 refine (szIntS_c _ _ _ _ _ _ (hVars.below rInt_ok (by repeat' (first | with_reducible exact hB0 | with_reducible refine Below.setCell ?_ ?_ _ | with_reducible refine Below.alloc ?_ ?_ _ | (simp; done) | (simp; omega) | omega))) (by omega) (by omega)).mono ?_
 rintro e w1 ⟨rfl, hb1⟩
 have hB1 : Below w.heap.size w w1 := Below.trans (by repeat' (first | with_reducible exact hB0 | with_reducible refine Below.setCell ?_ ?_ _ | with_reducible refine Below.alloc ?_ ?_ _ | (simp; done) | (simp; omega) | omega)) (hb1.mono (by first | (simp; done) | (simp; omega) | omega))
 have hz1 := hb1.size
 obtain ⟨hc1, hf1⟩ := bcell hb1
 try simp at hz1 hc1 hf1
 have hy1_0 : w.heap.size < w1.heap.size := by omega
 clear hb1 hf1
 by_cases h_Vars : (((x.fVars.length) : Nat) : Int) ≤ left
 rotate_left
 ·rw [lessBy_no h_Vars]
  go_wp2
  go_ret
  exact ⟨ret_int (a := -1) (lessBy_no (by rw [HB.out]; omega)).symm, (by repeat' (first | with_reducible exact hB1 | with_reducible refine Below.setCell ?_ ?_ _ | with_reducible refine Below.alloc ?_ ?_ _ | (simp; done) | (simp; omega) | omega))⟩
 rw [lessBy_yes h_Vars]
 obtain ⟨LVars, hLVars⟩ : ∃ L, L = left - (((x.fVars.length) : Nat) : Int) := ⟨_, rfl⟩
 rw [← hLVars]
 have HLVars := Lib.hid hLVars
 have pVars : 0 ≤ LVars := by omega
 have uVars : LVars ≤ 1048576 := by omega
 clear hLVars h_Vars
 go_wp2_with fail
 refine (szIntSS_c _ _ _ _ _ _ (hRows.below (rSlice_ok maxLen _ rInt_ok) (by repeat' (first | with_reducible exact hB1 | with_reducible refine Below.setCell ?_ ?_ _ | with_reducible refine Below.alloc ?_ ?_ _ | (simp; done) | (simp; omega) | omega))) (by omega) (by omega)).mono ?_
 rintro e w2 ⟨rfl, hb2⟩
 have hB2 : Below w.heap.size w w2 := Below.trans (by repeat' (first | with_reducible exact hB1 | with_reducible refine Below.setCell ?_ ?_ _ | with_reducible refine Below.alloc ?_ ?_ _ | (simp; done) | (simp; omega) | omega)) (hb2.mono (by first | (simp; done) | (simp; omega) | omega))
 have hz2 := hb2.size
 obtain ⟨hc2, hf2⟩ := bcell hb2
 try simp at hz2 hc2 hf2
 have hy2_0 : w.heap.size < w2.heap.size := by omega
 clear hb2 hf2
 by_cases h_Rows : (((bulkS (fun x => x.length) x.fRows) : Nat) : Int) ≤ LVars
 rotate_left
 ·rw [lessBy_no h_Rows]
  go_wp2
  go_ret
  exact ⟨ret_int (a := -1) (lessBy_no (by rw [HB.out]; have := HLVars.out; omega)).symm, (by repeat' (first | with_reducible exact hB2 | with_reducible refine Below.setCell ?_ ?_ _ | with_reducible refine Below.alloc ?_ ?_ _ | (simp; done) | (simp; omega) | omega))⟩
 rw [lessBy_yes h_Rows]
 obtain ⟨LRows, hLRows⟩ : ∃ L, L = LVars - (((bulkS (fun x => x.length) x.fRows) : Nat) : Int) := ⟨_, rfl⟩
 rw [← hLRows]
 have HLRows := Lib.hid hLRows
 have pRows : 0 ≤ LRows := by omega
 have uRows : LRows ≤ 1048576 := by omega
 clear hLRows h_Rows
 go_wp2
 go_ret
 exact ⟨ret_int (by rw [lessBy_yes (by rw [HB.out]; have := HLVars.out; have := HLRows.out; omega)]; rw [HB.out]; have := HLVars.out; have := HLRows.out; omega), (by repeat' (first | with_reducible exact hB2 | with_reducible refine Below.setCell ?_ ?_ _ | with_reducible refine Below.alloc ?_ ?_ _ | (simp; done) | (simp; omega) | omega))⟩
















def bulkBox (x : BoxD) : Nat := (x.fLow.length) + (x.fHigh.length)
set_option maxHeartbeats 800000 in
theorem szBox_c (cs : List Value) (x : BoxD) (left : Int) (w : World) (h : (rBox maxLen).rep w cs x) (h0 : 0 ≤ left) (h1 : left ≤ 1048576) : Calls Tryd.prog 31 #[.agg cs.toArray, .int .i64 left] w fun e w' => e = .returned (.int .i64 (lessBy left (bulkBox x))) ∧ Below w.heap.size w w' := by
 obtain ⟨ALow, nLow, cLow, AHigh, nHigh, cHigh, rfl, hLow, hHigh⟩ := rBox_rep.1 h
 clear h
 have hB0 : Below w.heap.size w w := Below.refl _ _
 have HB : Hid (bulkBox x = (x.fLow.length) + (x.fHigh.length)) := rfl
 go_enter Tryd.func31, Tryd.ntmps31
 go_wp2_with fail
 refine (szIntS_c _ _ _ _ _ _ (hLow.below rInt_ok (by repeat' (first | with_reducible exact hB0 | with_reducible refine Below.setCell ?_ ?_ _ | with_reducible refine Below.alloc ?_ ?_ _ | (simp; done) | (simp; omega) | omega))) (by omega) (by omega)).mono ?_
 rintro e w1 ⟨rfl, hb1⟩
 have hB1 : Below w.heap.size w w1 := Below.trans (by repeat' (first | with_reducible exact hB0 | with_reducible refine Below.setCell ?_ ?_ _ | with_reducible refine Below.alloc ?_ ?_ _ | (simp; done) | (simp; omega) | omega)) (hb1.mono (by first | (simp; done) | (simp; omega) | omega))
 have hz1 := hb1.size
 obtain ⟨hc1, hf1⟩ := bcell hb1
 try simp at hz1 hc1 hf1
 have hy1_0 : w.heap.size < w1.heap.size := by omega
 clear hb1 hf1
 by_cases h_Low : (((x.fLow.length) : Nat) : Int) ≤ left
 rotate_left
 ·rw [lessBy_no h_Low]
  go_wp2
  go_ret
  exact ⟨ret_int (a := -1) (lessBy_no (by rw [HB.out]; omega)).symm, (by repeat' (first | with_reducible exact hB1 | with_reducible refine Below.setCell ?_ ?_ _ | with_reducible refine Below.alloc ?_ ?_ _ | (simp; done) | (simp; omega) | omega))⟩
 rw [lessBy_yes h_Low]
 obtain ⟨LLow, hLLow⟩ : ∃ L, L = left - (((x.fLow.length) : Nat) : Int) := ⟨_, rfl⟩
 rw [← hLLow]
 have HLLow := Lib.hid hLLow
 have pLow : 0 ≤ LLow := by omega
 have uLow : LLow ≤ 1048576 := by omega
 clear hLLow h_Low
 go_wp2_with fail
 refine (szIntS_c _ _ _ _ _ _ (hHigh.below rInt_ok (by repeat' (first | with_reducible exact hB1 | with_reducible refine Below.setCell ?_ ?_ _ | with_reducible refine Below.alloc ?_ ?_ _ | (simp; done) | (simp; omega) | omega))) (by omega) (by omega)).mono ?_
 rintro e w2 ⟨rfl, hb2⟩
 have hB2 : Below w.heap.size w w2 := Below.trans (by repeat' (first | with_reducible exact hB1 | with_reducible refine Below.setCell ?_ ?_ _ | with_reducible refine Below.alloc ?_ ?_ _ | (simp; done) | (simp; omega) | omega)) (hb2.mono (by first | (simp; done) | (simp; omega) | omega))
 have hz2 := hb2.size
 obtain ⟨hc2, hf2⟩ := bcell hb2
 try simp at hz2 hc2 hf2
 have hy2_0 : w.heap.size < w2.heap.size := by omega
 clear hb2 hf2
 by_cases h_High : (((x.fHigh.length) : Nat) : Int) ≤ LLow
 rotate_left
 ·rw [lessBy_no h_High]
  go_wp2
  go_ret
  exact ⟨ret_int (a := -1) (lessBy_no (by rw [HB.out]; have := HLLow.out; omega)).symm, (by repeat' (first | with_reducible exact hB2 | with_reducible refine Below.setCell ?_ ?_ _ | with_reducible refine Below.alloc ?_ ?_ _ | (simp; done) | (simp; omega) | omega))⟩
 rw [lessBy_yes h_High]
 obtain ⟨LHigh, hLHigh⟩ : ∃ L, L = LLow - (((x.fHigh.length) : Nat) : Int) := ⟨_, rfl⟩
 rw [← hLHigh]
 have HLHigh := Lib.hid hLHigh
 have pHigh : 0 ≤ LHigh := by omega
 have uHigh : LHigh ≤ 1048576 := by omega
 clear hLHigh h_High
 go_wp2
 go_ret
 exact ⟨ret_int (by rw [lessBy_yes (by rw [HB.out]; have := HLLow.out; have := HLHigh.out; omega)]; rw [HB.out]; have := HLLow.out; have := HLHigh.out; omega), (by repeat' (first | with_reducible exact hB2 | with_reducible refine Below.setCell ?_ ?_ _ | with_reducible refine Below.alloc ?_ ?_ _ | (simp; done) | (simp; omega) | omega))⟩




set_option maxHeartbeats 800000 in
theorem szPlanStepS_c (A : Option Addr) (n cap : Nat) (l : List PlanStepD) (left : Int) (w : World) (hr : RS maxLen (rPlanStep maxLen) w A n cap l) (h0 : 0 ≤ left) (h1 : left ≤ 1048576) : Calls Tryd.prog 70 #[.slice A n cap, .int .i64 left] w fun e w' => e = .returned (.int .i64 (lessBy left (l.length))) ∧ Below w.heap.size w w' := by
 have hn : n ≤ 9223372036854775807 := hr.nb
 have HL := Lib.hid hr.len
 clear hr
 by_cases h : (n : Int) ≤ left
 all_goals
  go_enter Tryd.func70, Tryd.ntmps70
  go_wp2
  go_ret
  exact ⟨ret_int (by rw [HL.out]; unfold lessBy; split <;> omega), Below.refl _ _⟩

def bulkPlan (x : PlanD) : Nat := (x.fSteps.length)
set_option maxHeartbeats 800000 in
theorem szPlan_c (cs : List Value) (x : PlanD) (left : Int) (w : World) (h : (rPlan maxLen).rep w cs x) (h0 : 0 ≤ left) (h1 : left ≤ 1048576) : Calls Tryd.prog 57 #[.agg cs.toArray, .int .i64 left] w fun e w' => e = .returned (.int .i64 (lessBy left (bulkPlan x))) ∧ Below w.heap.size w w' := by
 obtain ⟨ASteps, nSteps, cSteps, rfl, hSteps⟩ := rPlan_rep.1 h
 clear h
 have hB0 : Below w.heap.size w w := Below.refl _ _
 have HB : Hid (bulkPlan x = (x.fSteps.length)) := rfl
 go_enter Tryd.func57, Tryd.ntmps57
 go_wp2_with fail
 refine (szPlanStepS_c _ _ _ _ _ _ (hSteps.below (rPlanStep_ok maxLen) (by repeat' (first | with_reducible exact hB0 | with_reducible refine Below.setCell ?_ ?_ _ | with_reducible refine Below.alloc ?_ ?_ _ | (simp; done) | (simp; omega) | omega))) (by omega) (by omega)).mono ?_
 rintro e w1 ⟨rfl, hb1⟩
 have hB1 : Below w.heap.size w w1 := Below.trans (by repeat' (first | with_reducible exact hB0 | with_reducible refine Below.setCell ?_ ?_ _ | with_reducible refine Below.alloc ?_ ?_ _ | (simp; done) | (simp; omega) | omega)) (hb1.mono (by first | (simp; done) | (simp; omega) | omega))
 have hz1 := hb1.size
 obtain ⟨hc1, hf1⟩ := bcell hb1
 try simp at hz1 hc1 hf1
 have hy1_0 : w.heap.size < w1.heap.size := by omega
 clear hb1 hf1
 by_cases h_Steps : (((x.fSteps.length) : Nat) : Int) ≤ left
 rotate_left
 ·rw [lessBy_no h_Steps]
  go_wp2
  go_ret
  exact ⟨ret_int (a := -1) (lessBy_no (by rw [HB.out]; omega)).symm, (by repeat' (first | with_reducible exact hB1 | with_reducible refine Below.setCell ?_ ?_ _ | with_reducible refine Below.alloc ?_ ?_ _ | (simp; done) | (simp; omega) | omega))⟩
 rw [lessBy_yes h_Steps]
 obtain ⟨LSteps, hLSteps⟩ : ∃ L, L = left - (((x.fSteps.length) : Nat) : Int) := ⟨_, rfl⟩
 rw [← hLSteps]
 have HLSteps := Lib.hid hLSteps
 have pSteps : 0 ≤ LSteps := by omega
 have uSteps : LSteps ≤ 1048576 := by omega
 clear hLSteps h_Steps
 go_wp2
 go_ret
 exact ⟨ret_int (by rw [lessBy_yes (by rw [HB.out]; have := HLSteps.out; omega)]; rw [HB.out]; have := HLSteps.out; omega), (by repeat' (first | with_reducible exact hB1 | with_reducible refine Below.setCell ?_ ?_ _ | with_reducible refine Below.alloc ?_ ?_ _ | (simp; done) | (simp; omega) | omega))⟩

set_option maxRecDepth 100000 in
set_option maxHeartbeats 800000 in
theorem szPlanS_c (A : Option Addr) (n cap : Nat) (l : List PlanD) (left : Int) (w : World) (hr : RS maxLen (rPlan maxLen) w A n cap l) (h0 : 0 ≤ left) (h1 : left ≤ 1048576) : Calls Tryd.prog 37 #[.slice A n cap, .int .i64 left] w fun e w' => e = .returned (.int .i64 (lessBy left (bulkS (fun x => bulkPlan x) l))) ∧ Below w.heap.size w w' := by
 have hn : n ≤ 9223372036854775807 := hr.nb
 by_cases h : (n : Int) ≤ left
 ·obtain ⟨L1, hL1⟩ : ∃ L, L = left - (n : Int) := ⟨_, rfl⟩
  have HL1 := Lib.hid hL1
  clear hL1
  go_enter Tryd.func37, Tryd.ntmps37
  go_wp2
  go_loopw [1, 5] (fun lv i wr => ∃ (k : Nat) (L : Int), k ≤ n ∧ i = .int .i64 k ∧ lv = .int .i64 L ∧ 0 ≤ L ∧ L ≤ 1048576 ∧ L = left - n - (((l.take k).map (fun x => bulkPlan x)).sum : Nat) ∧ Below w.heap.size w wr) (fun _ i _ => n - (intOf i).toNat)
  case atStart => exact ⟨0, _, Nat.zero_le _, rfl, rfl, by omega, by omega, by simp, Below.refl _ _⟩
  case round =>
   obtain ⟨k, L, hk, rfl, rfl, hL0, hLu, hLe, hb⟩ := hrel
   have HLe := Lib.hid hLe; clear hLe
   by_cases hlt : k < n
   ·obtain ⟨b, off, x, cs, rfl, hrep, hcell, hxk⟩ := (hr.below (rPlan_ok maxLen) hb).at_ hlt
    have hrep0 := hrep
    obtain ⟨ASteps, nSteps, cSteps, rfl, hSteps⟩ := rPlan_rep.1 hrep
    have q0 : wr.cell? ⟨b, off + k, none⟩ = some (.slice ASteps nSteps cSteps) := by simpa [rPlan_size] using hcell 0 _ rfl
    clear hcell
    go_wp2_with fail
    refine (szPlan_c _ x L _ hrep0 hL0 hLu).mono ?_
    rintro e w1 ⟨rfl, hb1⟩
    have hB1 : Below w.heap.size w w1 := hb.trans (hb1.mono hb.size)
    obtain ⟨am, ham⟩ : ∃ am : Nat, am = bulkPlan x := ⟨_, rfl⟩
    rw [← ham]
    have HA := Lib.hid ham; clear ham
    by_cases hx : (am : Int) ≤ L
    ·rw [lessBy_yes hx]
     obtain ⟨L2, hL2⟩ : ∃ L2, L2 = L - (am : Int) := ⟨_, rfl⟩
     rw [← hL2]
     have HL2 := Lib.hid hL2
     have p2 : 0 ≤ L2 := by omega
     have u2 : L2 ≤ 1048576 := by omega
     clear hL2 hx
     go_wp2
     go_roundw
     case rel => exact ⟨k + 1, L2, by omega, by go_num, rfl, p2, u2, by rw [take_snoc hxk.out, List.map_append, List.sum_append]; have := HL2.out; have := HLe.out; have := HA.out; simp only [List.map_cons, List.map_nil, List.sum_cons, List.sum_nil]; omega, hB1⟩
     case measure => simp [intOf]; omega
    ·rw [lessBy_no hx]
     go_wp2
     go_ret
     refine ⟨ret_int (a := -1) (lessBy_no ?_).symm, hB1⟩
     have e1 := sum_ge (fun x => bulkPlan x) hxk.out
     have := HLe.out; have := HA.out; have := hr.len; unfold bulkS; omega
   ·go_wp2
    go_ret
    refine ⟨ret_int ?_, hb⟩
    have e1 := HLe.out
    rw [take_all hr.len hlt] at e1
    rw [lessBy_yes (by have := hr.len; unfold bulkS; omega)]
    have := hr.len; unfold bulkS; omega
 ·go_enter Tryd.func37, Tryd.ntmps37
  go_wp2
  go_ret
  exact ⟨ret_int (a := -1) (lessBy_no (by have := hr.len; unfold bulkS; omega)).symm, Below.refl _ _⟩




set_option maxHeartbeats 800000 in
theorem szObservationS_c (A : Option Addr) (n cap : Nat) (l : List ObservationD) (left : Int) (w : World) (hr : RS maxLen (rObservation maxLen) w A n cap l) (h0 : 0 ≤ left) (h1 : left ≤ 1048576) : Calls Tryd.prog 21 #[.slice A n cap, .int .i64 left] w fun e w' => e = .returned (.int .i64 (lessBy left (l.length))) ∧ Below w.heap.size w w' := by
 have hn : n ≤ 9223372036854775807 := hr.nb
 have HL := Lib.hid hr.len
 clear hr
 by_cases h : (n : Int) ≤ left
 all_goals
  go_enter Tryd.func21, Tryd.ntmps21
  go_wp2
  go_ret
  exact ⟨ret_int (by rw [HL.out]; unfold lessBy; split <;> omega), Below.refl _ _⟩

def bulkRun (x : RunD) : Nat := (x.fSeen.length) + (bulkAnswer x.fAnswer)
set_option maxHeartbeats 800000 in
theorem szRun_c (cs : List Value) (x : RunD) (left : Int) (w : World) (h : (rRun maxLen).rep w cs x) (h0 : 0 ≤ left) (h1 : left ≤ 1048576) : Calls Tryd.prog 6 #[.agg cs.toArray, .int .i64 left] w fun e w' => e = .returned (.int .i64 (lessBy left (bulkRun x))) ∧ Below w.heap.size w w' := by
 obtain ⟨ASeen, nSeen, cSeen, AAnswerVars, nAnswerVars, cAnswerVars, AAnswerRows, nAnswerRows, cAnswerRows, rfl, hCost, hSteps, hSeen, hAnswerVars, hAnswerRows⟩ := rRun_rep.1 h
 clear h
 have hB0 : Below w.heap.size w w := Below.refl _ _
 have HB : Hid (bulkRun x = (x.fSeen.length) + (bulkAnswer x.fAnswer)) := rfl
 go_enter Tryd.func6, Tryd.ntmps6
 go_wp2_with fail
 refine (szObservationS_c _ _ _ _ _ _ (hSeen.below (rObservation_ok maxLen) (by repeat' (first | with_reducible exact hB0 | with_reducible refine Below.setCell ?_ ?_ _ | with_reducible refine Below.alloc ?_ ?_ _ | (simp; done) | (simp; omega) | omega))) (by omega) (by omega)).mono ?_
 rintro e w1 ⟨rfl, hb1⟩
 have hB1 : Below w.heap.size w w1 := Below.trans (by repeat' (first | with_reducible exact hB0 | with_reducible refine Below.setCell ?_ ?_ _ | with_reducible refine Below.alloc ?_ ?_ _ | (simp; done) | (simp; omega) | omega)) (hb1.mono (by first | (simp; done) | (simp; omega) | omega))
 have hz1 := hb1.size
 obtain ⟨hc1, hf1⟩ := bcell hb1
 try simp at hz1 hc1 hf1
 have hy1_0 : w.heap.size < w1.heap.size := by omega
 clear hb1 hf1
 by_cases h_Seen : (((x.fSeen.length) : Nat) : Int) ≤ left
 rotate_left
 ·rw [lessBy_no h_Seen]
  go_wp2
  go_ret
  exact ⟨ret_int (a := -1) (lessBy_no (by rw [HB.out]; omega)).symm, (by repeat' (first | with_reducible exact hB1 | with_reducible refine Below.setCell ?_ ?_ _ | with_reducible refine Below.alloc ?_ ?_ _ | (simp; done) | (simp; omega) | omega))⟩
 rw [lessBy_yes h_Seen]
 obtain ⟨LSeen, hLSeen⟩ : ∃ L, L = left - (((x.fSeen.length) : Nat) : Int) := ⟨_, rfl⟩
 rw [← hLSeen]
 have HLSeen := Lib.hid hLSeen
 have pSeen : 0 ≤ LSeen := by omega
 have uSeen : LSeen ≤ 1048576 := by omega
 clear hLSeen h_Seen
 go_wp2_with fail
 refine (szAnswer_c _ x.fAnswer _ _ ((rAnswer_ok maxLen).keep (rAnswer_rep.2 ⟨AAnswerVars, nAnswerVars, cAnswerVars, AAnswerRows, nAnswerRows, cAnswerRows, rfl, hAnswerVars, hAnswerRows⟩) (cells_below (by repeat' (first | with_reducible exact hB1 | with_reducible refine Below.setCell ?_ ?_ _ | with_reducible refine Below.alloc ?_ ?_ _ | (simp; done) | (simp; omega) | omega)))) (by omega) (by omega)).mono ?_
 rintro e w2 ⟨rfl, hb2⟩
 have hB2 : Below w.heap.size w w2 := Below.trans (by repeat' (first | with_reducible exact hB1 | with_reducible refine Below.setCell ?_ ?_ _ | with_reducible refine Below.alloc ?_ ?_ _ | (simp; done) | (simp; omega) | omega)) (hb2.mono (by first | (simp; done) | (simp; omega) | omega))
 have hz2 := hb2.size
 obtain ⟨hc2, hf2⟩ := bcell hb2
 try simp at hz2 hc2 hf2
 have hy2_0 : w.heap.size < w2.heap.size := by omega
 clear hb2 hf2
 by_cases h_Answer : (((bulkAnswer x.fAnswer) : Nat) : Int) ≤ LSeen
 rotate_left
 ·rw [lessBy_no h_Answer]
  go_wp2
  go_ret
  exact ⟨ret_int (a := -1) (lessBy_no (by rw [HB.out]; have := HLSeen.out; omega)).symm, (by repeat' (first | with_reducible exact hB2 | with_reducible refine Below.setCell ?_ ?_ _ | with_reducible refine Below.alloc ?_ ?_ _ | (simp; done) | (simp; omega) | omega))⟩
 rw [lessBy_yes h_Answer]
 obtain ⟨LAnswer, hLAnswer⟩ : ∃ L, L = LSeen - (((bulkAnswer x.fAnswer) : Nat) : Int) := ⟨_, rfl⟩
 rw [← hLAnswer]
 have HLAnswer := Lib.hid hLAnswer
 have pAnswer : 0 ≤ LAnswer := by omega
 have uAnswer : LAnswer ≤ 1048576 := by omega
 clear hLAnswer h_Answer
 go_wp2
 go_ret
 exact ⟨ret_int (by rw [lessBy_yes (by rw [HB.out]; have := HLSeen.out; have := HLAnswer.out; omega)]; rw [HB.out]; have := HLSeen.out; have := HLAnswer.out; omega), (by repeat' (first | with_reducible exact hB2 | with_reducible refine Below.setCell ?_ ?_ _ | with_reducible refine Below.alloc ?_ ?_ _ | (simp; done) | (simp; omega) | omega))⟩


def bulkBouquet (x : BouquetD) : Nat := (bulkBox x.fBox) + (x.fBudgets.length) + (bulkS (fun x => bulkPlan x) x.fPlans) + (bulkS (fun x => x.length) x.fContours)
set_option maxHeartbeats 800000 in
theorem szBouquet_c (cs : List Value) (x : BouquetD) (left : Int) (w : World) (h : (rBouquet maxLen).rep w cs x) (h0 : 0 ≤ left) (h1 : left ≤ 1048576) : Calls Tryd.prog 16 #[.agg cs.toArray, .int .i64 left] w fun e w' => e = .returned (.int .i64 (lessBy left (bulkBouquet x))) ∧ Below w.heap.size w w' := by
 obtain ⟨ABoxLow, nBoxLow, cBoxLow, ABoxHigh, nBoxHigh, cBoxHigh, ABudgets, nBudgets, cBudgets, APlans, nPlans, cPlans, AContours, nContours, cContours, rfl, hVersion, hRatio, hSlack, hBoxLow, hBoxHigh, hBudgets, hPlans, hContours⟩ := rBouquet_rep.1 h
 clear h
 have hB0 : Below w.heap.size w w := Below.refl _ _
 have HB : Hid (bulkBouquet x = (bulkBox x.fBox) + (x.fBudgets.length) + (bulkS (fun x => bulkPlan x) x.fPlans) + (bulkS (fun x => x.length) x.fContours)) := rfl
 go_enter Tryd.func16, Tryd.ntmps16
 go_wp2_with fail
 refine (szBox_c _ x.fBox _ _ ((rBox_ok maxLen).keep (rBox_rep.2 ⟨ABoxLow, nBoxLow, cBoxLow, ABoxHigh, nBoxHigh, cBoxHigh, rfl, hBoxLow, hBoxHigh⟩) (cells_below (by repeat' (first | with_reducible exact hB0 | with_reducible refine Below.setCell ?_ ?_ _ | with_reducible refine Below.alloc ?_ ?_ _ | (simp; done) | (simp; omega) | omega)))) (by omega) (by omega)).mono ?_
 rintro e w1 ⟨rfl, hb1⟩
 have hB1 : Below w.heap.size w w1 := Below.trans (by repeat' (first | with_reducible exact hB0 | with_reducible refine Below.setCell ?_ ?_ _ | with_reducible refine Below.alloc ?_ ?_ _ | (simp; done) | (simp; omega) | omega)) (hb1.mono (by first | (simp; done) | (simp; omega) | omega))
 have hz1 := hb1.size
 obtain ⟨hc1, hf1⟩ := bcell hb1
 try simp at hz1 hc1 hf1
 have hy1_0 : w.heap.size < w1.heap.size := by omega
 clear hb1 hf1
 by_cases h_Box : (((bulkBox x.fBox) : Nat) : Int) ≤ left
 rotate_left
 ·rw [lessBy_no h_Box]
  go_wp2
  go_ret
  exact ⟨ret_int (a := -1) (lessBy_no (by rw [HB.out]; omega)).symm, (by repeat' (first | with_reducible exact hB1 | with_reducible refine Below.setCell ?_ ?_ _ | with_reducible refine Below.alloc ?_ ?_ _ | (simp; done) | (simp; omega) | omega))⟩
 rw [lessBy_yes h_Box]
 obtain ⟨LBox, hLBox⟩ : ∃ L, L = left - (((bulkBox x.fBox) : Nat) : Int) := ⟨_, rfl⟩
 rw [← hLBox]
 have HLBox := Lib.hid hLBox
 have pBox : 0 ≤ LBox := by omega
 have uBox : LBox ≤ 1048576 := by omega
 clear hLBox h_Box
 go_wp2_with fail
 refine (szIntS_c _ _ _ _ _ _ (hBudgets.below rInt_ok (by repeat' (first | with_reducible exact hB1 | with_reducible refine Below.setCell ?_ ?_ _ | with_reducible refine Below.alloc ?_ ?_ _ | (simp; done) | (simp; omega) | omega))) (by omega) (by omega)).mono ?_
 rintro e w2 ⟨rfl, hb2⟩
 have hB2 : Below w.heap.size w w2 := Below.trans (by repeat' (first | with_reducible exact hB1 | with_reducible refine Below.setCell ?_ ?_ _ | with_reducible refine Below.alloc ?_ ?_ _ | (simp; done) | (simp; omega) | omega)) (hb2.mono (by first | (simp; done) | (simp; omega) | omega))
 have hz2 := hb2.size
 obtain ⟨hc2, hf2⟩ := bcell hb2
 try simp at hz2 hc2 hf2
 have hy2_0 : w.heap.size < w2.heap.size := by omega
 clear hb2 hf2
 by_cases h_Budgets : (((x.fBudgets.length) : Nat) : Int) ≤ LBox
 rotate_left
 ·rw [lessBy_no h_Budgets]
  go_wp2
  go_ret
  exact ⟨ret_int (a := -1) (lessBy_no (by rw [HB.out]; have := HLBox.out; omega)).symm, (by repeat' (first | with_reducible exact hB2 | with_reducible refine Below.setCell ?_ ?_ _ | with_reducible refine Below.alloc ?_ ?_ _ | (simp; done) | (simp; omega) | omega))⟩
 rw [lessBy_yes h_Budgets]
 obtain ⟨LBudgets, hLBudgets⟩ : ∃ L, L = LBox - (((x.fBudgets.length) : Nat) : Int) := ⟨_, rfl⟩
 rw [← hLBudgets]
 have HLBudgets := Lib.hid hLBudgets
 have pBudgets : 0 ≤ LBudgets := by omega
 have uBudgets : LBudgets ≤ 1048576 := by omega
 clear hLBudgets h_Budgets
 go_wp2_with fail
 refine (szPlanS_c _ _ _ _ _ _ (hPlans.below (rPlan_ok maxLen) (by repeat' (first | with_reducible exact hB2 | with_reducible refine Below.setCell ?_ ?_ _ | with_reducible refine Below.alloc ?_ ?_ _ | (simp; done) | (simp; omega) | omega))) (by omega) (by omega)).mono ?_
 rintro e w3 ⟨rfl, hb3⟩
 have hB3 : Below w.heap.size w w3 := Below.trans (by repeat' (first | with_reducible exact hB2 | with_reducible refine Below.setCell ?_ ?_ _ | with_reducible refine Below.alloc ?_ ?_ _ | (simp; done) | (simp; omega) | omega)) (hb3.mono (by first | (simp; done) | (simp; omega) | omega))
 have hz3 := hb3.size
 obtain ⟨hc3, hf3⟩ := bcell hb3
 try simp at hz3 hc3 hf3
 have hy3_0 : w.heap.size < w3.heap.size := by omega
 clear hb3 hf3
 by_cases h_Plans : (((bulkS (fun x => bulkPlan x) x.fPlans) : Nat) : Int) ≤ LBudgets
 rotate_left
 ·rw [lessBy_no h_Plans]
  go_wp2
  go_ret
  exact ⟨ret_int (a := -1) (lessBy_no (by rw [HB.out]; have := HLBox.out; have := HLBudgets.out; omega)).symm, (by repeat' (first | with_reducible exact hB3 | with_reducible refine Below.setCell ?_ ?_ _ | with_reducible refine Below.alloc ?_ ?_ _ | (simp; done) | (simp; omega) | omega))⟩
 rw [lessBy_yes h_Plans]
 obtain ⟨LPlans, hLPlans⟩ : ∃ L, L = LBudgets - (((bulkS (fun x => bulkPlan x) x.fPlans) : Nat) : Int) := ⟨_, rfl⟩
 rw [← hLPlans]
 have HLPlans := Lib.hid hLPlans
 have pPlans : 0 ≤ LPlans := by omega
 have uPlans : LPlans ≤ 1048576 := by omega
 clear hLPlans h_Plans
 go_wp2_with fail
 refine (szIntSS_c _ _ _ _ _ _ (hContours.below (rSlice_ok maxLen _ rInt_ok) (by repeat' (first | with_reducible exact hB3 | with_reducible refine Below.setCell ?_ ?_ _ | with_reducible refine Below.alloc ?_ ?_ _ | (simp; done) | (simp; omega) | omega))) (by omega) (by omega)).mono ?_
 rintro e w4 ⟨rfl, hb4⟩
 have hB4 : Below w.heap.size w w4 := Below.trans (by repeat' (first | with_reducible exact hB3 | with_reducible refine Below.setCell ?_ ?_ _ | with_reducible refine Below.alloc ?_ ?_ _ | (simp; done) | (simp; omega) | omega)) (hb4.mono (by first | (simp; done) | (simp; omega) | omega))
 have hz4 := hb4.size
 obtain ⟨hc4, hf4⟩ := bcell hb4
 try simp at hz4 hc4 hf4
 have hy4_0 : w.heap.size < w4.heap.size := by omega
 clear hb4 hf4
 by_cases h_Contours : (((bulkS (fun x => x.length) x.fContours) : Nat) : Int) ≤ LPlans
 rotate_left
 ·rw [lessBy_no h_Contours]
  go_wp2
  go_ret
  exact ⟨ret_int (a := -1) (lessBy_no (by rw [HB.out]; have := HLBox.out; have := HLBudgets.out; have := HLPlans.out; omega)).symm, (by repeat' (first | with_reducible exact hB4 | with_reducible refine Below.setCell ?_ ?_ _ | with_reducible refine Below.alloc ?_ ?_ _ | (simp; done) | (simp; omega) | omega))⟩
 rw [lessBy_yes h_Contours]
 obtain ⟨LContours, hLContours⟩ : ∃ L, L = LPlans - (((bulkS (fun x => x.length) x.fContours) : Nat) : Int) := ⟨_, rfl⟩
 rw [← hLContours]
 have HLContours := Lib.hid hLContours
 have pContours : 0 ≤ LContours := by omega
 have uContours : LContours ≤ 1048576 := by omega
 clear hLContours h_Contours
 go_wp2
 go_ret
 exact ⟨ret_int (by rw [lessBy_yes (by rw [HB.out]; have := HLBox.out; have := HLBudgets.out; have := HLPlans.out; have := HLContours.out; omega)]; rw [HB.out]; have := HLBox.out; have := HLBudgets.out; have := HLPlans.out; have := HLContours.out; omega), (by repeat' (first | with_reducible exact hB4 | with_reducible refine Below.setCell ?_ ?_ _ | with_reducible refine Below.alloc ?_ ?_ _ | (simp; done) | (simp; omega) | omega))⟩

set_option maxHeartbeats 800000 in
theorem szRunNoteS_c (A : Option Addr) (n cap : Nat) (l : List RunNoteD) (left : Int) (w : World) (hr : RS maxLen (rRunNote maxLen) w A n cap l) (h0 : 0 ≤ left) (h1 : left ≤ 1048576) : Calls Tryd.prog 30 #[.slice A n cap, .int .i64 left] w fun e w' => e = .returned (.int .i64 (lessBy left (l.length))) ∧ Below w.heap.size w w' := by
 have hn : n ≤ 9223372036854775807 := hr.nb
 have HL := Lib.hid hr.len
 clear hr
 by_cases h : (n : Int) ≤ left
 all_goals
  go_enter Tryd.func30, Tryd.ntmps30
  go_wp2
  go_ret
  exact ⟨ret_int (by rw [HL.out]; unfold lessBy; split <;> omega), Below.refl _ _⟩

def bulkOutcome (x : OutcomeD) : Nat := (bulkAnswer x.fAnswer) + (x.fNotes.length) + (bulkBox x.fBox)
set_option maxHeartbeats 800000 in
theorem szOutcome_c (cs : List Value) (x : OutcomeD) (left : Int) (w : World) (h : (rOutcome maxLen).rep w cs x) (h0 : 0 ≤ left) (h1 : left ≤ 1048576) : Calls Tryd.prog 11 #[.agg cs.toArray, .int .i64 left] w fun e w' => e = .returned (.int .i64 (lessBy left (bulkOutcome x))) ∧ Below w.heap.size w w' := by
 obtain ⟨AAnswerVars, nAnswerVars, cAnswerVars, AAnswerRows, nAnswerRows, cAnswerRows, ANotes, nNotes, cNotes, ABoxLow, nBoxLow, cBoxLow, ABoxHigh, nBoxHigh, cBoxHigh, rfl, hAnswerVars, hAnswerRows, hTotal, hNotes, hBoxLow, hBoxHigh⟩ := rOutcome_rep.1 h
 clear h
 have hB0 : Below w.heap.size w w := Below.refl _ _
 have HB : Hid (bulkOutcome x = (bulkAnswer x.fAnswer) + (x.fNotes.length) + (bulkBox x.fBox)) := rfl
 go_enter Tryd.func11, Tryd.ntmps11
 go_wp2_with fail
 refine (szAnswer_c _ x.fAnswer _ _ ((rAnswer_ok maxLen).keep (rAnswer_rep.2 ⟨AAnswerVars, nAnswerVars, cAnswerVars, AAnswerRows, nAnswerRows, cAnswerRows, rfl, hAnswerVars, hAnswerRows⟩) (cells_below (by repeat' (first | with_reducible exact hB0 | with_reducible refine Below.setCell ?_ ?_ _ | with_reducible refine Below.alloc ?_ ?_ _ | (simp; done) | (simp; omega) | omega)))) (by omega) (by omega)).mono ?_
 rintro e w1 ⟨rfl, hb1⟩
 have hB1 : Below w.heap.size w w1 := Below.trans (by repeat' (first | with_reducible exact hB0 | with_reducible refine Below.setCell ?_ ?_ _ | with_reducible refine Below.alloc ?_ ?_ _ | (simp; done) | (simp; omega) | omega)) (hb1.mono (by first | (simp; done) | (simp; omega) | omega))
 have hz1 := hb1.size
 obtain ⟨hc1, hf1⟩ := bcell hb1
 try simp at hz1 hc1 hf1
 have hy1_0 : w.heap.size < w1.heap.size := by omega
 clear hb1 hf1
 by_cases h_Answer : (((bulkAnswer x.fAnswer) : Nat) : Int) ≤ left
 rotate_left
 ·rw [lessBy_no h_Answer]
  go_wp2
  go_ret
  exact ⟨ret_int (a := -1) (lessBy_no (by rw [HB.out]; omega)).symm, (by repeat' (first | with_reducible exact hB1 | with_reducible refine Below.setCell ?_ ?_ _ | with_reducible refine Below.alloc ?_ ?_ _ | (simp; done) | (simp; omega) | omega))⟩
 rw [lessBy_yes h_Answer]
 obtain ⟨LAnswer, hLAnswer⟩ : ∃ L, L = left - (((bulkAnswer x.fAnswer) : Nat) : Int) := ⟨_, rfl⟩
 rw [← hLAnswer]
 have HLAnswer := Lib.hid hLAnswer
 have pAnswer : 0 ≤ LAnswer := by omega
 have uAnswer : LAnswer ≤ 1048576 := by omega
 clear hLAnswer h_Answer
 go_wp2_with fail
 refine (szRunNoteS_c _ _ _ _ _ _ (hNotes.below (rRunNote_ok maxLen) (by repeat' (first | with_reducible exact hB1 | with_reducible refine Below.setCell ?_ ?_ _ | with_reducible refine Below.alloc ?_ ?_ _ | (simp; done) | (simp; omega) | omega))) (by omega) (by omega)).mono ?_
 rintro e w2 ⟨rfl, hb2⟩
 have hB2 : Below w.heap.size w w2 := Below.trans (by repeat' (first | with_reducible exact hB1 | with_reducible refine Below.setCell ?_ ?_ _ | with_reducible refine Below.alloc ?_ ?_ _ | (simp; done) | (simp; omega) | omega)) (hb2.mono (by first | (simp; done) | (simp; omega) | omega))
 have hz2 := hb2.size
 obtain ⟨hc2, hf2⟩ := bcell hb2
 try simp at hz2 hc2 hf2
 have hy2_0 : w.heap.size < w2.heap.size := by omega
 clear hb2 hf2
 by_cases h_Notes : (((x.fNotes.length) : Nat) : Int) ≤ LAnswer
 rotate_left
 ·rw [lessBy_no h_Notes]
  go_wp2
  go_ret
  exact ⟨ret_int (a := -1) (lessBy_no (by rw [HB.out]; have := HLAnswer.out; omega)).symm, (by repeat' (first | with_reducible exact hB2 | with_reducible refine Below.setCell ?_ ?_ _ | with_reducible refine Below.alloc ?_ ?_ _ | (simp; done) | (simp; omega) | omega))⟩
 rw [lessBy_yes h_Notes]
 obtain ⟨LNotes, hLNotes⟩ : ∃ L, L = LAnswer - (((x.fNotes.length) : Nat) : Int) := ⟨_, rfl⟩
 rw [← hLNotes]
 have HLNotes := Lib.hid hLNotes
 have pNotes : 0 ≤ LNotes := by omega
 have uNotes : LNotes ≤ 1048576 := by omega
 clear hLNotes h_Notes
 go_wp2_with fail
 refine (szBox_c _ x.fBox _ _ ((rBox_ok maxLen).keep (rBox_rep.2 ⟨ABoxLow, nBoxLow, cBoxLow, ABoxHigh, nBoxHigh, cBoxHigh, rfl, hBoxLow, hBoxHigh⟩) (cells_below (by repeat' (first | with_reducible exact hB2 | with_reducible refine Below.setCell ?_ ?_ _ | with_reducible refine Below.alloc ?_ ?_ _ | (simp; done) | (simp; omega) | omega)))) (by omega) (by omega)).mono ?_
 rintro e w3 ⟨rfl, hb3⟩
 have hB3 : Below w.heap.size w w3 := Below.trans (by repeat' (first | with_reducible exact hB2 | with_reducible refine Below.setCell ?_ ?_ _ | with_reducible refine Below.alloc ?_ ?_ _ | (simp; done) | (simp; omega) | omega)) (hb3.mono (by first | (simp; done) | (simp; omega) | omega))
 have hz3 := hb3.size
 obtain ⟨hc3, hf3⟩ := bcell hb3
 try simp at hz3 hc3 hf3
 have hy3_0 : w.heap.size < w3.heap.size := by omega
 clear hb3 hf3
 by_cases h_Box : (((bulkBox x.fBox) : Nat) : Int) ≤ LNotes
 rotate_left
 ·rw [lessBy_no h_Box]
  go_wp2
  go_ret
  exact ⟨ret_int (a := -1) (lessBy_no (by rw [HB.out]; have := HLAnswer.out; have := HLNotes.out; omega)).symm, (by repeat' (first | with_reducible exact hB3 | with_reducible refine Below.setCell ?_ ?_ _ | with_reducible refine Below.alloc ?_ ?_ _ | (simp; done) | (simp; omega) | omega))⟩
 rw [lessBy_yes h_Box]
 obtain ⟨LBox, hLBox⟩ : ∃ L, L = LNotes - (((bulkBox x.fBox) : Nat) : Int) := ⟨_, rfl⟩
 rw [← hLBox]
 have HLBox := Lib.hid hLBox
 have pBox : 0 ≤ LBox := by omega
 have uBox : LBox ≤ 1048576 := by omega
 clear hLBox h_Box
 go_wp2
 go_ret
 exact ⟨ret_int (by rw [lessBy_yes (by rw [HB.out]; have := HLAnswer.out; have := HLNotes.out; have := HLBox.out; omega)]; rw [HB.out]; have := HLAnswer.out; have := HLNotes.out; have := HLBox.out; omega), (by repeat' (first | with_reducible exact hB3 | with_reducible refine Below.setCell ?_ ?_ _ | with_reducible refine Below.alloc ?_ ?_ _ | (simp; done) | (simp; omega) | omega))⟩








end Go.Proofs.YtnbikckbnbgjkaaDoor
