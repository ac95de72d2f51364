/-
  Eq
-/
import Derived.Test.YtnbikckbnbgjkaaDoorTypes
namespace Go.Proofs.YtnbikckbnbgjkaaDoor
open Go.RowKit
set_option linter.unusedVariables false
set_option linter.unusedSimpArgs false

theorem eqIntS_b (A A' : Option Addr) (n n' cap cap' : Nat) (l l' : List Int) (w : World) (hr : RS NB rInt w A n cap l) (hr' : RS NB rInt w A' n' cap' l') : Calls Tryd.prog 49 #[.slice A n cap, .slice A' n' cap'] w fun e w' => e = .returned (.bool (decide (l = l'))) ∧ Below w.heap.size w w' :=
 (eqIntS_c A A' n n' cap cap' l l' w hr hr').mono fun _ _ ⟨h, q⟩ => ⟨h, q.below _⟩


set_option maxRecDepth 100000 in
set_option maxHeartbeats 800000 in
theorem eqIntSS_b (A A' : Option Addr) (n n' cap cap' : Nat) (l l' : List (List Int)) (w : World) (hr : RS NB (rSlice NB 3 rInt) w A n cap l) (hr' : RS NB (rSlice NB 3 rInt) w A' n' cap' l') : Calls Tryd.prog 51 #[.slice A n cap, .slice A' n' cap'] w fun e w' => e = .returned (.bool (decide (l = l'))) ∧ Below w.heap.size w w' := by
 have hn := hr.bound
 have hn' := hr'.bound
 by_cases hne : n = n'
 ·subst hne
  go_enter Tryd.func51, Tryd.ntmps51
  go_wp2
  go_loopw [5] (fun i wr => ∃ k : Nat, k ≤ n ∧ i = .int .i64 k ∧ l.take k = l'.take k ∧ Below w.heap.size w wr) (fun i _ => n - (intOf i).toNat)
  case atStart => exact ⟨0, Nat.zero_le _, rfl, rfl, Below.refl _ _⟩
  case round =>
   obtain ⟨k, hk, rfl, heq, hb⟩ := hrel
   have HE := Lib.hid heq; clear heq
   by_cases hlt : k < n
   ·obtain ⟨b, off, x, cs, rfl, hrep, hcell, hxk⟩ := (hr.below (rSlice_ok NB _ rInt_ok) hb).at_ hlt
    obtain ⟨bQ, offQ, xQ, csQ, rfl, hrepQ, hcellQ, hxkQ⟩ := (hr'.below (rSlice_ok NB _ rInt_ok) hb).at_ hlt
    have hrep0 := hrep
    have hrepQ0 := hrepQ
    obtain ⟨Ae, ne, ce, rfl, hre⟩ := hrep
    have q0 : wr.cell? ⟨b, off + k, none⟩ = some (.slice Ae ne ce) := by simpa [rSlice] using hcell 0 _ rfl
    clear hcell
    obtain ⟨AeQ, neQ, ceQ, rfl, hreQ⟩ := hrepQ
    have q0Q : wr.cell? ⟨bQ, offQ + k, none⟩ = some (.slice AeQ neQ ceQ) := by simpa [rSlice] using hcellQ 0 _ rfl
    clear hcellQ
    go_wp2_with fail
    go_still_tail 8, (by kernel_rfl)
    go_wp2_with fail
    refine (eqIntS_b _ _ _ _ _ _ _ _ wr.drew (hre.keep rInt_ok (fun _ _ h => h)) (hreQ.keep rInt_ok (fun _ _ h => h))).mono ?_
    rintro e w1 ⟨rfl, hb1⟩
    have hB1 : Below w.heap.size w w1 := hb.drew.trans (hb1.mono hb.size)
    by_cases hx : x = xQ
    ·have hbb : decide (x = xQ) = true := by simp [hx]
     have HX := Lib.hid hx; clear hx
     go_wp2
     go_roundw
     case rel => exact ⟨k + 1, by omega, by go_num, take_eq_snoc HE.out hxk.out (HX.out ▸ hxkQ.out), hB1⟩
     case measure => simp [intOf]; omega
    ·have hbb : decide (x = xQ) = false := by simp [hx]
     go_wp2
     go_ret
     exact ⟨ret_bool (a := false) (by have := ne_of_at hxk.out hxkQ.out hx; simp [this]), hB1⟩
   ·go_wp2
    go_ret
    have e : l = l' := by rw [← take_all hr.len hlt, ← take_all hr'.len hlt]; exact HE.out
    exact ⟨ret_bool (a := true) (by simp [e]), hb⟩
 ·have hb : ((n : Int) != (n' : Int)) = true := by simp; omega
  go_enter Tryd.func51, Tryd.ntmps51
  go_wp2
  go_ret
  have e : l ≠ l' := by rintro rfl; exact hne (hr.len.symm.trans hr'.len)
  exact ⟨ret_bool (a := false) (by simp [e]), Below.refl _ _⟩









set_option maxHeartbeats 800000 in
theorem eqAnswer_c (cs cs' : List Value) (x y : AnswerD) (w : World) (h : (rAnswer NB).rep w cs x) (h' : (rAnswer NB).rep w cs' y) : Calls Tryd.prog 29 #[.agg cs.toArray, .agg cs'.toArray] w fun e w' => e = .returned (.bool (decide (x = y))) ∧ Below w.heap.size w w' := by
 obtain ⟨AVars, nVars, cVars, ARows, nRows, cRows, rfl, hVars, hRows⟩ := rAnswer_rep.1 h
 obtain ⟨AVarsQ, nVarsQ, cVarsQ, ARowsQ, nRowsQ, cRowsQ, rfl, hVarsQ, hRowsQ⟩ := rAnswer_rep.1 h'
 clear h h'
 have hB0 : Below w.heap.size w w := Below.refl _ _
 go_enter Tryd.func29, Tryd.ntmps29
 go_wp2_with fail
 refine (eqIntS_b _ _ _ _ _ _ _ _ _ (hVars.below rInt_ok (by repeat' (first | with_reducible exact hB0 | with_reducible refine Below.setCell ?_ ?_ _ | with_reducible refine Below.alloc ?_ ?_ _ | (simp; done) | (simp; omega) | omega))) (hVarsQ.below rInt_ok (by repeat' (first | with_reducible exact hB0 | with_reducible refine Below.setCell ?_ ?_ _ | with_reducible refine Below.alloc ?_ ?_ _ | (simp; done) | (simp; omega) | omega)))).mono ?_
 rintro e w1 ⟨rfl, hb1⟩
 have hB1 : Below w.heap.size w w1 := Below.trans (by repeat' (first | with_reducible exact hB0 | with_reducible refine Below.setCell ?_ ?_ _ | with_reducible refine Below.alloc ?_ ?_ _ | (simp; done) | (simp; omega) | omega)) (hb1.mono (by first | (simp; done) | (simp; omega) | omega))
 have hz1 := hb1.size
 obtain ⟨hc1, hf1⟩ := bcell hb1
 try simp at hz1 hc1 hf1
 have hy1_0 : w.heap.size < w1.heap.size := by omega
 have hy1_1 : w.heap.size + 1 < w1.heap.size := by omega
 clear hb1 hf1
 by_cases h_Vars : x.fVars = y.fVars
 rotate_left
 ·have hb : decide (x.fVars = y.fVars) = false := by simp [h_Vars]
  go_wp2
  go_ret
  exact ⟨ret_bool (a := false) (decide_eq_false (fun hh => h_Vars (by rw [hh]))).symm, (by repeat' (first | with_reducible exact hB1 | with_reducible refine Below.setCell ?_ ?_ _ | with_reducible refine Below.alloc ?_ ?_ _ | (simp; done) | (simp; omega) | omega))⟩
 have hbeVars : decide (x.fVars = y.fVars) = true := by simp [h_Vars]
 have H_Vars := Lib.hid h_Vars; clear h_Vars
 go_wp2_with fail
 refine (eqIntSS_b _ _ _ _ _ _ _ _ _ (hRows.below (rSlice_ok NB _ rInt_ok) (by repeat' (first | with_reducible exact hB1 | with_reducible refine Below.setCell ?_ ?_ _ | with_reducible refine Below.alloc ?_ ?_ _ | (simp; done) | (simp; omega) | omega))) (hRowsQ.below (rSlice_ok NB _ rInt_ok) (by repeat' (first | with_reducible exact hB1 | with_reducible refine Below.setCell ?_ ?_ _ | with_reducible refine Below.alloc ?_ ?_ _ | (simp; done) | (simp; omega) | omega)))).mono ?_
 rintro e w2 ⟨rfl, hb2⟩
 have hB2 : Below w.heap.size w w2 := Below.trans (by repeat' (first | with_reducible exact hB1 | with_reducible refine Below.setCell ?_ ?_ _ | with_reducible refine Below.alloc ?_ ?_ _ | (simp; done) | (simp; omega) | omega)) (hb2.mono (by first | (simp; done) | (simp; omega) | omega))
 have hz2 := hb2.size
 obtain ⟨hc2, hf2⟩ := bcell hb2
 try simp at hz2 hc2 hf2
 have hy2_0 : w.heap.size < w2.heap.size := by omega
 have hy2_1 : w.heap.size + 1 < w2.heap.size := by omega
 clear hb2 hf2
 by_cases h_Rows : x.fRows = y.fRows
 rotate_left
 ·have hb : decide (x.fRows = y.fRows) = false := by simp [h_Rows]
  go_wp2
  go_ret
  exact ⟨ret_bool (a := false) (decide_eq_false (fun hh => h_Rows (by rw [hh]))).symm, (by repeat' (first | with_reducible exact hB2 | with_reducible refine Below.setCell ?_ ?_ _ | with_reducible refine Below.alloc ?_ ?_ _ | (simp; done) | (simp; omega) | omega))⟩
 have hbeRows : decide (x.fRows = y.fRows) = true := by simp [h_Rows]
 have H_Rows := Lib.hid h_Rows; clear h_Rows
 go_wp2
 go_ret
 exact ⟨ret_bool (a := true) (decide_eq_true (by cases x; cases y; simp only [AnswerD.mk.injEq]; exact ⟨H_Vars.out, H_Rows.out⟩)).symm, (by repeat' (first | with_reducible exact hB2 | with_reducible refine Below.setCell ?_ ?_ _ | with_reducible refine Below.alloc ?_ ?_ _ | (simp; done) | (simp; omega) | omega))⟩

















set_option maxHeartbeats 800000 in
theorem eqBox_c (cs cs' : List Value) (x y : BoxD) (w : World) (h : (rBox NB).rep w cs x) (h' : (rBox NB).rep w cs' y) : Calls Tryd.prog 35 #[.agg cs.toArray, .agg cs'.toArray] w fun e w' => e = .returned (.bool (decide (x = y))) ∧ Below w.heap.size w w' := by
 obtain ⟨ALow, nLow, cLow, AHigh, nHigh, cHigh, rfl, hLow, hHigh⟩ := rBox_rep.1 h
 obtain ⟨ALowQ, nLowQ, cLowQ, AHighQ, nHighQ, cHighQ, rfl, hLowQ, hHighQ⟩ := rBox_rep.1 h'
 clear h h'
 have hB0 : Below w.heap.size w w := Below.refl _ _
 go_enter Tryd.func35, Tryd.ntmps35
 go_wp2_with fail
 refine (eqIntS_b _ _ _ _ _ _ _ _ _ (hLow.below rInt_ok (by repeat' (first | with_reducible exact hB0 | with_reducible refine Below.setCell ?_ ?_ _ | with_reducible refine Below.alloc ?_ ?_ _ | (simp; done) | (simp; omega) | omega))) (hLowQ.below rInt_ok (by repeat' (first | with_reducible exact hB0 | with_reducible refine Below.setCell ?_ ?_ _ | with_reducible refine Below.alloc ?_ ?_ _ | (simp; done) | (simp; omega) | omega)))).mono ?_
 rintro e w1 ⟨rfl, hb1⟩
 have hB1 : Below w.heap.size w w1 := Below.trans (by repeat' (first | with_reducible exact hB0 | with_reducible refine Below.setCell ?_ ?_ _ | with_reducible refine Below.alloc ?_ ?_ _ | (simp; done) | (simp; omega) | omega)) (hb1.mono (by first | (simp; done) | (simp; omega) | omega))
 have hz1 := hb1.size
 obtain ⟨hc1, hf1⟩ := bcell hb1
 try simp at hz1 hc1 hf1
 have hy1_0 : w.heap.size < w1.heap.size := by omega
 have hy1_1 : w.heap.size + 1 < w1.heap.size := by omega
 clear hb1 hf1
 by_cases h_Low : x.fLow = y.fLow
 rotate_left
 ·have hb : decide (x.fLow = y.fLow) = false := by simp [h_Low]
  go_wp2
  go_ret
  exact ⟨ret_bool (a := false) (decide_eq_false (fun hh => h_Low (by rw [hh]))).symm, (by repeat' (first | with_reducible exact hB1 | with_reducible refine Below.setCell ?_ ?_ _ | with_reducible refine Below.alloc ?_ ?_ _ | (simp; done) | (simp; omega) | omega))⟩
 have hbeLow : decide (x.fLow = y.fLow) = true := by simp [h_Low]
 have H_Low := Lib.hid h_Low; clear h_Low
 go_wp2_with fail
 refine (eqIntS_b _ _ _ _ _ _ _ _ _ (hHigh.below rInt_ok (by repeat' (first | with_reducible exact hB1 | with_reducible refine Below.setCell ?_ ?_ _ | with_reducible refine Below.alloc ?_ ?_ _ | (simp; done) | (simp; omega) | omega))) (hHighQ.below rInt_ok (by repeat' (first | with_reducible exact hB1 | with_reducible refine Below.setCell ?_ ?_ _ | with_reducible refine Below.alloc ?_ ?_ _ | (simp; done) | (simp; omega) | omega)))).mono ?_
 rintro e w2 ⟨rfl, hb2⟩
 have hB2 : Below w.heap.size w w2 := Below.trans (by repeat' (first | with_reducible exact hB1 | with_reducible refine Below.setCell ?_ ?_ _ | with_reducible refine Below.alloc ?_ ?_ _ | (simp; done) | (simp; omega) | omega)) (hb2.mono (by first | (simp; done) | (simp; omega) | omega))
 have hz2 := hb2.size
 obtain ⟨hc2, hf2⟩ := bcell hb2
 try simp at hz2 hc2 hf2
 have hy2_0 : w.heap.size < w2.heap.size := by omega
 have hy2_1 : w.heap.size + 1 < w2.heap.size := by omega
 clear hb2 hf2
 by_cases h_High : x.fHigh = y.fHigh
 rotate_left
 ·have hb : decide (x.fHigh = y.fHigh) = false := by simp [h_High]
  go_wp2
  go_ret
  exact ⟨ret_bool (a := false) (decide_eq_false (fun hh => h_High (by rw [hh]))).symm, (by repeat' (first | with_reducible exact hB2 | with_reducible refine Below.setCell ?_ ?_ _ | with_reducible refine Below.alloc ?_ ?_ _ | (simp; done) | (simp; omega) | omega))⟩
 have hbeHigh : decide (x.fHigh = y.fHigh) = true := by simp [h_High]
 have H_High := Lib.hid h_High; clear h_High
 go_wp2
 go_ret
 exact ⟨ret_bool (a := true) (decide_eq_true (by cases x; cases y; simp only [BoxD.mk.injEq]; exact ⟨H_Low.out, H_High.out⟩)).symm, (by repeat' (first | with_reducible exact hB2 | with_reducible refine Below.setCell ?_ ?_ _ | with_reducible refine Below.alloc ?_ ?_ _ | (simp; done) | (simp; omega) | omega))⟩





set_option maxHeartbeats 800000 in
theorem eqPlanStep_c (cs cs' : List Value) (x y : PlanStepD) (w : World) (h : (rPlanStep NB).rep w cs x) (h' : (rPlanStep NB).rep w cs' y) : Calls Tryd.prog 86 #[.agg cs.toArray, .agg cs'.toArray] w fun e w' => e = .returned (.bool (decide (x = y))) ∧ Below w.heap.size w w' := by
 obtain ⟨rfl, hKind, hAtom, hOrder⟩ := rPlanStep_rep.1 h
 obtain ⟨rfl, hKindQ, hAtomQ, hOrderQ⟩ := rPlanStep_rep.1 h'
 clear h h'
 have hB0 : Below w.heap.size w w := Below.refl _ _
 go_enter Tryd.func86, Tryd.ntmps86
 by_cases h_Kind : x.fKind = y.fKind
 rotate_left
 ·have hb : (x.fKind != y.fKind) = true := by simp [h_Kind]
  go_wp2
  go_ret
  exact ⟨ret_bool (a := false) (decide_eq_false (fun hh => h_Kind (by rw [hh]))).symm, (by repeat' (first | with_reducible exact hB0 | with_reducible refine Below.setCell ?_ ?_ _ | with_reducible refine Below.alloc ?_ ?_ _ | (simp; done) | (simp; omega) | omega))⟩
 have hbeKind : (x.fKind != y.fKind) = false := by simp [h_Kind]
 have H_Kind := Lib.hid h_Kind; clear h_Kind
 by_cases h_Atom : x.fAtom = y.fAtom
 rotate_left
 ·have hb : (x.fAtom != y.fAtom) = true := by simp [h_Atom]
  go_wp2
  go_ret
  exact ⟨ret_bool (a := false) (decide_eq_false (fun hh => h_Atom (by rw [hh]))).symm, (by repeat' (first | with_reducible exact hB0 | with_reducible refine Below.setCell ?_ ?_ _ | with_reducible refine Below.alloc ?_ ?_ _ | (simp; done) | (simp; omega) | omega))⟩
 have hbeAtom : (x.fAtom != y.fAtom) = false := by simp [h_Atom]
 have H_Atom := Lib.hid h_Atom; clear h_Atom
 by_cases h_Order : x.fOrder = y.fOrder
 rotate_left
 ·have hb : (x.fOrder != y.fOrder) = true := by simp [h_Order]
  go_wp2
  go_ret
  exact ⟨ret_bool (a := false) (decide_eq_false (fun hh => h_Order (by rw [hh]))).symm, (by repeat' (first | with_reducible exact hB0 | with_reducible refine Below.setCell ?_ ?_ _ | with_reducible refine Below.alloc ?_ ?_ _ | (simp; done) | (simp; omega) | omega))⟩
 have hbeOrder : (x.fOrder != y.fOrder) = false := by simp [h_Order]
 have H_Order := Lib.hid h_Order; clear h_Order
 go_wp2
 go_ret
 exact ⟨ret_bool (a := true) (decide_eq_true (by cases x; cases y; simp only [PlanStepD.mk.injEq]; exact ⟨H_Kind.out, H_Atom.out, H_Order.out⟩)).symm, (by repeat' (first | with_reducible exact hB0 | with_reducible refine Below.setCell ?_ ?_ _ | with_reducible refine Below.alloc ?_ ?_ _ | (simp; done) | (simp; omega) | omega))⟩

set_option maxRecDepth 100000 in
set_option maxHeartbeats 800000 in
theorem eqPlanStepS_b (A A' : Option Addr) (n n' cap cap' : Nat) (l l' : List PlanStepD) (w : World) (hr : RS NB (rPlanStep NB) w A n cap l) (hr' : RS NB (rPlanStep NB) w A' n' cap' l') : Calls Tryd.prog 81 #[.slice A n cap, .slice A' n' cap'] w fun e w' => e = .returned (.bool (decide (l = l'))) ∧ Below w.heap.size w w' := by
 have hn := hr.bound
 have hn' := hr'.bound
 by_cases hne : n = n'
 ·subst hne
  go_enter Tryd.func81, Tryd.ntmps81
  go_wp2
  go_loopw [5] (fun i wr => ∃ k : Nat, k ≤ n ∧ i = .int .i64 k ∧ l.take k = l'.take k ∧ Below w.heap.size w wr) (fun i _ => n - (intOf i).toNat)
  case atStart => exact ⟨0, Nat.zero_le _, rfl, rfl, Below.refl _ _⟩
  case round =>
   obtain ⟨k, hk, rfl, heq, hb⟩ := hrel
   have HE := Lib.hid heq; clear heq
   by_cases hlt : k < n
   ·obtain ⟨b, off, x, cs, rfl, hrep, hcell, hxk⟩ := (hr.below (rPlanStep_ok NB) hb).at_ hlt
    obtain ⟨bQ, offQ, xQ, csQ, rfl, hrepQ, hcellQ, hxkQ⟩ := (hr'.below (rPlanStep_ok NB) hb).at_ hlt
    have hrep0 := hrep
    have hrepQ0 := hrepQ
    obtain ⟨rfl, hKind, hAtom, hOrder⟩ := rPlanStep_rep.1 hrep
    have q0 : wr.cell? ⟨b, off + k * 3, none⟩ = some (.int .i64 x.fKind) := by simpa [rPlanStep_size] using hcell 0 _ rfl
    have q1 : wr.cell? ⟨b, off + k * 3 + 1, none⟩ = some (.int .i64 x.fAtom) := by simpa [rPlanStep_size] using hcell 1 _ rfl
    have q2 : wr.cell? ⟨b, off + k * 3 + 2, none⟩ = some (.int .i64 x.fOrder) := by simpa [rPlanStep_size] using hcell 2 _ rfl
    clear hcell
    obtain ⟨rfl, hKindQ, hAtomQ, hOrderQ⟩ := rPlanStep_rep.1 hrepQ
    have q0Q : wr.cell? ⟨bQ, offQ + k * 3, none⟩ = some (.int .i64 xQ.fKind) := by simpa [rPlanStep_size] using hcellQ 0 _ rfl
    have q1Q : wr.cell? ⟨bQ, offQ + k * 3 + 1, none⟩ = some (.int .i64 xQ.fAtom) := by simpa [rPlanStep_size] using hcellQ 1 _ rfl
    have q2Q : wr.cell? ⟨bQ, offQ + k * 3 + 2, none⟩ = some (.int .i64 xQ.fOrder) := by simpa [rPlanStep_size] using hcellQ 2 _ rfl
    clear hcellQ
    go_wp2_with fail
    go_still_tail 8, (by kernel_rfl)
    go_wp2_with fail
    refine (eqPlanStep_c _ _ x xQ wr.drew ((rPlanStep_ok NB).keep hrep0 (fun _ _ h => h)) ((rPlanStep_ok NB).keep hrepQ0 (fun _ _ h => h))).mono ?_
    rintro e w1 ⟨rfl, hb1⟩
    have hB1 : Below w.heap.size w w1 := hb.drew.trans (hb1.mono hb.size)
    by_cases hx : x = xQ
    ·have hbb : decide (x = xQ) = true := by simp [hx]
     have HX := Lib.hid hx; clear hx
     go_wp2
     go_roundw
     case rel => exact ⟨k + 1, by omega, by go_num, take_eq_snoc HE.out hxk.out (HX.out ▸ hxkQ.out), hB1⟩
     case measure => simp [intOf]; omega
    ·have hbb : decide (x = xQ) = false := by simp [hx]
     go_wp2
     go_ret
     exact ⟨ret_bool (a := false) (by have := ne_of_at hxk.out hxkQ.out hx; simp [this]), hB1⟩
   ·go_wp2
    go_ret
    have e : l = l' := by rw [← take_all hr.len hlt, ← take_all hr'.len hlt]; exact HE.out
    exact ⟨ret_bool (a := true) (by simp [e]), hb⟩
 ·have hb : ((n : Int) != (n' : Int)) = true := by simp; omega
  go_enter Tryd.func81, Tryd.ntmps81
  go_wp2
  go_ret
  have e : l ≠ l' := by rintro rfl; exact hne (hr.len.symm.trans hr'.len)
  exact ⟨ret_bool (a := false) (by simp [e]), Below.refl _ _⟩

set_option maxHeartbeats 800000 in
theorem eqPlan_c (cs cs' : List Value) (x y : PlanD) (w : World) (h : (rPlan NB).rep w cs x) (h' : (rPlan NB).rep w cs' y) : Calls Tryd.prog 68 #[.agg cs.toArray, .agg cs'.toArray] w fun e w' => e = .returned (.bool (decide (x = y))) ∧ Below w.heap.size w w' := by
 obtain ⟨ASteps, nSteps, cSteps, rfl, hSteps⟩ := rPlan_rep.1 h
 obtain ⟨AStepsQ, nStepsQ, cStepsQ, rfl, hStepsQ⟩ := rPlan_rep.1 h'
 clear h h'
 have hB0 : Below w.heap.size w w := Below.refl _ _
 go_enter Tryd.func68, Tryd.ntmps68
 go_wp2_with fail
 refine (eqPlanStepS_b _ _ _ _ _ _ _ _ _ (hSteps.below (rPlanStep_ok NB) (by repeat' (first | with_reducible exact hB0 | with_reducible refine Below.setCell ?_ ?_ _ | with_reducible refine Below.alloc ?_ ?_ _ | (simp; done) | (simp; omega) | omega))) (hStepsQ.below (rPlanStep_ok NB) (by repeat' (first | with_reducible exact hB0 | with_reducible refine Below.setCell ?_ ?_ _ | with_reducible refine Below.alloc ?_ ?_ _ | (simp; done) | (simp; omega) | omega)))).mono ?_
 rintro e w1 ⟨rfl, hb1⟩
 have hB1 : Below w.heap.size w w1 := Below.trans (by repeat' (first | with_reducible exact hB0 | with_reducible refine Below.setCell ?_ ?_ _ | with_reducible refine Below.alloc ?_ ?_ _ | (simp; done) | (simp; omega) | omega)) (hb1.mono (by first | (simp; done) | (simp; omega) | omega))
 have hz1 := hb1.size
 obtain ⟨hc1, hf1⟩ := bcell hb1
 try simp at hz1 hc1 hf1
 have hy1_0 : w.heap.size < w1.heap.size := by omega
 have hy1_1 : w.heap.size + 1 < w1.heap.size := by omega
 clear hb1 hf1
 by_cases h_Steps : x.fSteps = y.fSteps
 rotate_left
 ·have hb : decide (x.fSteps = y.fSteps) = false := by simp [h_Steps]
  go_wp2
  go_ret
  exact ⟨ret_bool (a := false) (decide_eq_false (fun hh => h_Steps (by rw [hh]))).symm, (by repeat' (first | with_reducible exact hB1 | with_reducible refine Below.setCell ?_ ?_ _ | with_reducible refine Below.alloc ?_ ?_ _ | (simp; done) | (simp; omega) | omega))⟩
 have hbeSteps : decide (x.fSteps = y.fSteps) = true := by simp [h_Steps]
 have H_Steps := Lib.hid h_Steps; clear h_Steps
 go_wp2
 go_ret
 exact ⟨ret_bool (a := true) (decide_eq_true (by cases x; cases y; simp only [PlanD.mk.injEq]; exact H_Steps.out)).symm, (by repeat' (first | with_reducible exact hB1 | with_reducible refine Below.setCell ?_ ?_ _ | with_reducible refine Below.alloc ?_ ?_ _ | (simp; done) | (simp; omega) | omega))⟩

set_option maxRecDepth 100000 in
set_option maxHeartbeats 800000 in
theorem eqPlanS_b (A A' : Option Addr) (n n' cap cap' : Nat) (l l' : List PlanD) (w : World) (hr : RS NB (rPlan NB) w A n cap l) (hr' : RS NB (rPlan NB) w A' n' cap' l') : Calls Tryd.prog 50 #[.slice A n cap, .slice A' n' cap'] w fun e w' => e = .returned (.bool (decide (l = l'))) ∧ Below w.heap.size w w' := by
 have hn := hr.bound
 have hn' := hr'.bound
 by_cases hne : n = n'
 ·subst hne
  go_enter Tryd.func50, Tryd.ntmps50
  go_wp2
  go_loopw [5] (fun i wr => ∃ k : Nat, k ≤ n ∧ i = .int .i64 k ∧ l.take k = l'.take k ∧ Below w.heap.size w wr) (fun i _ => n - (intOf i).toNat)
  case atStart => exact ⟨0, Nat.zero_le _, rfl, rfl, Below.refl _ _⟩
  case round =>
   obtain ⟨k, hk, rfl, heq, hb⟩ := hrel
   have HE := Lib.hid heq; clear heq
   by_cases hlt : k < n
   ·obtain ⟨b, off, x, cs, rfl, hrep, hcell, hxk⟩ := (hr.below (rPlan_ok NB) hb).at_ hlt
    obtain ⟨bQ, offQ, xQ, csQ, rfl, hrepQ, hcellQ, hxkQ⟩ := (hr'.below (rPlan_ok NB) hb).at_ hlt
    have hrep0 := hrep
    have hrepQ0 := hrepQ
    obtain ⟨ASteps, nSteps, cSteps, rfl, hSteps⟩ := rPlan_rep.1 hrep
    have q0 : wr.cell? ⟨b, off + k, none⟩ = some (.slice ASteps nSteps cSteps) := by simpa [rPlan_size] using hcell 0 _ rfl
    clear hcell
    obtain ⟨AStepsQ, nStepsQ, cStepsQ, rfl, hStepsQ⟩ := rPlan_rep.1 hrepQ
    have q0Q : wr.cell? ⟨bQ, offQ + k, none⟩ = some (.slice AStepsQ nStepsQ cStepsQ) := by simpa [rPlan_size] using hcellQ 0 _ rfl
    clear hcellQ
    go_wp2_with fail
    go_still_tail 8, (by kernel_rfl)
    go_wp2_with fail
    refine (eqPlan_c _ _ x xQ wr.drew ((rPlan_ok NB).keep hrep0 (fun _ _ h => h)) ((rPlan_ok NB).keep hrepQ0 (fun _ _ h => h))).mono ?_
    rintro e w1 ⟨rfl, hb1⟩
    have hB1 : Below w.heap.size w w1 := hb.drew.trans (hb1.mono hb.size)
    by_cases hx : x = xQ
    ·have hbb : decide (x = xQ) = true := by simp [hx]
     have HX := Lib.hid hx; clear hx
     go_wp2
     go_roundw
     case rel => exact ⟨k + 1, by omega, by go_num, take_eq_snoc HE.out hxk.out (HX.out ▸ hxkQ.out), hB1⟩
     case measure => simp [intOf]; omega
    ·have hbb : decide (x = xQ) = false := by simp [hx]
     go_wp2
     go_ret
     exact ⟨ret_bool (a := false) (by have := ne_of_at hxk.out hxkQ.out hx; simp [this]), hB1⟩
   ·go_wp2
    go_ret
    have e : l = l' := by rw [← take_all hr.len hlt, ← take_all hr'.len hlt]; exact HE.out
    exact ⟨ret_bool (a := true) (by simp [e]), hb⟩
 ·have hb : ((n : Int) != (n' : Int)) = true := by simp; omega
  go_enter Tryd.func50, Tryd.ntmps50
  go_wp2
  go_ret
  have e : l ≠ l' := by rintro rfl; exact hne (hr.len.symm.trans hr'.len)
  exact ⟨ret_bool (a := false) (by simp [e]), Below.refl _ _⟩




set_option maxHeartbeats 800000 in
theorem eqObservation_c (cs cs' : List Value) (x y : ObservationD) (w : World) (h : (rObservation NB).rep w cs x) (h' : (rObservation NB).rep w cs' y) : Calls Tryd.prog 54 #[.agg cs.toArray, .agg cs'.toArray] w fun e w' => e = .returned (.bool (decide (x = y))) ∧ Below w.heap.size w w' := by
 obtain ⟨rfl, hMask, hClass⟩ := rObservation_rep.1 h
 obtain ⟨rfl, hMaskQ, hClassQ⟩ := rObservation_rep.1 h'
 clear h h'
 have hB0 : Below w.heap.size w w := Below.refl _ _
 go_enter Tryd.func54, Tryd.ntmps54
 by_cases h_Mask : x.fMask = y.fMask
 rotate_left
 ·have hb : (x.fMask != y.fMask) = true := by simp [h_Mask]
  go_wp2
  go_ret
  exact ⟨ret_bool (a := false) (decide_eq_false (fun hh => h_Mask (by rw [hh]))).symm, (by repeat' (first | with_reducible exact hB0 | with_reducible refine Below.setCell ?_ ?_ _ | with_reducible refine Below.alloc ?_ ?_ _ | (simp; done) | (simp; omega) | omega))⟩
 have hbeMask : (x.fMask != y.fMask) = false := by simp [h_Mask]
 have H_Mask := Lib.hid h_Mask; clear h_Mask
 by_cases h_Class : x.fClass = y.fClass
 rotate_left
 ·have hb : (x.fClass != y.fClass) = true := by simp [h_Class]
  go_wp2
  go_ret
  exact ⟨ret_bool (a := false) (decide_eq_false (fun hh => h_Class (by rw [hh]))).symm, (by repeat' (first | with_reducible exact hB0 | with_reducible refine Below.setCell ?_ ?_ _ | with_reducible refine Below.alloc ?_ ?_ _ | (simp; done) | (simp; omega) | omega))⟩
 have hbeClass : (x.fClass != y.fClass) = false := by simp [h_Class]
 have H_Class := Lib.hid h_Class; clear h_Class
 by_cases h_Exact : x.fExact = y.fExact
 rotate_left
 ·have hb : (x.fExact == y.fExact) = false := by simp [h_Exact]
  go_wp2
  go_ret
  exact ⟨ret_bool (a := false) (decide_eq_false (fun hh => h_Exact (by rw [hh]))).symm, (by repeat' (first | with_reducible exact hB0 | with_reducible refine Below.setCell ?_ ?_ _ | with_reducible refine Below.alloc ?_ ?_ _ | (simp; done) | (simp; omega) | omega))⟩
 have hbeExact : (x.fExact == y.fExact) = true := by simp [h_Exact]
 have H_Exact := Lib.hid h_Exact; clear h_Exact
 go_wp2
 go_ret
 exact ⟨ret_bool (a := true) (decide_eq_true (by cases x; cases y; simp only [ObservationD.mk.injEq]; exact ⟨H_Mask.out, H_Class.out, H_Exact.out⟩)).symm, (by repeat' (first | with_reducible exact hB0 | with_reducible refine Below.setCell ?_ ?_ _ | with_reducible refine Below.alloc ?_ ?_ _ | (simp; done) | (simp; omega) | omega))⟩

set_option maxRecDepth 100000 in
set_option maxHeartbeats 800000 in
theorem eqObservationS_b (A A' : Option Addr) (n n' cap cap' : Nat) (l l' : List ObservationD) (w : World) (hr : RS NB (rObservation NB) w A n cap l) (hr' : RS NB (rObservation NB) w A' n' cap' l') : Calls Tryd.prog 28 #[.slice A n cap, .slice A' n' cap'] w fun e w' => e = .returned (.bool (decide (l = l'))) ∧ Below w.heap.size w w' := by
 have hn := hr.bound
 have hn' := hr'.bound
 by_cases hne : n = n'
 ·subst hne
  go_enter Tryd.func28, Tryd.ntmps28
  go_wp2
  go_loopw [5] (fun i wr => ∃ k : Nat, k ≤ n ∧ i = .int .i64 k ∧ l.take k = l'.take k ∧ Below w.heap.size w wr) (fun i _ => n - (intOf i).toNat)
  case atStart => exact ⟨0, Nat.zero_le _, rfl, rfl, Below.refl _ _⟩
  case round =>
   obtain ⟨k, hk, rfl, heq, hb⟩ := hrel
   have HE := Lib.hid heq; clear heq
   by_cases hlt : k < n
   ·obtain ⟨b, off, x, cs, rfl, hrep, hcell, hxk⟩ := (hr.below (rObservation_ok NB) hb).at_ hlt
    obtain ⟨bQ, offQ, xQ, csQ, rfl, hrepQ, hcellQ, hxkQ⟩ := (hr'.below (rObservation_ok NB) hb).at_ hlt
    have hrep0 := hrep
    have hrepQ0 := hrepQ
    obtain ⟨rfl, hMask, hClass⟩ := rObservation_rep.1 hrep
    have q0 : wr.cell? ⟨b, off + k * 3, none⟩ = some (.int .i64 x.fMask) := by simpa [rObservation_size] using hcell 0 _ rfl
    have q1 : wr.cell? ⟨b, off + k * 3 + 1, none⟩ = some (.int .i64 x.fClass) := by simpa [rObservation_size] using hcell 1 _ rfl
    have q2 : wr.cell? ⟨b, off + k * 3 + 2, none⟩ = some (.bool x.fExact) := by simpa [rObservation_size] using hcell 2 _ rfl
    clear hcell
    obtain ⟨rfl, hMaskQ, hClassQ⟩ := rObservation_rep.1 hrepQ
    have q0Q : wr.cell? ⟨bQ, offQ + k * 3, none⟩ = some (.int .i64 xQ.fMask) := by simpa [rObservation_size] using hcellQ 0 _ rfl
    have q1Q : wr.cell? ⟨bQ, offQ + k * 3 + 1, none⟩ = some (.int .i64 xQ.fClass) := by simpa [rObservation_size] using hcellQ 1 _ rfl
    have q2Q : wr.cell? ⟨bQ, offQ + k * 3 + 2, none⟩ = some (.bool xQ.fExact) := by simpa [rObservation_size] using hcellQ 2 _ rfl
    clear hcellQ
    go_wp2_with fail
    go_still_tail 8, (by kernel_rfl)
    go_wp2_with fail
    refine (eqObservation_c _ _ x xQ wr.drew ((rObservation_ok NB).keep hrep0 (fun _ _ h => h)) ((rObservation_ok NB).keep hrepQ0 (fun _ _ h => h))).mono ?_
    rintro e w1 ⟨rfl, hb1⟩
    have hB1 : Below w.heap.size w w1 := hb.drew.trans (hb1.mono hb.size)
    by_cases hx : x = xQ
    ·have hbb : decide (x = xQ) = true := by simp [hx]
     have HX := Lib.hid hx; clear hx
     go_wp2
     go_roundw
     case rel => exact ⟨k + 1, by omega, by go_num, take_eq_snoc HE.out hxk.out (HX.out ▸ hxkQ.out), hB1⟩
     case measure => simp [intOf]; omega
    ·have hbb : decide (x = xQ) = false := by simp [hx]
     go_wp2
     go_ret
     exact ⟨ret_bool (a := false) (by have := ne_of_at hxk.out hxkQ.out hx; simp [this]), hB1⟩
   ·go_wp2
    go_ret
    have e : l = l' := by rw [← take_all hr.len hlt, ← take_all hr'.len hlt]; exact HE.out
    exact ⟨ret_bool (a := true) (by simp [e]), hb⟩
 ·have hb : ((n : Int) != (n' : Int)) = true := by simp; omega
  go_enter Tryd.func28, Tryd.ntmps28
  go_wp2
  go_ret
  have e : l ≠ l' := by rintro rfl; exact hne (hr.len.symm.trans hr'.len)
  exact ⟨ret_bool (a := false) (by simp [e]), Below.refl _ _⟩

set_option maxHeartbeats 800000 in
theorem eqRun_c (cs cs' : List Value) (x y : RunD) (w : World) (h : (rRun NB).rep w cs x) (h' : (rRun NB).rep w cs' y) : Calls Tryd.prog 10 #[.agg cs.toArray, .agg cs'.toArray] w fun e w' => e = .returned (.bool (decide (x = y))) ∧ Below w.heap.size w w' := by
 obtain ⟨ASeen, nSeen, cSeen, AAnswerVars, nAnswerVars, cAnswerVars, AAnswerRows, nAnswerRows, cAnswerRows, rfl, hCost, hSteps, hSeen, hAnswerVars, hAnswerRows⟩ := rRun_rep.1 h
 obtain ⟨ASeenQ, nSeenQ, cSeenQ, AAnswerVarsQ, nAnswerVarsQ, cAnswerVarsQ, AAnswerRowsQ, nAnswerRowsQ, cAnswerRowsQ, rfl, hCostQ, hStepsQ, hSeenQ, hAnswerVarsQ, hAnswerRowsQ⟩ := rRun_rep.1 h'
 clear h h'
 have hB0 : Below w.heap.size w w := Below.refl _ _
 go_enter Tryd.func10, Tryd.ntmps10
 by_cases h_Done : x.fDone = y.fDone
 rotate_left
 ·have hb : (x.fDone == y.fDone) = false := by simp [h_Done]
  go_wp2
  go_ret
  exact ⟨ret_bool (a := false) (decide_eq_false (fun hh => h_Done (by rw [hh]))).symm, (by repeat' (first | with_reducible exact hB0 | with_reducible refine Below.setCell ?_ ?_ _ | with_reducible refine Below.alloc ?_ ?_ _ | (simp; done) | (simp; omega) | omega))⟩
 have hbeDone : (x.fDone == y.fDone) = true := by simp [h_Done]
 have H_Done := Lib.hid h_Done; clear h_Done
 by_cases h_Cost : x.fCost = y.fCost
 rotate_left
 ·have hb : (x.fCost != y.fCost) = true := by simp [h_Cost]
  go_wp2
  go_ret
  exact ⟨ret_bool (a := false) (decide_eq_false (fun hh => h_Cost (by rw [hh]))).symm, (by repeat' (first | with_reducible exact hB0 | with_reducible refine Below.setCell ?_ ?_ _ | with_reducible refine Below.alloc ?_ ?_ _ | (simp; done) | (simp; omega) | omega))⟩
 have hbeCost : (x.fCost != y.fCost) = false := by simp [h_Cost]
 have H_Cost := Lib.hid h_Cost; clear h_Cost
 by_cases h_Steps : x.fSteps = y.fSteps
 rotate_left
 ·have hb : (x.fSteps != y.fSteps) = true := by simp [h_Steps]
  go_wp2
  go_ret
  exact ⟨ret_bool (a := false) (decide_eq_false (fun hh => h_Steps (by rw [hh]))).symm, (by repeat' (first | with_reducible exact hB0 | with_reducible refine Below.setCell ?_ ?_ _ | with_reducible refine Below.alloc ?_ ?_ _ | (simp; done) | (simp; omega) | omega))⟩
 have hbeSteps : (x.fSteps != y.fSteps) = false := by simp [h_Steps]
 have H_Steps := Lib.hid h_Steps; clear h_Steps
 go_wp2_with fail
 refine (eqObservationS_b _ _ _ _ _ _ _ _ _ (hSeen.below (rObservation_ok NB) (by repeat' (first | with_reducible exact hB0 | with_reducible refine Below.setCell ?_ ?_ _ | with_reducible refine Below.alloc ?_ ?_ _ | (simp; done) | (simp; omega) | omega))) (hSeenQ.below (rObservation_ok NB) (by repeat' (first | with_reducible exact hB0 | with_reducible refine Below.setCell ?_ ?_ _ | with_reducible refine Below.alloc ?_ ?_ _ | (simp; done) | (simp; omega) | omega)))).mono ?_
 rintro e w1 ⟨rfl, hb1⟩
 have hB1 : Below w.heap.size w w1 := Below.trans (by repeat' (first | with_reducible exact hB0 | with_reducible refine Below.setCell ?_ ?_ _ | with_reducible refine Below.alloc ?_ ?_ _ | (simp; done) | (simp; omega) | omega)) (hb1.mono (by first | (simp; done) | (simp; omega) | omega))
 have hz1 := hb1.size
 obtain ⟨hc1, hf1⟩ := bcell hb1
 try simp at hz1 hc1 hf1
 have hy1_0 : w.heap.size < w1.heap.size := by omega
 have hy1_1 : w.heap.size + 1 < w1.heap.size := by omega
 clear hb1 hf1
 by_cases h_Seen : x.fSeen = y.fSeen
 rotate_left
 ·have hb : decide (x.fSeen = y.fSeen) = false := by simp [h_Seen]
  go_wp2
  go_ret
  exact ⟨ret_bool (a := false) (decide_eq_false (fun hh => h_Seen (by rw [hh]))).symm, (by repeat' (first | with_reducible exact hB1 | with_reducible refine Below.setCell ?_ ?_ _ | with_reducible refine Below.alloc ?_ ?_ _ | (simp; done) | (simp; omega) | omega))⟩
 have hbeSeen : decide (x.fSeen = y.fSeen) = true := by simp [h_Seen]
 have H_Seen := Lib.hid h_Seen; clear h_Seen
 go_wp2_with fail
 refine (eqAnswer_c _ _ x.fAnswer y.fAnswer _ ((rAnswer_ok NB).keep (rAnswer_rep.2 ⟨AAnswerVars, nAnswerVars, cAnswerVars, AAnswerRows, nAnswerRows, cAnswerRows, rfl, hAnswerVars, hAnswerRows⟩) (cells_below (by repeat' (first | with_reducible exact hB1 | with_reducible refine Below.setCell ?_ ?_ _ | with_reducible refine Below.alloc ?_ ?_ _ | (simp; done) | (simp; omega) | omega)))) ((rAnswer_ok NB).keep (rAnswer_rep.2 ⟨AAnswerVarsQ, nAnswerVarsQ, cAnswerVarsQ, AAnswerRowsQ, nAnswerRowsQ, cAnswerRowsQ, rfl, hAnswerVarsQ, hAnswerRowsQ⟩) (cells_below (by repeat' (first | with_reducible exact hB1 | with_reducible refine Below.setCell ?_ ?_ _ | with_reducible refine Below.alloc ?_ ?_ _ | (simp; done) | (simp; omega) | omega))))).mono ?_
 rintro e w2 ⟨rfl, hb2⟩
 have hB2 : Below w.heap.size w w2 := Below.trans (by repeat' (first | with_reducible exact hB1 | with_reducible refine Below.setCell ?_ ?_ _ | with_reducible refine Below.alloc ?_ ?_ _ | (simp; done) | (simp; omega) | omega)) (hb2.mono (by first | (simp; done) | (simp; omega) | omega))
 have hz2 := hb2.size
 obtain ⟨hc2, hf2⟩ := bcell hb2
 try simp at hz2 hc2 hf2
 have hy2_0 : w.heap.size < w2.heap.size := by omega
 have hy2_1 : w.heap.size + 1 < w2.heap.size := by omega
 clear hb2 hf2
 by_cases h_Answer : x.fAnswer = y.fAnswer
 rotate_left
 ·have hb : decide (x.fAnswer = y.fAnswer) = false := by simp [h_Answer]
  go_wp2
  go_ret
  exact ⟨ret_bool (a := false) (decide_eq_false (fun hh => h_Answer (by rw [hh]))).symm, (by repeat' (first | with_reducible exact hB2 | with_reducible refine Below.setCell ?_ ?_ _ | with_reducible refine Below.alloc ?_ ?_ _ | (simp; done) | (simp; omega) | omega))⟩
 have hbeAnswer : decide (x.fAnswer = y.fAnswer) = true := by simp [h_Answer]
 have H_Answer := Lib.hid h_Answer; clear h_Answer
 go_wp2
 go_ret
 exact ⟨ret_bool (a := true) (decide_eq_true (by cases x; cases y; simp only [RunD.mk.injEq]; exact ⟨H_Done.out, H_Cost.out, H_Steps.out, H_Seen.out, H_Answer.out⟩)).symm, (by repeat' (first | with_reducible exact hB2 | with_reducible refine Below.setCell ?_ ?_ _ | with_reducible refine Below.alloc ?_ ?_ _ | (simp; done) | (simp; omega) | omega))⟩


set_option maxHeartbeats 800000 in
theorem eqBouquet_c (cs cs' : List Value) (x y : BouquetD) (w : World) (h : (rBouquet NB).rep w cs x) (h' : (rBouquet NB).rep w cs' y) : Calls Tryd.prog 20 #[.agg cs.toArray, .agg cs'.toArray] w fun e w' => e = .returned (.bool (decide (x = y))) ∧ Below w.heap.size w w' := by
 obtain ⟨ABoxLow, nBoxLow, cBoxLow, ABoxHigh, nBoxHigh, cBoxHigh, ABudgets, nBudgets, cBudgets, APlans, nPlans, cPlans, AContours, nContours, cContours, rfl, hVersion, hRatio, hSlack, hBoxLow, hBoxHigh, hBudgets, hPlans, hContours⟩ := rBouquet_rep.1 h
 obtain ⟨ABoxLowQ, nBoxLowQ, cBoxLowQ, ABoxHighQ, nBoxHighQ, cBoxHighQ, ABudgetsQ, nBudgetsQ, cBudgetsQ, APlansQ, nPlansQ, cPlansQ, AContoursQ, nContoursQ, cContoursQ, rfl, hVersionQ, hRatioQ, hSlackQ, hBoxLowQ, hBoxHighQ, hBudgetsQ, hPlansQ, hContoursQ⟩ := rBouquet_rep.1 h'
 clear h h'
 have hB0 : Below w.heap.size w w := Below.refl _ _
 go_enter Tryd.func20, Tryd.ntmps20
 by_cases h_Version : x.fVersion = y.fVersion
 rotate_left
 ·have hb : (x.fVersion != y.fVersion) = true := by simp [h_Version]
  go_wp2
  go_ret
  exact ⟨ret_bool (a := false) (decide_eq_false (fun hh => h_Version (by rw [hh]))).symm, (by repeat' (first | with_reducible exact hB0 | with_reducible refine Below.setCell ?_ ?_ _ | with_reducible refine Below.alloc ?_ ?_ _ | (simp; done) | (simp; omega) | omega))⟩
 have hbeVersion : (x.fVersion != y.fVersion) = false := by simp [h_Version]
 have H_Version := Lib.hid h_Version; clear h_Version
 by_cases h_Ratio : x.fRatio = y.fRatio
 rotate_left
 ·have hb : (x.fRatio != y.fRatio) = true := by simp [h_Ratio]
  go_wp2
  go_ret
  exact ⟨ret_bool (a := false) (decide_eq_false (fun hh => h_Ratio (by rw [hh]))).symm, (by repeat' (first | with_reducible exact hB0 | with_reducible refine Below.setCell ?_ ?_ _ | with_reducible refine Below.alloc ?_ ?_ _ | (simp; done) | (simp; omega) | omega))⟩
 have hbeRatio : (x.fRatio != y.fRatio) = false := by simp [h_Ratio]
 have H_Ratio := Lib.hid h_Ratio; clear h_Ratio
 by_cases h_Slack : x.fSlack = y.fSlack
 rotate_left
 ·have hb : (x.fSlack != y.fSlack) = true := by simp [h_Slack]
  go_wp2
  go_ret
  exact ⟨ret_bool (a := false) (decide_eq_false (fun hh => h_Slack (by rw [hh]))).symm, (by repeat' (first | with_reducible exact hB0 | with_reducible refine Below.setCell ?_ ?_ _ | with_reducible refine Below.alloc ?_ ?_ _ | (simp; done) | (simp; omega) | omega))⟩
 have hbeSlack : (x.fSlack != y.fSlack) = false := by simp [h_Slack]
 have H_Slack := Lib.hid h_Slack; clear h_Slack
 go_wp2_with fail
 refine (eqBox_c _ _ x.fBox y.fBox _ ((rBox_ok NB).keep (rBox_rep.2 ⟨ABoxLow, nBoxLow, cBoxLow, ABoxHigh, nBoxHigh, cBoxHigh, rfl, hBoxLow, hBoxHigh⟩) (cells_below (by repeat' (first | with_reducible exact hB0 | with_reducible refine Below.setCell ?_ ?_ _ | with_reducible refine Below.alloc ?_ ?_ _ | (simp; done) | (simp; omega) | omega)))) ((rBox_ok NB).keep (rBox_rep.2 ⟨ABoxLowQ, nBoxLowQ, cBoxLowQ, ABoxHighQ, nBoxHighQ, cBoxHighQ, rfl, hBoxLowQ, hBoxHighQ⟩) (cells_below (by repeat' (first | with_reducible exact hB0 | with_reducible refine Below.setCell ?_ ?_ _ | with_reducible refine Below.alloc ?_ ?_ _ | (simp; done) | (simp; omega) | omega))))).mono ?_
 rintro e w1 ⟨rfl, hb1⟩
 have hB1 : Below w.heap.size w w1 := Below.trans (by repeat' (first | with_reducible exact hB0 | with_reducible refine Below.setCell ?_ ?_ _ | with_reducible refine Below.alloc ?_ ?_ _ | (simp; done) | (simp; omega) | omega)) (hb1.mono (by first | (simp; done) | (simp; omega) | omega))
 have hz1 := hb1.size
 obtain ⟨hc1, hf1⟩ := bcell hb1
 try simp at hz1 hc1 hf1
 have hy1_0 : w.heap.size < w1.heap.size := by omega
 have hy1_1 : w.heap.size + 1 < w1.heap.size := by omega
 clear hb1 hf1
 by_cases h_Box : x.fBox = y.fBox
 rotate_left
 ·have hb : decide (x.fBox = y.fBox) = false := by simp [h_Box]
  go_wp2
  go_ret
  exact ⟨ret_bool (a := false) (decide_eq_false (fun hh => h_Box (by rw [hh]))).symm, (by repeat' (first | with_reducible exact hB1 | with_reducible refine Below.setCell ?_ ?_ _ | with_reducible refine Below.alloc ?_ ?_ _ | (simp; done) | (simp; omega) | omega))⟩
 have hbeBox : decide (x.fBox = y.fBox) = true := by simp [h_Box]
 have H_Box := Lib.hid h_Box; clear h_Box
 go_wp2_with fail
 refine (eqIntS_b _ _ _ _ _ _ _ _ _ (hBudgets.below rInt_ok (by repeat' (first | with_reducible exact hB1 | with_reducible refine Below.setCell ?_ ?_ _ | with_reducible refine Below.alloc ?_ ?_ _ | (simp; done) | (simp; omega) | omega))) (hBudgetsQ.below rInt_ok (by repeat' (first | with_reducible exact hB1 | with_reducible refine Below.setCell ?_ ?_ _ | with_reducible refine Below.alloc ?_ ?_ _ | (simp; done) | (simp; omega) | omega)))).mono ?_
 rintro e w2 ⟨rfl, hb2⟩
 have hB2 : Below w.heap.size w w2 := Below.trans (by repeat' (first | with_reducible exact hB1 | with_reducible refine Below.setCell ?_ ?_ _ | with_reducible refine Below.alloc ?_ ?_ _ | (simp; done) | (simp; omega) | omega)) (hb2.mono (by first | (simp; done) | (simp; omega) | omega))
 have hz2 := hb2.size
 obtain ⟨hc2, hf2⟩ := bcell hb2
 try simp at hz2 hc2 hf2
 have hy2_0 : w.heap.size < w2.heap.size := by omega
 have hy2_1 : w.heap.size + 1 < w2.heap.size := by omega
 clear hb2 hf2
 by_cases h_Budgets : x.fBudgets = y.fBudgets
 rotate_left
 ·have hb : decide (x.fBudgets = y.fBudgets) = false := by simp [h_Budgets]
  go_wp2
  go_ret
  exact ⟨ret_bool (a := false) (decide_eq_false (fun hh => h_Budgets (by rw [hh]))).symm, (by repeat' (first | with_reducible exact hB2 | with_reducible refine Below.setCell ?_ ?_ _ | with_reducible refine Below.alloc ?_ ?_ _ | (simp; done) | (simp; omega) | omega))⟩
 have hbeBudgets : decide (x.fBudgets = y.fBudgets) = true := by simp [h_Budgets]
 have H_Budgets := Lib.hid h_Budgets; clear h_Budgets
 go_wp2_with fail
 refine (eqPlanS_b _ _ _ _ _ _ _ _ _ (hPlans.below (rPlan_ok NB) (by repeat' (first | with_reducible exact hB2 | with_reducible refine Below.setCell ?_ ?_ _ | with_reducible refine Below.alloc ?_ ?_ _ | (simp; done) | (simp; omega) | omega))) (hPlansQ.below (rPlan_ok NB) (by repeat' (first | with_reducible exact hB2 | with_reducible refine Below.setCell ?_ ?_ _ | with_reducible refine Below.alloc ?_ ?_ _ | (simp; done) | (simp; omega) | omega)))).mono ?_
 rintro e w3 ⟨rfl, hb3⟩
 have hB3 : Below w.heap.size w w3 := Below.trans (by repeat' (first | with_reducible exact hB2 | with_reducible refine Below.setCell ?_ ?_ _ | with_reducible refine Below.alloc ?_ ?_ _ | (simp; done) | (simp; omega) | omega)) (hb3.mono (by first | (simp; done) | (simp; omega) | omega))
 have hz3 := hb3.size
 obtain ⟨hc3, hf3⟩ := bcell hb3
 try simp at hz3 hc3 hf3
 have hy3_0 : w.heap.size < w3.heap.size := by omega
 have hy3_1 : w.heap.size + 1 < w3.heap.size := by omega
 clear hb3 hf3
 by_cases h_Plans : x.fPlans = y.fPlans
 rotate_left
 ·have hb : decide (x.fPlans = y.fPlans) = false := by simp [h_Plans]
  go_wp2
  go_ret
  exact ⟨ret_bool (a := false) (decide_eq_false (fun hh => h_Plans (by rw [hh]))).symm, (by repeat' (first | with_reducible exact hB3 | with_reducible refine Below.setCell ?_ ?_ _ | with_reducible refine Below.alloc ?_ ?_ _ | (simp; done) | (simp; omega) | omega))⟩
 have hbePlans : decide (x.fPlans = y.fPlans) = true := by simp [h_Plans]
 have H_Plans := Lib.hid h_Plans; clear h_Plans
 go_wp2_with fail
 refine (eqIntSS_b _ _ _ _ _ _ _ _ _ (hContours.below (rSlice_ok NB _ rInt_ok) (by repeat' (first | with_reducible exact hB3 | with_reducible refine Below.setCell ?_ ?_ _ | with_reducible refine Below.alloc ?_ ?_ _ | (simp; done) | (simp; omega) | omega))) (hContoursQ.below (rSlice_ok NB _ rInt_ok) (by repeat' (first | with_reducible exact hB3 | with_reducible refine Below.setCell ?_ ?_ _ | with_reducible refine Below.alloc ?_ ?_ _ | (simp; done) | (simp; omega) | omega)))).mono ?_
 rintro e w4 ⟨rfl, hb4⟩
 have hB4 : Below w.heap.size w w4 := Below.trans (by repeat' (first | with_reducible exact hB3 | with_reducible refine Below.setCell ?_ ?_ _ | with_reducible refine Below.alloc ?_ ?_ _ | (simp; done) | (simp; omega) | omega)) (hb4.mono (by first | (simp; done) | (simp; omega) | omega))
 have hz4 := hb4.size
 obtain ⟨hc4, hf4⟩ := bcell hb4
 try simp at hz4 hc4 hf4
 have hy4_0 : w.heap.size < w4.heap.size := by omega
 have hy4_1 : w.heap.size + 1 < w4.heap.size := by omega
 clear hb4 hf4
 by_cases h_Contours : x.fContours = y.fContours
 rotate_left
 ·have hb : decide (x.fContours = y.fContours) = false := by simp [h_Contours]
  go_wp2
  go_ret
  exact ⟨ret_bool (a := false) (decide_eq_false (fun hh => h_Contours (by rw [hh]))).symm, (by repeat' (first | with_reducible exact hB4 | with_reducible refine Below.setCell ?_ ?_ _ | with_reducible refine Below.alloc ?_ ?_ _ | (simp; done) | (simp; omega) | omega))⟩
 have hbeContours : decide (x.fContours = y.fContours) = true := by simp [h_Contours]
 have H_Contours := Lib.hid h_Contours; clear h_Contours
 go_wp2
 go_ret
 exact ⟨ret_bool (a := true) (decide_eq_true (by cases x; cases y; simp only [BouquetD.mk.injEq]; exact ⟨H_Version.out, H_Ratio.out, H_Slack.out, H_Box.out, H_Budgets.out, H_Plans.out, H_Contours.out⟩)).symm, (by repeat' (first | with_reducible exact hB4 | with_reducible refine Below.setCell ?_ ?_ _ | with_reducible refine Below.alloc ?_ ?_ _ | (simp; done) | (simp; omega) | omega))⟩

set_option maxHeartbeats 800000 in
theorem eqRunNote_c (cs cs' : List Value) (x y : RunNoteD) (w : World) (h : (rRunNote NB).rep w cs x) (h' : (rRunNote NB).rep w cs' y) : Calls Tryd.prog 56 #[.agg cs.toArray, .agg cs'.toArray] w fun e w' => e = .returned (.bool (decide (x = y))) ∧ Below w.heap.size w w' := by
 obtain ⟨rfl, hContour, hPlan, hBudget, hCost⟩ := rRunNote_rep.1 h
 obtain ⟨rfl, hContourQ, hPlanQ, hBudgetQ, hCostQ⟩ := rRunNote_rep.1 h'
 clear h h'
 have hB0 : Below w.heap.size w w := Below.refl _ _
 go_enter Tryd.func56, Tryd.ntmps56
 by_cases h_Contour : x.fContour = y.fContour
 rotate_left
 ·have hb : (x.fContour != y.fContour) = true := by simp [h_Contour]
  go_wp2
  go_ret
  exact ⟨ret_bool (a := false) (decide_eq_false (fun hh => h_Contour (by rw [hh]))).symm, (by repeat' (first | with_reducible exact hB0 | with_reducible refine Below.setCell ?_ ?_ _ | with_reducible refine Below.alloc ?_ ?_ _ | (simp; done) | (simp; omega) | omega))⟩
 have hbeContour : (x.fContour != y.fContour) = false := by simp [h_Contour]
 have H_Contour := Lib.hid h_Contour; clear h_Contour
 by_cases h_Plan : x.fPlan = y.fPlan
 rotate_left
 ·have hb : (x.fPlan != y.fPlan) = true := by simp [h_Plan]
  go_wp2
  go_ret
  exact ⟨ret_bool (a := false) (decide_eq_false (fun hh => h_Plan (by rw [hh]))).symm, (by repeat' (first | with_reducible exact hB0 | with_reducible refine Below.setCell ?_ ?_ _ | with_reducible refine Below.alloc ?_ ?_ _ | (simp; done) | (simp; omega) | omega))⟩
 have hbePlan : (x.fPlan != y.fPlan) = false := by simp [h_Plan]
 have H_Plan := Lib.hid h_Plan; clear h_Plan
 by_cases h_Budget : x.fBudget = y.fBudget
 rotate_left
 ·have hb : (x.fBudget != y.fBudget) = true := by simp [h_Budget]
  go_wp2
  go_ret
  exact ⟨ret_bool (a := false) (decide_eq_false (fun hh => h_Budget (by rw [hh]))).symm, (by repeat' (first | with_reducible exact hB0 | with_reducible refine Below.setCell ?_ ?_ _ | with_reducible refine Below.alloc ?_ ?_ _ | (simp; done) | (simp; omega) | omega))⟩
 have hbeBudget : (x.fBudget != y.fBudget) = false := by simp [h_Budget]
 have H_Budget := Lib.hid h_Budget; clear h_Budget
 by_cases h_Cost : x.fCost = y.fCost
 rotate_left
 ·have hb : (x.fCost != y.fCost) = true := by simp [h_Cost]
  go_wp2
  go_ret
  exact ⟨ret_bool (a := false) (decide_eq_false (fun hh => h_Cost (by rw [hh]))).symm, (by repeat' (first | with_reducible exact hB0 | with_reducible refine Below.setCell ?_ ?_ _ | with_reducible refine Below.alloc ?_ ?_ _ | (simp; done) | (simp; omega) | omega))⟩
 have hbeCost : (x.fCost != y.fCost) = false := by simp [h_Cost]
 have H_Cost := Lib.hid h_Cost; clear h_Cost
 by_cases h_Done : x.fDone = y.fDone
 rotate_left
 ·have hb : (x.fDone == y.fDone) = false := by simp [h_Done]
  go_wp2
  go_ret
  exact ⟨ret_bool (a := false) (decide_eq_false (fun hh => h_Done (by rw [hh]))).symm, (by repeat' (first | with_reducible exact hB0 | with_reducible refine Below.setCell ?_ ?_ _ | with_reducible refine Below.alloc ?_ ?_ _ | (simp; done) | (simp; omega) | omega))⟩
 have hbeDone : (x.fDone == y.fDone) = true := by simp [h_Done]
 have H_Done := Lib.hid h_Done; clear h_Done
 go_wp2
 go_ret
 exact ⟨ret_bool (a := true) (decide_eq_true (by cases x; cases y; simp only [RunNoteD.mk.injEq]; exact ⟨H_Contour.out, H_Plan.out, H_Budget.out, H_Cost.out, H_Done.out⟩)).symm, (by repeat' (first | with_reducible exact hB0 | with_reducible refine Below.setCell ?_ ?_ _ | with_reducible refine Below.alloc ?_ ?_ _ | (simp; done) | (simp; omega) | omega))⟩

set_option maxRecDepth 100000 in
set_option maxHeartbeats 800000 in
theorem eqRunNoteS_b (A A' : Option Addr) (n n' cap cap' : Nat) (l l' : List RunNoteD) (w : World) (hr : RS NB (rRunNote NB) w A n cap l) (hr' : RS NB (rRunNote NB) w A' n' cap' l') : Calls Tryd.prog 34 #[.slice A n cap, .slice A' n' cap'] w fun e w' => e = .returned (.bool (decide (l = l'))) ∧ Below w.heap.size w w' := by
 have hn := hr.bound
 have hn' := hr'.bound
 by_cases hne : n = n'
 ·subst hne
  go_enter Tryd.func34, Tryd.ntmps34
  go_wp2
  go_loopw [5] (fun i wr => ∃ k : Nat, k ≤ n ∧ i = .int .i64 k ∧ l.take k = l'.take k ∧ Below w.heap.size w wr) (fun i _ => n - (intOf i).toNat)
  case atStart => exact ⟨0, Nat.zero_le _, rfl, rfl, Below.refl _ _⟩
  case round =>
   obtain ⟨k, hk, rfl, heq, hb⟩ := hrel
   have HE := Lib.hid heq; clear heq
   by_cases hlt : k < n
   ·obtain ⟨b, off, x, cs, rfl, hrep, hcell, hxk⟩ := (hr.below (rRunNote_ok NB) hb).at_ hlt
    obtain ⟨bQ, offQ, xQ, csQ, rfl, hrepQ, hcellQ, hxkQ⟩ := (hr'.below (rRunNote_ok NB) hb).at_ hlt
    have hrep0 := hrep
    have hrepQ0 := hrepQ
    obtain ⟨rfl, hContour, hPlan, hBudget, hCost⟩ := rRunNote_rep.1 hrep
    have q0 : wr.cell? ⟨b, off + k * 5, none⟩ = some (.int .i64 x.fContour) := by simpa [rRunNote_size] using hcell 0 _ rfl
    have q1 : wr.cell? ⟨b, off + k * 5 + 1, none⟩ = some (.int .i64 x.fPlan) := by simpa [rRunNote_size] using hcell 1 _ rfl
    have q2 : wr.cell? ⟨b, off + k * 5 + 2, none⟩ = some (.int .i64 x.fBudget) := by simpa [rRunNote_size] using hcell 2 _ rfl
    have q3 : wr.cell? ⟨b, off + k * 5 + 3, none⟩ = some (.int .i64 x.fCost) := by simpa [rRunNote_size] using hcell 3 _ rfl
    have q4 : wr.cell? ⟨b, off + k * 5 + 4, none⟩ = some (.bool x.fDone) := by simpa [rRunNote_size] using hcell 4 _ rfl
    clear hcell
    obtain ⟨rfl, hContourQ, hPlanQ, hBudgetQ, hCostQ⟩ := rRunNote_rep.1 hrepQ
    have q0Q : wr.cell? ⟨bQ, offQ + k * 5, none⟩ = some (.int .i64 xQ.fContour) := by simpa [rRunNote_size] using hcellQ 0 _ rfl
    have q1Q : wr.cell? ⟨bQ, offQ + k * 5 + 1, none⟩ = some (.int .i64 xQ.fPlan) := by simpa [rRunNote_size] using hcellQ 1 _ rfl
    have q2Q : wr.cell? ⟨bQ, offQ + k * 5 + 2, none⟩ = some (.int .i64 xQ.fBudget) := by simpa [rRunNote_size] using hcellQ 2 _ rfl
    have q3Q : wr.cell? ⟨bQ, offQ + k * 5 + 3, none⟩ = some (.int .i64 xQ.fCost) := by simpa [rRunNote_size] using hcellQ 3 _ rfl
    have q4Q : wr.cell? ⟨bQ, offQ + k * 5 + 4, none⟩ = some (.bool xQ.fDone) := by simpa [rRunNote_size] using hcellQ 4 _ rfl
    clear hcellQ
    go_wp2_with fail
    go_still_tail 8, (by kernel_rfl)
    go_wp2_with fail
    refine (eqRunNote_c _ _ x xQ wr.drew ((rRunNote_ok NB).keep hrep0 (fun _ _ h => h)) ((rRunNote_ok NB).keep hrepQ0 (fun _ _ h => h))).mono ?_
    rintro e w1 ⟨rfl, hb1⟩
    have hB1 : Below w.heap.size w w1 := hb.drew.trans (hb1.mono hb.size)
    by_cases hx : x = xQ
    ·have hbb : decide (x = xQ) = true := by simp [hx]
     have HX := Lib.hid hx; clear hx
     go_wp2
     go_roundw
     case rel => exact ⟨k + 1, by omega, by go_num, take_eq_snoc HE.out hxk.out (HX.out ▸ hxkQ.out), hB1⟩
     case measure => simp [intOf]; omega
    ·have hbb : decide (x = xQ) = false := by simp [hx]
     go_wp2
     go_ret
     exact ⟨ret_bool (a := false) (by have := ne_of_at hxk.out hxkQ.out hx; simp [this]), hB1⟩
   ·go_wp2
    go_ret
    have e : l = l' := by rw [← take_all hr.len hlt, ← take_all hr'.len hlt]; exact HE.out
    exact ⟨ret_bool (a := true) (by simp [e]), hb⟩
 ·have hb : ((n : Int) != (n' : Int)) = true := by simp; omega
  go_enter Tryd.func34, Tryd.ntmps34
  go_wp2
  go_ret
  have e : l ≠ l' := by rintro rfl; exact hne (hr.len.symm.trans hr'.len)
  exact ⟨ret_bool (a := false) (by simp [e]), Below.refl _ _⟩

set_option maxHeartbeats 800000 in
theorem eqOutcome_c (cs cs' : List Value) (x y : OutcomeD) (w : World) (h : (rOutcome NB).rep w cs x) (h' : (rOutcome NB).rep w cs' y) : Calls Tryd.prog 15 #[.agg cs.toArray, .agg cs'.toArray] w fun e w' => e = .returned (.bool (decide (x = y))) ∧ Below w.heap.size w w' := by
 obtain ⟨AAnswerVars, nAnswerVars, cAnswerVars, AAnswerRows, nAnswerRows, cAnswerRows, ANotes, nNotes, cNotes, ABoxLow, nBoxLow, cBoxLow, ABoxHigh, nBoxHigh, cBoxHigh, rfl, hAnswerVars, hAnswerRows, hTotal, hNotes, hBoxLow, hBoxHigh⟩ := rOutcome_rep.1 h
 obtain ⟨AAnswerVarsQ, nAnswerVarsQ, cAnswerVarsQ, AAnswerRowsQ, nAnswerRowsQ, cAnswerRowsQ, ANotesQ, nNotesQ, cNotesQ, ABoxLowQ, nBoxLowQ, cBoxLowQ, ABoxHighQ, nBoxHighQ, cBoxHighQ, rfl, hAnswerVarsQ, hAnswerRowsQ, hTotalQ, hNotesQ, hBoxLowQ, hBoxHighQ⟩ := rOutcome_rep.1 h'
 clear h h'
 have hB0 : Below w.heap.size w w := Below.refl _ _
 go_enter Tryd.func15, Tryd.ntmps15
 go_wp2_with fail
 refine (eqAnswer_c _ _ x.fAnswer y.fAnswer _ ((rAnswer_ok NB).keep (rAnswer_rep.2 ⟨AAnswerVars, nAnswerVars, cAnswerVars, AAnswerRows, nAnswerRows, cAnswerRows, rfl, hAnswerVars, hAnswerRows⟩) (cells_below (by repeat' (first | with_reducible exact hB0 | with_reducible refine Below.setCell ?_ ?_ _ | with_reducible refine Below.alloc ?_ ?_ _ | (simp; done) | (simp; omega) | omega)))) ((rAnswer_ok NB).keep (rAnswer_rep.2 ⟨AAnswerVarsQ, nAnswerVarsQ, cAnswerVarsQ, AAnswerRowsQ, nAnswerRowsQ, cAnswerRowsQ, rfl, hAnswerVarsQ, hAnswerRowsQ⟩) (cells_below (by repeat' (first | with_reducible exact hB0 | with_reducible refine Below.setCell ?_ ?_ _ | with_reducible refine Below.alloc ?_ ?_ _ | (simp; done) | (simp; omega) | omega))))).mono ?_
 rintro e w1 ⟨rfl, hb1⟩
 have hB1 : Below w.heap.size w w1 := Below.trans (by repeat' (first | with_reducible exact hB0 | with_reducible refine Below.setCell ?_ ?_ _ | with_reducible refine Below.alloc ?_ ?_ _ | (simp; done) | (simp; omega) | omega)) (hb1.mono (by first | (simp; done) | (simp; omega) | omega))
 have hz1 := hb1.size
 obtain ⟨hc1, hf1⟩ := bcell hb1
 try simp at hz1 hc1 hf1
 have hy1_0 : w.heap.size < w1.heap.size := by omega
 have hy1_1 : w.heap.size + 1 < w1.heap.size := by omega
 clear hb1 hf1
 by_cases h_Answer : x.fAnswer = y.fAnswer
 rotate_left
 ·have hb : decide (x.fAnswer = y.fAnswer) = false := by simp [h_Answer]
  go_wp2
  go_ret
  exact ⟨ret_bool (a := false) (decide_eq_false (fun hh => h_Answer (by rw [hh]))).symm, (by repeat' (first | with_reducible exact hB1 | with_reducible refine Below.setCell ?_ ?_ _ | with_reducible refine Below.alloc ?_ ?_ _ | (simp; done) | (simp; omega) | omega))⟩
 have hbeAnswer : decide (x.fAnswer = y.fAnswer) = true := by simp [h_Answer]
 have H_Answer := Lib.hid h_Answer; clear h_Answer
 by_cases h_Total : x.fTotal = y.fTotal
 rotate_left
 ·have hb : (x.fTotal != y.fTotal) = true := by simp [h_Total]
  go_wp2
  go_ret
  exact ⟨ret_bool (a := false) (decide_eq_false (fun hh => h_Total (by rw [hh]))).symm, (by repeat' (first | with_reducible exact hB1 | with_reducible refine Below.setCell ?_ ?_ _ | with_reducible refine Below.alloc ?_ ?_ _ | (simp; done) | (simp; omega) | omega))⟩
 have hbeTotal : (x.fTotal != y.fTotal) = false := by simp [h_Total]
 have H_Total := Lib.hid h_Total; clear h_Total
 go_wp2_with fail
 refine (eqRunNoteS_b _ _ _ _ _ _ _ _ _ (hNotes.below (rRunNote_ok NB) (by repeat' (first | with_reducible exact hB1 | with_reducible refine Below.setCell ?_ ?_ _ | with_reducible refine Below.alloc ?_ ?_ _ | (simp; done) | (simp; omega) | omega))) (hNotesQ.below (rRunNote_ok NB) (by repeat' (first | with_reducible exact hB1 | with_reducible refine Below.setCell ?_ ?_ _ | with_reducible refine Below.alloc ?_ ?_ _ | (simp; done) | (simp; omega) | omega)))).mono ?_
 rintro e w2 ⟨rfl, hb2⟩
 have hB2 : Below w.heap.size w w2 := Below.trans (by repeat' (first | with_reducible exact hB1 | with_reducible refine Below.setCell ?_ ?_ _ | with_reducible refine Below.alloc ?_ ?_ _ | (simp; done) | (simp; omega) | omega)) (hb2.mono (by first | (simp; done) | (simp; omega) | omega))
 have hz2 := hb2.size
 obtain ⟨hc2, hf2⟩ := bcell hb2
 try simp at hz2 hc2 hf2
 have hy2_0 : w.heap.size < w2.heap.size := by omega
 have hy2_1 : w.heap.size + 1 < w2.heap.size := by omega
 clear hb2 hf2
 by_cases h_Notes : x.fNotes = y.fNotes
 rotate_left
 ·have hb : decide (x.fNotes = y.fNotes) = false := by simp [h_Notes]
  go_wp2
  go_ret
  exact ⟨ret_bool (a := false) (decide_eq_false (fun hh => h_Notes (by rw [hh]))).symm, (by repeat' (first | with_reducible exact hB2 | with_reducible refine Below.setCell ?_ ?_ _ | with_reducible refine Below.alloc ?_ ?_ _ | (simp; done) | (simp; omega) | omega))⟩
 have hbeNotes : decide (x.fNotes = y.fNotes) = true := by simp [h_Notes]
 have H_Notes := Lib.hid h_Notes; clear h_Notes
 go_wp2_with fail
 refine (eqBox_c _ _ x.fBox y.fBox _ ((rBox_ok NB).keep (rBox_rep.2 ⟨ABoxLow, nBoxLow, cBoxLow, ABoxHigh, nBoxHigh, cBoxHigh, rfl, hBoxLow, hBoxHigh⟩) (cells_below (by repeat' (first | with_reducible exact hB2 | with_reducible refine Below.setCell ?_ ?_ _ | with_reducible refine Below.alloc ?_ ?_ _ | (simp; done) | (simp; omega) | omega)))) ((rBox_ok NB).keep (rBox_rep.2 ⟨ABoxLowQ, nBoxLowQ, cBoxLowQ, ABoxHighQ, nBoxHighQ, cBoxHighQ, rfl, hBoxLowQ, hBoxHighQ⟩) (cells_below (by repeat' (first | with_reducible exact hB2 | with_reducible refine Below.setCell ?_ ?_ _ | with_reducible refine Below.alloc ?_ ?_ _ | (simp; done) | (simp; omega) | omega))))).mono ?_
 rintro e w3 ⟨rfl, hb3⟩
 have hB3 : Below w.heap.size w w3 := Below.trans (by repeat' (first | with_reducible exact hB2 | with_reducible refine Below.setCell ?_ ?_ _ | with_reducible refine Below.alloc ?_ ?_ _ | (simp; done) | (simp; omega) | omega)) (hb3.mono (by first | (simp; done) | (simp; omega) | omega))
 have hz3 := hb3.size
 obtain ⟨hc3, hf3⟩ := bcell hb3
 try simp at hz3 hc3 hf3
 have hy3_0 : w.heap.size < w3.heap.size := by omega
 have hy3_1 : w.heap.size + 1 < w3.heap.size := by omega
 clear hb3 hf3
 by_cases h_Box : x.fBox = y.fBox
 rotate_left
 ·have hb : decide (x.fBox = y.fBox) = false := by simp [h_Box]
  go_wp2
  go_ret
  exact ⟨ret_bool (a := false) (decide_eq_false (fun hh => h_Box (by rw [hh]))).symm, (by repeat' (first | with_reducible exact hB3 | with_reducible refine Below.setCell ?_ ?_ _ | with_reducible refine Below.alloc ?_ ?_ _ | (simp; done) | (simp; omega) | omega))⟩
 have hbeBox : decide (x.fBox = y.fBox) = true := by simp [h_Box]
 have H_Box := Lib.hid h_Box; clear h_Box
 go_wp2
 go_ret
 exact ⟨ret_bool (a := true) (decide_eq_true (by cases x; cases y; simp only [OutcomeD.mk.injEq]; exact ⟨H_Answer.out, H_Total.out, H_Notes.out, H_Box.out⟩)).symm, (by repeat' (first | with_reducible exact hB3 | with_reducible refine Below.setCell ?_ ?_ _ | with_reducible refine Below.alloc ?_ ?_ _ | (simp; done) | (simp; omega) | omega))⟩









end Go.Proofs.YtnbikckbnbgjkaaDoor
