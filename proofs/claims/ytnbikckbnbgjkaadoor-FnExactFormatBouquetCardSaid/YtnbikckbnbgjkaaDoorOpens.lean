/-
  Open, Opens
-/
import Derived.Test.YtnbikckbnbgjkaaDoorBase
import Derived.Deep.Slices
import Derived.ChangeSame
import Derived.WideShapes
import Derived.Carry
import Derived.Test.YtnbikckbnbgjkaaDoorSz
namespace Go.Proofs.YtnbikckbnbgjkaaDoor
open Go.RowKit Go.Deep Go.ChangeShapes Go.WideShapes

/-- whatever reads as a datum at type t reads by r -/
def Opens {α : Type} (P : Program) (t : TypeId) (r : Rp α) : Prop :=
 ∀ {H : Type} {enc : TypeId × Value → H} {w : World} {base : Nat} {spare : Nat → Bool} {held : Bool} {fuel : Nat} {cs : List Value} {x : DataW H × List MemPlace},
  DataW.trod enc P w base spare held fuel t cs = some x → ∃ y, r.rep w cs y

theorem opens_int {P : Program} {t : TypeId} (ht : P.underlying t = some (.int .i64)) : Opens P t rInt := by
 intro H enc w base spare held fuel cs x h
 obtain ⟨n, rfl, _, hw⟩ := DataW.trod_int ht h
 exact ⟨n, rfl, bounds_i64 hw⟩
theorem opens_bool {P : Program} {t : TypeId} (ht : P.underlying t = some .bool) : Opens P t rBool := by
 intro H enc w base spare held fuel cs x h
 obtain ⟨n, rfl, _⟩ := DataW.trod_bool ht h
 exact ⟨n, rfl⟩
theorem opens_str {P : Program} {t : TypeId} (ht : P.underlying t = some .string) : Opens P t (rStr maxLen) := by
 intro H enc w base spare held fuel cs x h
 obtain ⟨n, rfl, _, hs⟩ := DataW.trod_string ht h
 exact ⟨n, rfl, hs⟩

theorem cell_addr {w : World} {a : Addr} {v : Value} (h : w.cell? a = some v) : a = ⟨a.block, a.off, none⟩ := by
 cases a with
 | mk b o s =>
  cases s with
  | none => rfl
  | some s =>
   exfalso
   unfold World.cell? at h
   split at h <;> simp at h
theorem add_addr {a : Addr} (ha : a = ⟨a.block, a.off, none⟩) (j : Nat) : a.add j = ⟨a.block, a.off + j, none⟩ := by
 rw [ha]; unfold Addr.add
 split
 ·subst_vars; rfl
 ·rfl

theorem list_of_at {α : Type} (R : Nat → α → Prop) (n : Nat) (h : ∀ i, i < n → ∃ y, R i y) : ∃ l : List α, l.length = n ∧ ∀ j x, l[j]? = some x → R j x := by
 induction n with
 | zero => exact ⟨[], rfl, fun j x hj => by simp at hj⟩
 | succ n ih =>
  obtain ⟨l, hl, h1⟩ := ih fun i hi => h i (by omega)
  obtain ⟨y, hy⟩ := h n (by omega)
  refine ⟨l ++ [y], by simp [hl], fun j x hj => ?_⟩
  by_cases hlt : j < n
  ·rw [List.getElem?_append_left (by omega)] at hj; exact h1 j x hj
  ·have : j < (l ++ [y]).length := lt_of_at hj
   have e : j = n := by simp [hl] at this; omega
   subst e
   rw [List.getElem?_append_right (by omega), hl, Nat.sub_self] at hj
   simp at hj; subst hj; exact hy

theorem opens_slice {α : Type} {P : Program} {t e : TypeId} {r : Rp α} (hr : r.Ok) (ht : P.underlying t = some (.slice e)) (hC : P.cellsOf e = r.size) (he : Opens P e r) : Opens P t (rSlice maxLen e r) := by
 intro H enc w base spare held fuel cs x h
 rcases open_slice ht h with ⟨rfl, _⟩ | ⟨a, len, cap, m, n, D, Pl, rfl, _, hlc, hcm, hm, _, hel⟩
 ·exact ⟨[], none, 0, 0, rfl, RS.nil _ _ _ _ _⟩
 ·rw [hC] at hel
  have hlm : len ≤ m := by rw [hm]; split <;> omega
  have hex : ∀ i, i < len → ∃ y, ∃ cs, r.rep w cs y ∧ ∀ j v, cs[j]? = some v → w.cell? ((a.add (i * r.size)).add j) = some v := by
   intro i hi
   obtain ⟨cs', h1, h2⟩ := hel i (by omega)
   obtain ⟨y, hy⟩ := he h2
   obtain ⟨_, h3, h4⟩ := World.cells?_some h1
   exact ⟨y, cs', hy, fun j v hj => by rw [h4 j (by rw [← h3]; exact lt_of_at hj)]; exact hj⟩
  obtain ⟨l, hl, hl2⟩ := list_of_at _ len hex
  refine ⟨l, some a, len, cap, rfl, ⟨hl, by omega, hlc, fun h0 => ?_⟩⟩
  have ha : a = ⟨a.block, a.off, none⟩ := by
   obtain ⟨y, cs', hy, h5⟩ := hex 0 h0
   have hp := hr.len hy
   have h6 := h5 0 (cs'[0]'(by rw [hp]; exact hr.pos)) (List.getElem?_eq_getElem _)
   rw [Nat.zero_mul] at h6
   exact cell_addr h6
  refine ⟨a.block, a.off, by rw [← ha], fun j x hj => ?_⟩
  obtain ⟨cs', h7, h8⟩ := hl2 j x hj
  refine ⟨cs', h7, fun i v hi => ?_⟩
  have h9 := h8 i v hi
  rw [add_addr ha, add_addr rfl] at h9
  exact h9

theorem rPair_split {α β : Type} {r : Rp α} {q : Rp β} {w : World} {cs : List Value} {x : α} {y : β} (k : Nat) (h1 : r.rep w (cs.take k) x) (h2 : q.rep w (cs.drop k) y) : (rPair r q).rep w cs (x, y) :=
 ⟨cs.take k, cs.drop k, (List.take_append_drop k cs).symm, h1, h2⟩

/-- one field of a struct -/
theorem opens_field {α : Type} {P : Program} {t : TypeId} {r : Rp α} (ho : Opens P t r) {H : Type} {enc : TypeId × Value → H} {w : World} {base : Nat} {spare : Nat → Bool} {held : Bool} {n : Nat} {cs : List Value} {xs : List (DataW H × List MemPlace)} {i : Nat}
  (hi : i < xs.length) (h : DataW.trod enc P w base spare held n t cs = xs[i]?) : ∃ y, r.rep w cs y := by
 rw [List.getElem?_eq_getElem hi] at h
 exact ho h

end Go.Proofs.YtnbikckbnbgjkaaDoor
namespace Go.Proofs.YtnbikckbnbgjkaaDoor
open Go.RowKit Go.Deep Go.ChangeShapes Go.WideShapes
set_option linter.unusedVariables false
set_option linter.unusedSimpArgs false

theorem smallIntS {w : World} {A : Option Addr} {n cap : Nat} {l : List Int} (h : RS maxLen rInt w A n cap l) (hb : l.length ≤ 1048576) : RS NB rInt w A n cap l := by
 have hl := h.len
 refine ⟨h.len, by unfold NB; omega, h.nc, fun hn => ?_⟩
 obtain ⟨b, off, e, hc⟩ := h.cell hn
 refine ⟨b, off, e, fun j x hj => ?_⟩
 obtain ⟨cs, h1, h2⟩ := hc j x hj
 exact ⟨cs, h1, h2⟩
theorem smallIntSS {w : World} {A : Option Addr} {n cap : Nat} {l : List (List Int)} (h : RS maxLen (rSlice maxLen 3 rInt) w A n cap l) (hb : bulkS (fun x => x.length) l ≤ 1048576) : RS NB (rSlice NB 3 rInt) w A n cap l := by
 have hl := h.len
 unfold bulkS at hb
 refine ⟨h.len, by unfold NB; omega, h.nc, fun hn => ?_⟩
 obtain ⟨b, off, e, hc⟩ := h.cell hn
 refine ⟨b, off, e, fun j x hj => ?_⟩
 obtain ⟨cs, h1, h2⟩ := hc j x hj
 have e1 := sum_ge (fun x => x.length) hj
 obtain ⟨A1, n1, c1, rfl, h3⟩ := h1
 exact ⟨_, ⟨A1, n1, c1, rfl, smallIntS h3 (by omega)⟩, h2⟩
theorem smallAnswer {w : World} {cs : List Value} {x : AnswerD} (h : (rAnswer maxLen).rep w cs x) (hb : bulkAnswer x ≤ 1048576) : (rAnswer NB).rep w cs x := by
 obtain ⟨AVars, nVars, cVars, ARows, nRows, cRows, rfl, hVars, hRows⟩ := rAnswer_rep.1 h
 simp only [bulkAnswer] at hb
 exact rAnswer_rep.2 ⟨AVars, nVars, cVars, ARows, nRows, cRows, rfl, (smallIntS hVars (by omega)), (smallIntSS hRows (by omega))⟩
theorem smallBox {w : World} {cs : List Value} {x : BoxD} (h : (rBox maxLen).rep w cs x) (hb : bulkBox x ≤ 1048576) : (rBox NB).rep w cs x := by
 obtain ⟨ALow, nLow, cLow, AHigh, nHigh, cHigh, rfl, hLow, hHigh⟩ := rBox_rep.1 h
 simp only [bulkBox] at hb
 exact rBox_rep.2 ⟨ALow, nLow, cLow, AHigh, nHigh, cHigh, rfl, (smallIntS hLow (by omega)), (smallIntS hHigh (by omega))⟩
theorem smallPlanStep {w : World} {cs : List Value} {x : PlanStepD} (h : (rPlanStep maxLen).rep w cs x) : (rPlanStep NB).rep w cs x := by
 exact rPlanStep_rep.2 (rPlanStep_rep.1 h)
theorem smallPlanStepS {w : World} {A : Option Addr} {n cap : Nat} {l : List PlanStepD} (h : RS maxLen (rPlanStep maxLen) w A n cap l) (hb : l.length ≤ 1048576) : RS NB (rPlanStep NB) w A n cap l := by
 have hl := h.len
 refine ⟨h.len, by unfold NB; omega, h.nc, fun hn => ?_⟩
 obtain ⟨b, off, e, hc⟩ := h.cell hn
 refine ⟨b, off, e, fun j x hj => ?_⟩
 obtain ⟨cs, h1, h2⟩ := hc j x hj
 exact ⟨cs, smallPlanStep h1, h2⟩
theorem smallPlan {w : World} {cs : List Value} {x : PlanD} (h : (rPlan maxLen).rep w cs x) (hb : bulkPlan x ≤ 1048576) : (rPlan NB).rep w cs x := by
 obtain ⟨ASteps, nSteps, cSteps, rfl, hSteps⟩ := rPlan_rep.1 h
 simp only [bulkPlan] at hb
 exact rPlan_rep.2 ⟨ASteps, nSteps, cSteps, rfl, (smallPlanStepS hSteps (by omega))⟩
theorem smallPlanS {w : World} {A : Option Addr} {n cap : Nat} {l : List PlanD} (h : RS maxLen (rPlan maxLen) w A n cap l) (hb : bulkS (fun x => bulkPlan x) l ≤ 1048576) : RS NB (rPlan NB) w A n cap l := by
 have hl := h.len
 unfold bulkS at hb
 refine ⟨h.len, by unfold NB; omega, h.nc, fun hn => ?_⟩
 obtain ⟨b, off, e, hc⟩ := h.cell hn
 refine ⟨b, off, e, fun j x hj => ?_⟩
 obtain ⟨cs, h1, h2⟩ := hc j x hj
 have e1 := sum_ge (fun x => bulkPlan x) hj
 exact ⟨cs, smallPlan h1 (by omega), h2⟩
theorem smallObservation {w : World} {cs : List Value} {x : ObservationD} (h : (rObservation maxLen).rep w cs x) : (rObservation NB).rep w cs x := by
 exact rObservation_rep.2 (rObservation_rep.1 h)
theorem smallObservationS {w : World} {A : Option Addr} {n cap : Nat} {l : List ObservationD} (h : RS maxLen (rObservation maxLen) w A n cap l) (hb : l.length ≤ 1048576) : RS NB (rObservation NB) w A n cap l := by
 have hl := h.len
 refine ⟨h.len, by unfold NB; omega, h.nc, fun hn => ?_⟩
 obtain ⟨b, off, e, hc⟩ := h.cell hn
 refine ⟨b, off, e, fun j x hj => ?_⟩
 obtain ⟨cs, h1, h2⟩ := hc j x hj
 exact ⟨cs, smallObservation h1, h2⟩
theorem smallRun {w : World} {cs : List Value} {x : RunD} (h : (rRun maxLen).rep w cs x) (hb : bulkRun x ≤ 1048576) : (rRun NB).rep w cs x := by
 obtain ⟨ASeen, nSeen, cSeen, AAnswerVars, nAnswerVars, cAnswerVars, AAnswerRows, nAnswerRows, cAnswerRows, rfl, hCost, hSteps, hSeen, hAnswerVars, hAnswerRows⟩ := rRun_rep.1 h
 simp only [bulkRun, bulkAnswer] at hb
 exact rRun_rep.2 ⟨ASeen, nSeen, cSeen, AAnswerVars, nAnswerVars, cAnswerVars, AAnswerRows, nAnswerRows, cAnswerRows, rfl, hCost, hSteps, (smallObservationS hSeen (by omega)), (smallIntS hAnswerVars (by omega)), (smallIntSS hAnswerRows (by omega))⟩
theorem smallBouquet {w : World} {cs : List Value} {x : BouquetD} (h : (rBouquet maxLen).rep w cs x) (hb : bulkBouquet x ≤ 1048576) : (rBouquet NB).rep w cs x := by
 obtain ⟨ABoxLow, nBoxLow, cBoxLow, ABoxHigh, nBoxHigh, cBoxHigh, ABudgets, nBudgets, cBudgets, APlans, nPlans, cPlans, AContours, nContours, cContours, rfl, hVersion, hRatio, hSlack, hBoxLow, hBoxHigh, hBudgets, hPlans, hContours⟩ := rBouquet_rep.1 h
 simp only [bulkBouquet, bulkBox] at hb
 exact rBouquet_rep.2 ⟨ABoxLow, nBoxLow, cBoxLow, ABoxHigh, nBoxHigh, cBoxHigh, ABudgets, nBudgets, cBudgets, APlans, nPlans, cPlans, AContours, nContours, cContours, rfl, hVersion, hRatio, hSlack, (smallIntS hBoxLow (by omega)), (smallIntS hBoxHigh (by omega)), (smallIntS hBudgets (by omega)), (smallPlanS hPlans (by omega)), (smallIntSS hContours (by omega))⟩
theorem smallRunNote {w : World} {cs : List Value} {x : RunNoteD} (h : (rRunNote maxLen).rep w cs x) : (rRunNote NB).rep w cs x := by
 exact rRunNote_rep.2 (rRunNote_rep.1 h)
theorem smallRunNoteS {w : World} {A : Option Addr} {n cap : Nat} {l : List RunNoteD} (h : RS maxLen (rRunNote maxLen) w A n cap l) (hb : l.length ≤ 1048576) : RS NB (rRunNote NB) w A n cap l := by
 have hl := h.len
 refine ⟨h.len, by unfold NB; omega, h.nc, fun hn => ?_⟩
 obtain ⟨b, off, e, hc⟩ := h.cell hn
 refine ⟨b, off, e, fun j x hj => ?_⟩
 obtain ⟨cs, h1, h2⟩ := hc j x hj
 exact ⟨cs, smallRunNote h1, h2⟩
theorem smallOutcome {w : World} {cs : List Value} {x : OutcomeD} (h : (rOutcome maxLen).rep w cs x) (hb : bulkOutcome x ≤ 1048576) : (rOutcome NB).rep w cs x := by
 obtain ⟨AAnswerVars, nAnswerVars, cAnswerVars, AAnswerRows, nAnswerRows, cAnswerRows, ANotes, nNotes, cNotes, ABoxLow, nBoxLow, cBoxLow, ABoxHigh, nBoxHigh, cBoxHigh, rfl, hAnswerVars, hAnswerRows, hTotal, hNotes, hBoxLow, hBoxHigh⟩ := rOutcome_rep.1 h
 simp only [bulkOutcome, bulkAnswer, bulkBox] at hb
 exact rOutcome_rep.2 ⟨AAnswerVars, nAnswerVars, cAnswerVars, AAnswerRows, nAnswerRows, cAnswerRows, ANotes, nNotes, cNotes, ABoxLow, nBoxLow, cBoxLow, ABoxHigh, nBoxHigh, cBoxHigh, rfl, (smallIntS hAnswerVars (by omega)), (smallIntSS hAnswerRows (by omega)), hTotal, (smallRunNoteS hNotes (by omega)), (smallIntS hBoxLow (by omega)), (smallIntS hBoxHigh (by omega))⟩
theorem opensAnswer : Opens Tryd.prog 26 (rAnswer maxLen) := by
 intro H enc w base spare held fuel cs x h
 obtain ⟨xs, n, rfl, _, hlen, hxl, hf⟩ := DataW.trod_struct Tryd.underlying26 h
 have e0 : (Tryd.prog.cellsOf 23) = 1 := by kernel_rfl
 have f0 : DataW.trod enc Tryd.prog w base spare held n 23 ((cs.drop 0).take 1) = xs[0]? := (congrArg (fun k => DataW.trod enc Tryd.prog w base spare held n 23 ((cs.drop 0).take k)) e0.symm).trans (hf 0 _ rfl)
 obtain ⟨y0, g0⟩ := opens_field (opens_slice rInt_ok Tryd.underlying23 (by kernel_rfl) (opens_int Tryd.underlying3)) (i := 0) (by rw [hxl]; decide) f0
 have e1 : (Tryd.prog.cellsOf 24) = 1 := by kernel_rfl
 have f1 : DataW.trod enc Tryd.prog w base spare held n 24 ((cs.drop 1).take 1) = xs[1]? := (congrArg (fun k => DataW.trod enc Tryd.prog w base spare held n 24 ((cs.drop 1).take k)) e1.symm).trans (hf 1 _ rfl)
 obtain ⟨y1, g1⟩ := opens_field (opens_slice (rSlice_ok maxLen _ rInt_ok) Tryd.underlying24 (by kernel_rfl) (opens_slice rInt_ok Tryd.underlying23 (by kernel_rfl) (opens_int Tryd.underlying3))) (i := 1) (by rw [hxl]; decide) f1
 have hl : cs.length = 2 := hlen.trans (by kernel_rfl)
 refine ⟨⟨y0, y1⟩, ?_⟩
 have t1 : (rSlice maxLen 23 (rSlice maxLen 3 rInt)).rep w (cs.drop 1) y1 := by rw [List.take_of_length_le (by rw [List.length_drop, hl]; decide)] at g1; exact g1
 have t0 : (rPair (rSlice maxLen 3 rInt) ((rSlice maxLen 23 (rSlice maxLen 3 rInt)))).rep w (cs.drop 0) (y0, y1) := rPair_split 1 g0 (by rw [List.drop_drop]; exact t1)
 exact t0
theorem opensBox : Opens Tryd.prog 40 (rBox maxLen) := by
 intro H enc w base spare held fuel cs x h
 obtain ⟨xs, n, rfl, _, hlen, hxl, hf⟩ := DataW.trod_struct Tryd.underlying40 h
 have e0 : (Tryd.prog.cellsOf 23) = 1 := by kernel_rfl
 have f0 : DataW.trod enc Tryd.prog w base spare held n 23 ((cs.drop 0).take 1) = xs[0]? := (congrArg (fun k => DataW.trod enc Tryd.prog w base spare held n 23 ((cs.drop 0).take k)) e0.symm).trans (hf 0 _ rfl)
 obtain ⟨y0, g0⟩ := opens_field (opens_slice rInt_ok Tryd.underlying23 (by kernel_rfl) (opens_int Tryd.underlying3)) (i := 0) (by rw [hxl]; decide) f0
 have e1 : (Tryd.prog.cellsOf 23) = 1 := by kernel_rfl
 have f1 : DataW.trod enc Tryd.prog w base spare held n 23 ((cs.drop 1).take 1) = xs[1]? := (congrArg (fun k => DataW.trod enc Tryd.prog w base spare held n 23 ((cs.drop 1).take k)) e1.symm).trans (hf 1 _ rfl)
 obtain ⟨y1, g1⟩ := opens_field (opens_slice rInt_ok Tryd.underlying23 (by kernel_rfl) (opens_int Tryd.underlying3)) (i := 1) (by rw [hxl]; decide) f1
 have hl : cs.length = 2 := hlen.trans (by kernel_rfl)
 refine ⟨⟨y0, y1⟩, ?_⟩
 have t1 : (rSlice maxLen 3 rInt).rep w (cs.drop 1) y1 := by rw [List.take_of_length_le (by rw [List.length_drop, hl]; decide)] at g1; exact g1
 have t0 : (rPair (rSlice maxLen 3 rInt) ((rSlice maxLen 3 rInt))).rep w (cs.drop 0) (y0, y1) := rPair_split 1 g0 (by rw [List.drop_drop]; exact t1)
 exact t0
theorem opensPlanStep : Opens Tryd.prog 132 (rPlanStep maxLen) := by
 intro H enc w base spare held fuel cs x h
 obtain ⟨xs, n, rfl, _, hlen, hxl, hf⟩ := DataW.trod_struct Tryd.underlying132 h
 have e0 : (Tryd.prog.cellsOf 3) = 1 := by kernel_rfl
 have f0 : DataW.trod enc Tryd.prog w base spare held n 3 ((cs.drop 0).take 1) = xs[0]? := (congrArg (fun k => DataW.trod enc Tryd.prog w base spare held n 3 ((cs.drop 0).take k)) e0.symm).trans (hf 0 _ rfl)
 obtain ⟨y0, g0⟩ := opens_field (opens_int Tryd.underlying3) (i := 0) (by rw [hxl]; decide) f0
 have e1 : (Tryd.prog.cellsOf 3) = 1 := by kernel_rfl
 have f1 : DataW.trod enc Tryd.prog w base spare held n 3 ((cs.drop 1).take 1) = xs[1]? := (congrArg (fun k => DataW.trod enc Tryd.prog w base spare held n 3 ((cs.drop 1).take k)) e1.symm).trans (hf 1 _ rfl)
 obtain ⟨y1, g1⟩ := opens_field (opens_int Tryd.underlying3) (i := 1) (by rw [hxl]; decide) f1
 have e2 : (Tryd.prog.cellsOf 3) = 1 := by kernel_rfl
 have f2 : DataW.trod enc Tryd.prog w base spare held n 3 ((cs.drop 2).take 1) = xs[2]? := (congrArg (fun k => DataW.trod enc Tryd.prog w base spare held n 3 ((cs.drop 2).take k)) e2.symm).trans (hf 2 _ rfl)
 obtain ⟨y2, g2⟩ := opens_field (opens_int Tryd.underlying3) (i := 2) (by rw [hxl]; decide) f2
 have hl : cs.length = 3 := hlen.trans (by kernel_rfl)
 refine ⟨⟨y0, y1, y2⟩, ?_⟩
 have t2 : rInt.rep w (cs.drop 2) y2 := by rw [List.take_of_length_le (by rw [List.length_drop, hl]; decide)] at g2; exact g2
 have t1 : (rPair rInt (rInt)).rep w (cs.drop 1) (y1, y2) := rPair_split 1 g1 (by rw [List.drop_drop]; exact t2)
 have t0 : (rPair rInt (rPair rInt (rInt))).rep w (cs.drop 0) (y0, y1, y2) := rPair_split 1 g0 (by rw [List.drop_drop]; exact t1)
 exact t0
theorem opensPlan : Opens Tryd.prog 108 (rPlan maxLen) := by
 intro H enc w base spare held fuel cs x h
 obtain ⟨xs, n, rfl, _, hlen, hxl, hf⟩ := DataW.trod_struct Tryd.underlying108 h
 have e0 : (Tryd.prog.cellsOf 106) = 1 := by kernel_rfl
 have f0 : DataW.trod enc Tryd.prog w base spare held n 106 ((cs.drop 0).take 1) = xs[0]? := (congrArg (fun k => DataW.trod enc Tryd.prog w base spare held n 106 ((cs.drop 0).take k)) e0.symm).trans (hf 0 _ rfl)
 obtain ⟨y0, g0⟩ := opens_field (opens_slice (rPlanStep_ok maxLen) Tryd.underlying106 (by kernel_rfl) opensPlanStep) (i := 0) (by rw [hxl]; decide) f0
 have hl : cs.length = 1 := hlen.trans (by kernel_rfl)
 refine ⟨⟨y0⟩, ?_⟩
 show (rSlice maxLen 113 (rPlanStep maxLen)).rep w cs y0
 rw [List.drop_zero, List.take_of_length_le (by rw [hl]; decide)] at g0
 exact g0
theorem opensObservation : Opens Tryd.prog 100 (rObservation maxLen) := by
 intro H enc w base spare held fuel cs x h
 obtain ⟨xs, n, rfl, _, hlen, hxl, hf⟩ := DataW.trod_struct Tryd.underlying100 h
 have e0 : (Tryd.prog.cellsOf 3) = 1 := by kernel_rfl
 have f0 : DataW.trod enc Tryd.prog w base spare held n 3 ((cs.drop 0).take 1) = xs[0]? := (congrArg (fun k => DataW.trod enc Tryd.prog w base spare held n 3 ((cs.drop 0).take k)) e0.symm).trans (hf 0 _ rfl)
 obtain ⟨y0, g0⟩ := opens_field (opens_int Tryd.underlying3) (i := 0) (by rw [hxl]; decide) f0
 have e1 : (Tryd.prog.cellsOf 3) = 1 := by kernel_rfl
 have f1 : DataW.trod enc Tryd.prog w base spare held n 3 ((cs.drop 1).take 1) = xs[1]? := (congrArg (fun k => DataW.trod enc Tryd.prog w base spare held n 3 ((cs.drop 1).take k)) e1.symm).trans (hf 1 _ rfl)
 obtain ⟨y1, g1⟩ := opens_field (opens_int Tryd.underlying3) (i := 1) (by rw [hxl]; decide) f1
 have e2 : (Tryd.prog.cellsOf 4) = 1 := by kernel_rfl
 have f2 : DataW.trod enc Tryd.prog w base spare held n 4 ((cs.drop 2).take 1) = xs[2]? := (congrArg (fun k => DataW.trod enc Tryd.prog w base spare held n 4 ((cs.drop 2).take k)) e2.symm).trans (hf 2 _ rfl)
 obtain ⟨y2, g2⟩ := opens_field (opens_bool Tryd.underlying4) (i := 2) (by rw [hxl]; decide) f2
 have hl : cs.length = 3 := hlen.trans (by kernel_rfl)
 refine ⟨⟨y0, y1, y2⟩, ?_⟩
 have t2 : rBool.rep w (cs.drop 2) y2 := by rw [List.take_of_length_le (by rw [List.length_drop, hl]; decide)] at g2; exact g2
 have t1 : (rPair rInt (rBool)).rep w (cs.drop 1) (y1, y2) := rPair_split 1 g1 (by rw [List.drop_drop]; exact t2)
 have t0 : (rPair rInt (rPair rInt (rBool))).rep w (cs.drop 0) (y0, y1, y2) := rPair_split 1 g0 (by rw [List.drop_drop]; exact t1)
 exact t0
theorem opensRun : Opens Tryd.prog 28 (rRun maxLen) := by
 intro H enc w base spare held fuel cs x h
 obtain ⟨xs, n, rfl, _, hlen, hxl, hf⟩ := DataW.trod_struct Tryd.underlying28 h
 have e0 : (Tryd.prog.cellsOf 4) = 1 := by kernel_rfl
 have f0 : DataW.trod enc Tryd.prog w base spare held n 4 ((cs.drop 0).take 1) = xs[0]? := (congrArg (fun k => DataW.trod enc Tryd.prog w base spare held n 4 ((cs.drop 0).take k)) e0.symm).trans (hf 0 _ rfl)
 obtain ⟨y0, g0⟩ := opens_field (opens_bool Tryd.underlying4) (i := 0) (by rw [hxl]; decide) f0
 have e1 : (Tryd.prog.cellsOf 3) = 1 := by kernel_rfl
 have f1 : DataW.trod enc Tryd.prog w base spare held n 3 ((cs.drop 1).take 1) = xs[1]? := (congrArg (fun k => DataW.trod enc Tryd.prog w base spare held n 3 ((cs.drop 1).take k)) e1.symm).trans (hf 1 _ rfl)
 obtain ⟨y1, g1⟩ := opens_field (opens_int Tryd.underlying3) (i := 1) (by rw [hxl]; decide) f1
 have e2 : (Tryd.prog.cellsOf 3) = 1 := by kernel_rfl
 have f2 : DataW.trod enc Tryd.prog w base spare held n 3 ((cs.drop 2).take 1) = xs[2]? := (congrArg (fun k => DataW.trod enc Tryd.prog w base spare held n 3 ((cs.drop 2).take k)) e2.symm).trans (hf 2 _ rfl)
 obtain ⟨y2, g2⟩ := opens_field (opens_int Tryd.underlying3) (i := 2) (by rw [hxl]; decide) f2
 have e3 : (Tryd.prog.cellsOf 22) = 1 := by kernel_rfl
 have f3 : DataW.trod enc Tryd.prog w base spare held n 22 ((cs.drop 3).take 1) = xs[3]? := (congrArg (fun k => DataW.trod enc Tryd.prog w base spare held n 22 ((cs.drop 3).take k)) e3.symm).trans (hf 3 _ rfl)
 obtain ⟨y3, g3⟩ := opens_field (opens_slice (rObservation_ok maxLen) Tryd.underlying22 (by kernel_rfl) opensObservation) (i := 3) (by rw [hxl]; decide) f3
 have e4 : (Tryd.prog.cellsOf 26) = 2 := by kernel_rfl
 have f4 : DataW.trod enc Tryd.prog w base spare held n 26 ((cs.drop 4).take 2) = xs[4]? := (congrArg (fun k => DataW.trod enc Tryd.prog w base spare held n 26 ((cs.drop 4).take k)) e4.symm).trans (hf 4 _ rfl)
 obtain ⟨y4, g4⟩ := opens_field opensAnswer (i := 4) (by rw [hxl]; decide) f4
 have hl : cs.length = 6 := hlen.trans (by kernel_rfl)
 refine ⟨⟨y0, y1, y2, y3, y4⟩, ?_⟩
 have t4 : (rAnswer maxLen).rep w (cs.drop 4) y4 := by rw [List.take_of_length_le (by rw [List.length_drop, hl]; decide)] at g4; exact g4
 have t3 : (rPair (rSlice maxLen 70 (rObservation maxLen)) ((rAnswer maxLen))).rep w (cs.drop 3) (y3, y4) := rPair_split 1 g3 (by rw [List.drop_drop]; exact t4)
 have t2 : (rPair rInt (rPair (rSlice maxLen 70 (rObservation maxLen)) ((rAnswer maxLen)))).rep w (cs.drop 2) (y2, y3, y4) := rPair_split 1 g2 (by rw [List.drop_drop]; exact t3)
 have t1 : (rPair rInt (rPair rInt (rPair (rSlice maxLen 70 (rObservation maxLen)) ((rAnswer maxLen))))).rep w (cs.drop 1) (y1, y2, y3, y4) := rPair_split 1 g1 (by rw [List.drop_drop]; exact t2)
 have t0 : (rPair rBool (rPair rInt (rPair rInt (rPair (rSlice maxLen 70 (rObservation maxLen)) ((rAnswer maxLen)))))).rep w (cs.drop 0) (y0, y1, y2, y3, y4) := rPair_split 1 g0 (by rw [List.drop_drop]; exact t1)
 exact t0
theorem opensBouquet : Opens Tryd.prog 54 (rBouquet maxLen) := by
 intro H enc w base spare held fuel cs x h
 obtain ⟨xs, n, rfl, _, hlen, hxl, hf⟩ := DataW.trod_struct Tryd.underlying54 h
 have e0 : (Tryd.prog.cellsOf 3) = 1 := by kernel_rfl
 have f0 : DataW.trod enc Tryd.prog w base spare held n 3 ((cs.drop 0).take 1) = xs[0]? := (congrArg (fun k => DataW.trod enc Tryd.prog w base spare held n 3 ((cs.drop 0).take k)) e0.symm).trans (hf 0 _ rfl)
 obtain ⟨y0, g0⟩ := opens_field (opens_int Tryd.underlying3) (i := 0) (by rw [hxl]; decide) f0
 have e1 : (Tryd.prog.cellsOf 3) = 1 := by kernel_rfl
 have f1 : DataW.trod enc Tryd.prog w base spare held n 3 ((cs.drop 1).take 1) = xs[1]? := (congrArg (fun k => DataW.trod enc Tryd.prog w base spare held n 3 ((cs.drop 1).take k)) e1.symm).trans (hf 1 _ rfl)
 obtain ⟨y1, g1⟩ := opens_field (opens_int Tryd.underlying3) (i := 1) (by rw [hxl]; decide) f1
 have e2 : (Tryd.prog.cellsOf 3) = 1 := by kernel_rfl
 have f2 : DataW.trod enc Tryd.prog w base spare held n 3 ((cs.drop 2).take 1) = xs[2]? := (congrArg (fun k => DataW.trod enc Tryd.prog w base spare held n 3 ((cs.drop 2).take k)) e2.symm).trans (hf 2 _ rfl)
 obtain ⟨y2, g2⟩ := opens_field (opens_int Tryd.underlying3) (i := 2) (by rw [hxl]; decide) f2
 have e3 : (Tryd.prog.cellsOf 40) = 2 := by kernel_rfl
 have f3 : DataW.trod enc Tryd.prog w base spare held n 40 ((cs.drop 3).take 2) = xs[3]? := (congrArg (fun k => DataW.trod enc Tryd.prog w base spare held n 40 ((cs.drop 3).take k)) e3.symm).trans (hf 3 _ rfl)
 obtain ⟨y3, g3⟩ := opens_field opensBox (i := 3) (by rw [hxl]; decide) f3
 have e4 : (Tryd.prog.cellsOf 23) = 1 := by kernel_rfl
 have f4 : DataW.trod enc Tryd.prog w base spare held n 23 ((cs.drop 5).take 1) = xs[4]? := (congrArg (fun k => DataW.trod enc Tryd.prog w base spare held n 23 ((cs.drop 5).take k)) e4.symm).trans (hf 4 _ rfl)
 obtain ⟨y4, g4⟩ := opens_field (opens_slice rInt_ok Tryd.underlying23 (by kernel_rfl) (opens_int Tryd.underlying3)) (i := 4) (by rw [hxl]; decide) f4
 have e5 : (Tryd.prog.cellsOf 52) = 1 := by kernel_rfl
 have f5 : DataW.trod enc Tryd.prog w base spare held n 52 ((cs.drop 6).take 1) = xs[5]? := (congrArg (fun k => DataW.trod enc Tryd.prog w base spare held n 52 ((cs.drop 6).take k)) e5.symm).trans (hf 5 _ rfl)
 obtain ⟨y5, g5⟩ := opens_field (opens_slice (rPlan_ok maxLen) Tryd.underlying52 (by kernel_rfl) opensPlan) (i := 5) (by rw [hxl]; decide) f5
 have e6 : (Tryd.prog.cellsOf 24) = 1 := by kernel_rfl
 have f6 : DataW.trod enc Tryd.prog w base spare held n 24 ((cs.drop 7).take 1) = xs[6]? := (congrArg (fun k => DataW.trod enc Tryd.prog w base spare held n 24 ((cs.drop 7).take k)) e6.symm).trans (hf 6 _ rfl)
 obtain ⟨y6, g6⟩ := opens_field (opens_slice (rSlice_ok maxLen _ rInt_ok) Tryd.underlying24 (by kernel_rfl) (opens_slice rInt_ok Tryd.underlying23 (by kernel_rfl) (opens_int Tryd.underlying3))) (i := 6) (by rw [hxl]; decide) f6
 have hl : cs.length = 8 := hlen.trans (by kernel_rfl)
 refine ⟨⟨y0, y1, y2, y3, y4, y5, y6⟩, ?_⟩
 have t6 : (rSlice maxLen 23 (rSlice maxLen 3 rInt)).rep w (cs.drop 7) y6 := by rw [List.take_of_length_le (by rw [List.length_drop, hl]; decide)] at g6; exact g6
 have t5 : (rPair (rSlice maxLen 89 (rPlan maxLen)) ((rSlice maxLen 23 (rSlice maxLen 3 rInt)))).rep w (cs.drop 6) (y5, y6) := rPair_split 1 g5 (by rw [List.drop_drop]; exact t6)
 have t4 : (rPair (rSlice maxLen 3 rInt) (rPair (rSlice maxLen 89 (rPlan maxLen)) ((rSlice maxLen 23 (rSlice maxLen 3 rInt))))).rep w (cs.drop 5) (y4, y5, y6) := rPair_split 1 g4 (by rw [List.drop_drop]; exact t5)
 have t3 : (rPair (rBox maxLen) (rPair (rSlice maxLen 3 rInt) (rPair (rSlice maxLen 89 (rPlan maxLen)) ((rSlice maxLen 23 (rSlice maxLen 3 rInt)))))).rep w (cs.drop 3) (y3, y4, y5, y6) := rPair_split 2 g3 (by rw [List.drop_drop]; exact t4)
 have t2 : (rPair rInt (rPair (rBox maxLen) (rPair (rSlice maxLen 3 rInt) (rPair (rSlice maxLen 89 (rPlan maxLen)) ((rSlice maxLen 23 (rSlice maxLen 3 rInt))))))).rep w (cs.drop 2) (y2, y3, y4, y5, y6) := rPair_split 1 g2 (by rw [List.drop_drop]; exact t3)
 have t1 : (rPair rInt (rPair rInt (rPair (rBox maxLen) (rPair (rSlice maxLen 3 rInt) (rPair (rSlice maxLen 89 (rPlan maxLen)) ((rSlice maxLen 23 (rSlice maxLen 3 rInt)))))))).rep w (cs.drop 1) (y1, y2, y3, y4, y5, y6) := rPair_split 1 g1 (by rw [List.drop_drop]; exact t2)
 have t0 : (rPair rInt (rPair rInt (rPair rInt (rPair (rBox maxLen) (rPair (rSlice maxLen 3 rInt) (rPair (rSlice maxLen 89 (rPlan maxLen)) ((rSlice maxLen 23 (rSlice maxLen 3 rInt))))))))).rep w (cs.drop 0) (y0, y1, y2, y3, y4, y5, y6) := rPair_split 1 g0 (by rw [List.drop_drop]; exact t1)
 exact t0
theorem opensRunNote : Opens Tryd.prog 103 (rRunNote maxLen) := by
 intro H enc w base spare held fuel cs x h
 obtain ⟨xs, n, rfl, _, hlen, hxl, hf⟩ := DataW.trod_struct Tryd.underlying103 h
 have e0 : (Tryd.prog.cellsOf 3) = 1 := by kernel_rfl
 have f0 : DataW.trod enc Tryd.prog w base spare held n 3 ((cs.drop 0).take 1) = xs[0]? := (congrArg (fun k => DataW.trod enc Tryd.prog w base spare held n 3 ((cs.drop 0).take k)) e0.symm).trans (hf 0 _ rfl)
 obtain ⟨y0, g0⟩ := opens_field (opens_int Tryd.underlying3) (i := 0) (by rw [hxl]; decide) f0
 have e1 : (Tryd.prog.cellsOf 3) = 1 := by kernel_rfl
 have f1 : DataW.trod enc Tryd.prog w base spare held n 3 ((cs.drop 1).take 1) = xs[1]? := (congrArg (fun k => DataW.trod enc Tryd.prog w base spare held n 3 ((cs.drop 1).take k)) e1.symm).trans (hf 1 _ rfl)
 obtain ⟨y1, g1⟩ := opens_field (opens_int Tryd.underlying3) (i := 1) (by rw [hxl]; decide) f1
 have e2 : (Tryd.prog.cellsOf 3) = 1 := by kernel_rfl
 have f2 : DataW.trod enc Tryd.prog w base spare held n 3 ((cs.drop 2).take 1) = xs[2]? := (congrArg (fun k => DataW.trod enc Tryd.prog w base spare held n 3 ((cs.drop 2).take k)) e2.symm).trans (hf 2 _ rfl)
 obtain ⟨y2, g2⟩ := opens_field (opens_int Tryd.underlying3) (i := 2) (by rw [hxl]; decide) f2
 have e3 : (Tryd.prog.cellsOf 3) = 1 := by kernel_rfl
 have f3 : DataW.trod enc Tryd.prog w base spare held n 3 ((cs.drop 3).take 1) = xs[3]? := (congrArg (fun k => DataW.trod enc Tryd.prog w base spare held n 3 ((cs.drop 3).take k)) e3.symm).trans (hf 3 _ rfl)
 obtain ⟨y3, g3⟩ := opens_field (opens_int Tryd.underlying3) (i := 3) (by rw [hxl]; decide) f3
 have e4 : (Tryd.prog.cellsOf 4) = 1 := by kernel_rfl
 have f4 : DataW.trod enc Tryd.prog w base spare held n 4 ((cs.drop 4).take 1) = xs[4]? := (congrArg (fun k => DataW.trod enc Tryd.prog w base spare held n 4 ((cs.drop 4).take k)) e4.symm).trans (hf 4 _ rfl)
 obtain ⟨y4, g4⟩ := opens_field (opens_bool Tryd.underlying4) (i := 4) (by rw [hxl]; decide) f4
 have hl : cs.length = 5 := hlen.trans (by kernel_rfl)
 refine ⟨⟨y0, y1, y2, y3, y4⟩, ?_⟩
 have t4 : rBool.rep w (cs.drop 4) y4 := by rw [List.take_of_length_le (by rw [List.length_drop, hl]; decide)] at g4; exact g4
 have t3 : (rPair rInt (rBool)).rep w (cs.drop 3) (y3, y4) := rPair_split 1 g3 (by rw [List.drop_drop]; exact t4)
 have t2 : (rPair rInt (rPair rInt (rBool))).rep w (cs.drop 2) (y2, y3, y4) := rPair_split 1 g2 (by rw [List.drop_drop]; exact t3)
 have t1 : (rPair rInt (rPair rInt (rPair rInt (rBool)))).rep w (cs.drop 1) (y1, y2, y3, y4) := rPair_split 1 g1 (by rw [List.drop_drop]; exact t2)
 have t0 : (rPair rInt (rPair rInt (rPair rInt (rPair rInt (rBool))))).rep w (cs.drop 0) (y0, y1, y2, y3, y4) := rPair_split 1 g0 (by rw [List.drop_drop]; exact t1)
 exact t0
theorem opensOutcome : Opens Tryd.prog 42 (rOutcome maxLen) := by
 intro H enc w base spare held fuel cs x h
 obtain ⟨xs, n, rfl, _, hlen, hxl, hf⟩ := DataW.trod_struct Tryd.underlying42 h
 have e0 : (Tryd.prog.cellsOf 26) = 2 := by kernel_rfl
 have f0 : DataW.trod enc Tryd.prog w base spare held n 26 ((cs.drop 0).take 2) = xs[0]? := (congrArg (fun k => DataW.trod enc Tryd.prog w base spare held n 26 ((cs.drop 0).take k)) e0.symm).trans (hf 0 _ rfl)
 obtain ⟨y0, g0⟩ := opens_field opensAnswer (i := 0) (by rw [hxl]; decide) f0
 have e1 : (Tryd.prog.cellsOf 3) = 1 := by kernel_rfl
 have f1 : DataW.trod enc Tryd.prog w base spare held n 3 ((cs.drop 2).take 1) = xs[1]? := (congrArg (fun k => DataW.trod enc Tryd.prog w base spare held n 3 ((cs.drop 2).take k)) e1.symm).trans (hf 1 _ rfl)
 obtain ⟨y1, g1⟩ := opens_field (opens_int Tryd.underlying3) (i := 1) (by rw [hxl]; decide) f1
 have e2 : (Tryd.prog.cellsOf 38) = 1 := by kernel_rfl
 have f2 : DataW.trod enc Tryd.prog w base spare held n 38 ((cs.drop 3).take 1) = xs[2]? := (congrArg (fun k => DataW.trod enc Tryd.prog w base spare held n 38 ((cs.drop 3).take k)) e2.symm).trans (hf 2 _ rfl)
 obtain ⟨y2, g2⟩ := opens_field (opens_slice (rRunNote_ok maxLen) Tryd.underlying38 (by kernel_rfl) opensRunNote) (i := 2) (by rw [hxl]; decide) f2
 have e3 : (Tryd.prog.cellsOf 40) = 2 := by kernel_rfl
 have f3 : DataW.trod enc Tryd.prog w base spare held n 40 ((cs.drop 4).take 2) = xs[3]? := (congrArg (fun k => DataW.trod enc Tryd.prog w base spare held n 40 ((cs.drop 4).take k)) e3.symm).trans (hf 3 _ rfl)
 obtain ⟨y3, g3⟩ := opens_field opensBox (i := 3) (by rw [hxl]; decide) f3
 have hl : cs.length = 6 := hlen.trans (by kernel_rfl)
 refine ⟨⟨y0, y1, y2, y3⟩, ?_⟩
 have t3 : (rBox maxLen).rep w (cs.drop 4) y3 := by rw [List.take_of_length_le (by rw [List.length_drop, hl]; decide)] at g3; exact g3
 have t2 : (rPair (rSlice maxLen 76 (rRunNote maxLen)) ((rBox maxLen))).rep w (cs.drop 3) (y2, y3) := rPair_split 1 g2 (by rw [List.drop_drop]; exact t3)
 have t1 : (rPair rInt (rPair (rSlice maxLen 76 (rRunNote maxLen)) ((rBox maxLen)))).rep w (cs.drop 2) (y1, y2, y3) := rPair_split 1 g1 (by rw [List.drop_drop]; exact t2)
 have t0 : (rPair (rAnswer maxLen) (rPair rInt (rPair (rSlice maxLen 76 (rRunNote maxLen)) ((rBox maxLen))))).rep w (cs.drop 0) (y0, y1, y2, y3) := rPair_split 2 g0 (by rw [List.drop_drop]; exact t1)
 exact t0
end Go.Proofs.YtnbikckbnbgjkaaDoor
