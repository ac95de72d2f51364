/-
  MarkC
-/
import Derived.Test.YtkdajdafhjobbaaMark
import Derived.Test.YtkdajdafhjobbaaSz
namespace Go.Proofs.Ytkdajdafhjobbaa
open Go.RowKit
set_option linter.unusedVariables false
set_option linter.unusedSimpArgs false

theorem cntS_le {α : Type} {c b : α → Nat} {l : List α} (h : ∀ x, c x ≤ 8 * (1 + b x)) : cntS c l ≤ 8 * bulkS b l := by
 unfold cntS bulkS
 induction l with
 | nil => simp
 | cons x l ih => simp only [List.map_cons, List.sum_cons, List.length_cons] at ih ⊢; have := h x; omega
theorem cntS_len {α : Type} {c : α → Nat} {l : List α} {m : Nat} (h : ∀ x, c x = m) : cntS c l = m * l.length := by
 unfold cntS
 induction l with
 | nil => simp
 | cons x l ih => simp only [List.map_cons, List.sum_cons, List.length_cons] at ih ⊢; rw [ih, h x, Nat.mul_add]; omega
theorem cntb_IntS (l : List Int) : cnt_IntS l ≤ 8 * l.length := by unfold cnt_IntS; omega
theorem cnto_IntS {w : World} {fp : List Nat} {A : Option Addr} {n cap : Nat} {l : List Int} (h : OS NB 3 rInt w fp A n cap l) : cnt_IntS l ≤ 4294967296 := by unfold cnt_IntS; rw [h.len]; exact h.nb
theorem cntb_IntSS (l : List (List Int)) : cnt_IntSS l ≤ 8 * (bulkS (fun x => x.length) l) := by
 unfold cnt_IntSS; refine cntS_le fun x => ?_
 have := cntb_IntS x
 omega
theorem cntb_TableS (l : List TableD) : cnt_TableS l ≤ 8 * (bulkS (fun x => bulkTable x) l) := by
 unfold cnt_TableS; refine cntS_le fun x => ?_
 have := cntb_IntSS x.fRows
 unfold cntE_Table; simp only [bulkTable]; omega
theorem cntb_Database (x : DatabaseD) : cnt_Database x ≤ 8 * bulkDatabase x := by
 have := cntb_TableS x.fTables
 unfold cnt_Database bulkDatabase; omega
theorem cntb_AtomS (l : List AtomD) : cnt_AtomS l ≤ 8 * (bulkS (fun x => bulkAtom x) l) := by
 unfold cnt_AtomS; refine cntS_le fun x => ?_
 have := cntb_IntS x.fVars
 unfold cntE_Atom; simp only [bulkAtom]; omega
theorem cntb_Query (x : QueryD) : cnt_Query x ≤ 8 * bulkQuery x := by
 have := cntb_AtomS x.fAtoms
 unfold cnt_Query bulkQuery; omega
end Go.Proofs.Ytkdajdafhjobbaa
