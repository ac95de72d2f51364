/-
  Mrp
-/
import Derived.Test.YtceeggmfedpdkaaMrg
namespace Go.Proofs.Ytceeggmfedpdkaa
open Go.RowKit
set_option linter.unusedVariables false
set_option linter.unusedSimpArgs false

theorem adj_pw {α : Type} {l : List α} {R : α → α → Prop} (ht : ∀ a b c, R a b → R b c → R a c) (h : ∀ (j : Nat) p q, l[j]? = some p → l[j + 1]? = some q → R p q) : l.Pairwise R := by
 induction l with
 | nil => exact .nil
 | cons x l ih =>
  have ih := ih (fun j p q hp hq => h (j + 1) p q (by simpa using hp) (by simpa using hq))
  refine List.Pairwise.cons ?_ ih
  cases l with
  | nil => simp
  | cons y l' =>
   have hxy := h 0 x y rfl rfl
   intro z hz
   rcases List.mem_cons.1 hz with rfl | hz
   ·exact hxy
   ·exact ht _ _ _ hxy ((List.pairwise_cons.1 ih).1 z hz)
def keyAt (t : Nat) (p : List Int) : Int := (p[t]?).getD 0
theorem keyAt_some {t : Nat} {p : List Int} {a : Int} (h : p[t]? = some a) : p[t]? = some (keyAt t p) := by unfold keyAt; rw [h]; rfl
theorem sorted_pw {t : Nat} {l : List (List Int)} (hc : ∀ r ∈ l, r[t]? = some (keyAt t r)) (h : sortedAt t l = true) : l.Pairwise (fun p q => keyAt t p ≤ keyAt t q) := by
 refine adj_pw (fun a b c h1 h2 => Int.le_trans h1 h2) (fun j p q hp hq => ?_)
 unfold sortedAt at h
 rw [List.all_eq_true] at h
 have hj : j < l.length := (List.getElem?_eq_some_iff.1 hp).1
 have h2 := h j (List.mem_range.2 hj)
 rw [okAt_val hp hq, leAt_val (hc p (List.mem_of_getElem? hp)) (hc q (List.mem_of_getElem? hq))] at h2
 exact of_decide_eq_true h2
theorem filter_step {t : Nat} {l : List (List Int)} (h : l.Pairwise (fun p q => keyAt t p ≤ keyAt t q)) (k : Int) :
  l.filter (fun p => decide (keyAt t p < k + 1)) = l.filter (fun p => decide (keyAt t p < k)) ++ l.filter (fun p => decide (keyAt t p = k)) := by
 induction l with
 | nil => rfl
 | cons x l ih =>
  obtain ⟨hx, hl⟩ := List.pairwise_cons.1 h
  have ih := ih hl
  by_cases h1 : keyAt t x < k
  ·have h2 : keyAt t x < k + 1 := by omega
   have h3 : ¬ keyAt t x = k := by omega
   rw [List.filter_cons_of_pos (by simpa using h2), List.filter_cons_of_pos (by simpa using h1), List.filter_cons_of_neg (by simpa using h3), ih]; rfl
  ·have he : l.filter (fun p => decide (keyAt t p < k)) = [] := by
    rw [List.filter_eq_nil_iff]; intro p hp; have := hx p hp; simp; omega
   rw [he] at ih
   by_cases h2 : keyAt t x = k
   ·have h3 : keyAt t x < k + 1 := by omega
    rw [List.filter_cons_of_pos (by simpa using h3), List.filter_cons_of_neg (by simpa using h1), List.filter_cons_of_pos (by simpa using h2), he, ih]; rfl
   ·have h3 : ¬ keyAt t x < k + 1 := by omega
    rw [List.filter_cons_of_neg (by simpa using h3), List.filter_cons_of_neg (by simpa using h1), List.filter_cons_of_neg (by simpa using h2), he, ih]
theorem nest_filter {β γ : Type} {t : Nat} {val : Int} {f : List Int → β → Option γ} {xs : List (List Int)} {ys : List β} (hc : ∀ r ∈ xs, r[t]? = some (keyAt t r)) :
  nestRows (fun p q => if p[t]? = some val then f p q else none) xs ys = nestRows f (xs.filter (fun p => decide (keyAt t p = val))) ys := by
 induction xs with
 | nil => rfl
 | cons x xs ih =>
  have ih := ih (fun r hr => hc r (List.mem_cons_of_mem _ hr))
  have hx := hc x (List.mem_cons_self ..)
  unfold nestRows at ih ⊢
  rw [List.flatMap_cons, ih]
  by_cases h : keyAt t x = val
  ·have h2 : x[t]? = some val := by rw [hx, h]
   rw [List.filter_cons_of_pos (by simpa using h), List.flatMap_cons]
   simp [h2]
  ·have h2 : ¬ x[t]? = some val := by rw [hx]; simpa using h
   rw [List.filter_cons_of_neg (by simpa using h)]
   simp [h2]
def rowsTo (x y : StreamD) (t : Nat) : Nat → List (List Int)
 | 0 => []
 | k + 1 => rowsTo x y t k ++ nestRows (fun p q => if p[t]? = some (k : Int) then joinBy x y p q else none) x.fRows y.fRows
theorem rowsTo_eq {x y : StreamD} {t : Nat} (hc : ∀ r ∈ x.fRows, r[t]? = some (keyAt t r) ∧ 0 ≤ keyAt t r) (hp : x.fRows.Pairwise (fun p q => keyAt t p ≤ keyAt t q)) (k : Nat) :
  rowsTo x y t k = nestRows (fun p q => joinBy x y p q) (x.fRows.filter (fun p => decide (keyAt t p < (k : Int)))) y.fRows := by
 induction k with
 | zero =>
  have : x.fRows.filter (fun p => decide (keyAt t p < ((0 : Nat) : Int))) = [] := by
   rw [List.filter_eq_nil_iff]; intro p hp; have := (hc p hp).2; simp; omega
  rw [this]; rfl
 | succ k ih =>
  have e : ((k + 1 : Nat) : Int) = (k : Int) + 1 := by omega
  rw [e, filter_step hp, rowsTo, ih, nest_filter (fun r hr => (hc r hr).1)]
  unfold nestRows; rw [List.flatMap_append]
theorem rowsTo_all {x y : StreamD} {t : Nat} (hcol : ∀ r ∈ x.fRows, ∃ a : Int, r[t]? = some a ∧ 0 ≤ a ∧ a ≤ 9) (hs : sortedAt t x.fRows = true) : rowsTo x y t 10 = nestRows (fun p q => joinBy x y p q) x.fRows y.fRows := by
 have hc : ∀ r ∈ x.fRows, r[t]? = some (keyAt t r) ∧ 0 ≤ keyAt t r ∧ keyAt t r ≤ 9 := by
  intro r hr
  obtain ⟨a, ha, h1, h2⟩ := hcol r hr
  have hk : keyAt t r = a := by unfold keyAt; rw [ha]; rfl
  exact ⟨by rw [hk]; exact ha, by omega, by omega⟩
 rw [rowsTo_eq (fun r hr => ⟨(hc r hr).1, (hc r hr).2.1⟩) (sorted_pw (fun r hr => (hc r hr).1) hs)]
 have : x.fRows.filter (fun p => decide (keyAt t p < ((10 : Nat) : Int))) = x.fRows := by
  rw [List.filter_eq_self]; intro p hp; have := (hc p hp).2.2; simp; omega
 rw [this]
theorem isSorted_parts {x : StreamD} {v : Int} (h : isSorted x v = true) : validStream x = true ∧ ∃ t, x.fVars.findIdx? (fun c => c == v) = some t ∧ sortedAt t x.fRows = true := by
 unfold isSorted at h
 rw [Bool.and_eq_true] at h
 refine ⟨h.1, ?_⟩
 have h2 := h.2
 split at h2
 ·cases h2
 ·rename_i t ht; exact ⟨t, ht, h2⟩
theorem find_lt {l : List Int} {v : Int} {t : Nat} (h : l.findIdx? (fun c => c == v) = some t) : t < l.length := (List.findIdx?_eq_some_iff_getElem.1 h).1
/-- the loop's world in the reference's MergeJoin: the box of the rows so far -/
structure Lm (wB : World) (gO : Nat) (V : Value) (rows : List (List Int)) (AR : Option Addr) (nR cR : Nat) (wr : World) : Prop where
 chg : Chg [gO] wB wr
 ko : Bk wr gO 40 [V, .slice AR nR cR]
 ms : MS wB.heap.size NB 37 (rSlice NB 3 rInt) wr AR nR cR rows
def lmW (wB : World) (gO : Nat) (AR : Option Addr) (nR cR : Nat) : World := wB.setCell ⟨gO, 1, none⟩ (.slice AR nR cR)
theorem lmW_size (wB : World) (gO : Nat) (AR : Option Addr) (nR cR : Nat) : (lmW wB gO AR nR cR).heap.size = wB.heap.size := by unfold lmW; rw [World.size_setCell]
theorem Lm.low {wB wr : World} {gO : Nat} {V z : Value} {rows : List (List Int)} {AR : Option Addr} {nR cR : Nat} (h : Lm wB gO V rows AR nR cR wr) (hB : Bk wB gO 40 [V, z]) :
  Below (lmW wB gO AR nR cR).heap.size (lmW wB gO AR nR cR) wr := by
 refine ⟨h.chg.os, h.chg.tape, h.chg.output, by rw [lmW_size]; exact h.chg.size, fun k hk => ?_⟩
 rw [lmW_size] at hk
 by_cases e : k = gO
 ·subst e
  have h1 := hB.set 1 (.slice AR nR cR)
  have h2 := h.ko
  unfold Bk at h1 h2
  unfold lmW
  rw [h1, h2]; rfl
 ·exact (h.chg.block k hk (by simpa using e)).trans (heap_setCell_other wB ⟨gO, 1, none⟩ k _ (fun e2 => e e2)).symm
theorem Lm.rows {wB wr : World} {gO : Nat} {V : Value} {rows : List (List Int)} {AR : Option Addr} {nR cR : Nat} (h : Lm wB gO V rows AR nR cR wr) :
  MS (lmW wB gO AR nR cR).heap.size NB 37 (rSlice NB 3 rInt) wr AR nR cR rows := by rw [lmW_size]; exact h.ms
theorem Lm.after {wB w' : World} {gO : Nat} {V z : Value} {rows' : List (List Int)} {AR AR' : Option Addr} {nR cR nR' cR' : Nat} (hB : Bk wB gO 40 [V, z]) (hb : Below (lmW wB gO AR nR cR).heap.size (lmW wB gO AR nR cR) w')
  (hm : MS (lmW wB gO AR nR cR).heap.size NB 37 (rSlice NB 3 rInt) w' AR' nR' cR' rows') :
  Bk w' gO 40 [V, .slice AR nR cR] ∧ Lm wB gO V rows' AR' nR' cR' ((w'.setCell ⟨gO, 0, none⟩ V).setCell ⟨gO, 1, none⟩ (.slice AR' nR' cR')) := by
 have k1 : Bk (lmW wB gO AR nR cR) gO 40 [V, .slice AR nR cR] := hB.set 1 _
 have k2 : Bk w' gO 40 [V, .slice AR nR cR] := k1.below hb
 refine ⟨k2, ⟨?_, (k2.set 0 V).set 1 _, ?_⟩⟩
 ·have c1 : Chg [gO] wB (lmW wB gO AR nR cR) := (Chg.refl _ _).setCell (by simp) _ _
  exact ((c1.trans (Chg.ofBelow hb _)).setCell (by simp) _ _).setCell (by simp) _ _
 ·rw [lmW_size] at hm
  obtain ⟨fp, o, fr⟩ := hm
  refine ⟨fp, o.okeep (rSlice_ok NB _ rInt_ok) (fun k hk => ?_), fr⟩
  have h1 := fr.ge k hk
  have h2 := hB.lt
  have hn : k ≠ gO := by omega
  exact (heap_setCell_other _ ⟨gO, 1, none⟩ k _ (fun e => hn e)).trans (heap_setCell_other _ ⟨gO, 0, none⟩ k _ (fun e => hn e))
theorem jfin2 {w W : World} {B gR : Nat} {cs : List Value} {x : StreamD} {v v1 v2 : Value} (h : OwnS W B cs x) (hR : gR < B) (hwR : w.heap.size ≤ gR) (hb : Below w.heap.size w W) :
  RetVB (rStream NB) x v w (.returned (.tuple #[.agg cs.toArray, v])) ((W.setCell ⟨gR, 0, none⟩ v1).setCell ⟨gR, 1, none⟩ v2) := by
 obtain ⟨fp, o, f⟩ := h
 refine ⟨cs, fp, rfl, (rStream_ok NB).okeep o (fun z hz => ?_), f.mono (by omega), bset2 hb hwR _ _⟩
 have hz2 := f.ge z hz
 have hn2 : z ≠ gR := by omega
 exact (heap_setCell_other _ ⟨gR, 1, none⟩ z _ (fun e => hn2 e)).trans (heap_setCell_other _ ⟨gR, 0, none⟩ z _ (fun e => hn2 e))
end Go.Proofs.Ytceeggmfedpdkaa
