/-
  Smp
-/
import Derived.Test.YtnbikckbnbgjkaaGreatVbp
import Derived.Test.YtnbikckbnbgjkaaGreatPco
import Derived.Test.YtnbikckbnbgjkaaGreatAdm
import Derived.Test.YtnbikckbnbgjkaaGreatBox
import Derived.Test.YtnbikckbnbgjkaaGreatSlk
namespace Go.Proofs.YtnbikckbnbgjkaaGreat
open Go.RowKit
set_option linter.unusedVariables false
set_option linter.unusedSimpArgs false
/-- one contour: the plans l in order, each within the slack s -/
def simRow (f : Int → Int) (s : Int) : List Int → Int → Int × Bool
 | [], n => (n, false)
 | p :: l, n => if f p ≤ s then (n + f p, true) else simRow f s l (n + s)
def simAll (f g : Int → Int) : List (Int × List Int) → Int → Int × Bool
 | [], _ => (0, false)
 | x :: r, n => if (simRow f (g x.1) x.2 n).2 then simRow f (g x.1) x.2 n else simAll f g r (simRow f (g x.1) x.2 n).1
def costAt (m : ModelD) (q : QueryD) (ps : List PlanD) (l : List Int) (k : Int) : Int := match ps[k.toNat]? with
 | some p => planCostAt m q p l
 | none => 0
def simB (m : ModelD) (q : QueryD) (b : BouquetD) (l : List Int) : Int × Bool := simAll (costAt m q b.fPlans l) (fun x => slackOf x b.fSlack) (b.fBudgets.zip b.fContours) 0
def simulateB (m : ModelD) (q : QueryD) (b : BouquetD) (l : List Int) : Int × Bool := if admitted m && (validBouquet q b && inBox b.fBox l) then simB m q b l else (0, false)
theorem dropAt {α : Type} {l : List α} {k : Nat} {x : α} (h : l[k]? = some x) : l.drop k = x :: l.drop (k + 1) := by
 obtain ⟨hk, rfl⟩ := List.getElem?_eq_some_iff.1 h
 exact List.drop_eq_getElem_cons hk
theorem simRow_yes {f : Int → Int} {s n p : Int} {l : List Int} {i : Nat} (h : l[i]? = some p) (hp : f p ≤ s) : simRow f s (l.drop i) n = (n + f p, true) := by
 rw [dropAt h, simRow, if_pos hp]
theorem simRow_no {f : Int → Int} {s n p : Int} {l : List Int} {i : Nat} (h : l[i]? = some p) (hp : ¬ f p ≤ s) : simRow f s (l.drop i) n = simRow f s (l.drop (i + 1)) (n + s) := by
 rw [dropAt h, simRow, if_neg hp]
theorem simRow_end {f : Int → Int} {s n : Int} {l : List Int} {i : Nat} (h : l.length ≤ i) : simRow f s (l.drop i) n = (n, false) := by
 rw [List.drop_of_length_le h]; rfl
theorem simAll_row {f g : Int → Int} {n x : Int} {l : List Int} {z : List (Int × List Int)} {k : Nat} (h : z[k]? = some (x, l)) : simAll f g (z.drop k) n = if (simRow f (g x) l n).2 then simRow f (g x) l n else simAll f g (z.drop (k + 1)) (simRow f (g x) l n).1 := by
 rw [dropAt h]; rfl
theorem simAll_yes {f g : Int → Int} {n x v : Int} {l : List Int} {z : List (Int × List Int)} {k : Nat} (h : z[k]? = some (x, l)) (hr : simRow f (g x) l n = (v, true)) : simAll f g (z.drop k) n = (v, true) := by
 rw [simAll_row h, hr]; rfl
theorem simAll_no {f g : Int → Int} {n x v : Int} {l : List Int} {z : List (Int × List Int)} {k : Nat} (h : z[k]? = some (x, l)) (hr : simRow f (g x) l n = (v, false)) : simAll f g (z.drop k) n = simAll f g (z.drop (k + 1)) v := by
 rw [simAll_row h, hr]; rfl
theorem simAll_end {f g : Int → Int} {n : Int} {z : List (Int × List Int)} {k : Nat} (h : z.length ≤ k) : simAll f g (z.drop k) n = (0, false) := by
 rw [List.drop_of_length_le h]; rfl
theorem simRow_pos {f : Int → Int} {s : Int} {l : List Int} (hs : 0 ≤ s) (hf : ∀ p ∈ l, 0 ≤ f p) (n : Int) (hn : 0 ≤ n) : 0 ≤ (simRow f s l n).1 := by
 induction l generalizing n with
 | nil => exact hn
 | cons p l ih =>
  rw [simRow]
  split
  ·have := hf p List.mem_cons_self; show 0 ≤ n + f p; omega
  ·exact ih (fun x hx => hf x (List.mem_cons_of_mem _ hx)) _ (by omega)
theorem simAll_pos {f g : Int → Int} {z : List (Int × List Int)} (hz : ∀ x ∈ z, 0 ≤ g x.1 ∧ ∀ p ∈ x.2, 0 ≤ f p) (n : Int) (hn : 0 ≤ n) : 0 ≤ (simAll f g z n).1 := by
 induction z generalizing n with
 | nil => exact Int.le_refl 0
 | cons x z ih =>
  have h := hz x List.mem_cons_self
  have hr := simRow_pos h.1 h.2 n hn
  rw [simAll]
  split
  ·exact hr
  ·exact ih (fun y hy => hz y (List.mem_cons_of_mem _ hy)) _ hr
theorem simAll_none {f g : Int → Int} {z : List (Int × List Int)} (n : Int) (h : (simAll f g z n).2 = false) : simAll f g z n = (0, false) := by
 induction z generalizing n with
 | nil => rfl
 | cons x z ih =>
  rw [simAll] at h ⊢
  split
  ·rename_i h2; rw [if_pos h2] at h; rw [h] at h2; cases h2
  ·rename_i h2; rw [if_neg h2] at h; exact ih _ h
def sumLen (c : List (List Int)) : Nat := (c.map List.length).sum
theorem sumLen_snoc {c : List (List Int)} {k : Nat} {l : List Int} (h : c[k]? = some l) : sumLen (c.take (k + 1)) = sumLen (c.take k) + l.length := by
 unfold sumLen; rw [take_snoc h, List.map_append, List.sum_append]; simp
theorem sumLen_take (c : List (List Int)) (k : Nat) : sumLen (c.take k) ≤ sumLen c := by
 have h : sumLen c = sumLen (c.take k) + sumLen (c.drop k) := by
  unfold sumLen; rw [← List.sum_append, ← List.map_append, List.take_append_drop]
 omega
/-- the parts of a valid bouquet that the run needs -/
theorem vbq_parts {q : QueryD} {b : BouquetD} (h : validBouquet q b = true) : validQ q = true ∧ bqHead q b = true ∧ (∀ p ∈ b.fPlans, planFull q p = true) ∧ (∀ (k : Nat) (y : Int), b.fBudgets[k]? = some y → 1 ≤ y ∧ y ≤ 500000000000) ∧ (∀ l ∈ b.fContours, ∀ p ∈ l, 0 ≤ p ∧ p < (b.fPlans.length : Int)) ∧ b.fContours.length = b.fBudgets.length := by
 unfold validBouquet at h
 simp only [Bool.and_eq_true, decide_eq_true_eq] at h
 obtain ⟨⟨⟨⟨⟨⟨h1, h2⟩, h3⟩, h4⟩, h5⟩, h6⟩, h7⟩ := h
 refine ⟨h1, h2, List.all_eq_true.1 h3, fun k y hy => budOk_at h4 (lt_of_at hy) hy, fun l hl p hp => ?_, h7⟩
 have h8 := List.all_eq_true.1 h5 l hl
 unfold conOk at h8
 simp only [Bool.and_eq_true, List.all_eq_true, List.mem_range] at h8
 obtain ⟨i, hi⟩ := List.getElem?_of_mem hp
 have h9 := h8.2 i (lt_of_at hi)
 simp only [varOk, hi, Bool.and_eq_true] at h9
 have := inR_t.1 h9.1
 omega
theorem slack_bd {x s : Int} (h1 : 1 ≤ x ∧ x ≤ 500000000000) (h2 : 0 ≤ s ∧ s ≤ 100) : 0 ≤ slackOf x s ∧ slackOf x s ≤ 1000000000000 := by
 have e1 : inR x 0 1000000000000 = true := inR_t.2 ⟨by omega, by omega⟩
 have e2 : inR s 0 100 = true := inR_t.2 h2
 have h := slack_rng e1 e2
 have h3 : x * (100 + s) ≤ 500000000000 * 200 := Int.mul_le_mul h1.2 (by omega) (by omega) (by omega)
 unfold slackOf; rw [e1, e2]; simp only [Bool.and_self, if_true]
 omega
theorem cls_all {s : Int} (h : ∃ c, 0 ≤ c ∧ c ≤ 7 ∧ s = clsSize c) : ∃ c : Nat, c < 8 ∧ s = clsSize (c : Int) := by
 obtain ⟨c, h0, h1, rfl⟩ := h
 exact ⟨c.toNat, by omega, by rw [show ((c.toNat : Nat) : Int) = c by omega]⟩
/-- an admitted model's operators cost at least one at classes -/
theorem op_pos {m : ModelD} (h : admitted m = true) (k : Int) {a b c : Int} (ha : ∃ x, 0 ≤ x ∧ x ≤ 7 ∧ a = clsSize x) (hb : ∃ x, 0 ≤ x ∧ x ≤ 7 ∧ b = clsSize x) (hc : ∃ x, 0 ≤ x ∧ x ≤ 7 ∧ c = clsSize x) : 1 ≤ opCostV (opOf m k) a b c := by
 have ho : opOf m k ∈ modelOps m := by
  unfold opOf modelOps; repeat' split
  all_goals simp
 have hok : opOk (opOf m k) = true := List.all_eq_true.1 h _ ho
 generalize opOf m k = o at hok
 simp only [opOk, Bool.and_eq_true, Bool.not_eq_true'] at hok
 obtain ⟨⟨hv, _⟩, hch⟩ := hok
 obtain ⟨i, hi, rfl⟩ := cls_all ha
 obtain ⟨j, hj, rfl⟩ := cls_all hb
 obtain ⟨t, ht, rfl⟩ := cls_all hc
 have q1 := clsSize_bd (k := (i : Int)) (by omega) (by omega)
 have q2 := clsSize_bd (k := (j : Int)) (by omega) (by omega)
 have q3 := clsSize_bd (k := (t : Int)) (by omega) (by omega)
 unfold opCostV
 rw [hv, inR_t.2 q1, inR_t.2 q2, inR_t.2 q3]
 simp only [Bool.and_self, if_true]
 unfold hasCheap at hch
 simp only [Bool.not_eq_false'] at hch
 have := List.all_eq_true.1 hch (64 * i + 8 * j + t) (List.mem_range.2 (by omega))
 rw [trip_eq hj ht] at this
 have h2 : ¬ opCost o (clsSize (i : Int)) (clsSize (j : Int)) (clsSize (t : Int)) < 1 := by
  intro h3
  have h4 : cheapT o [(i : Int), (j : Int), (t : Int)] = true := by unfold cheapT costL; exact decide_eq_true h3
  rw [h4] at this; cases this
 exact Int.not_lt.1 h2
theorem isSizes_loc {q : QueryD} {l : List Int} (hq : validQ q = true) (hl : isLoc l = true) (hn : (l.length : Int) = fullMask q + 1) : isSizes q (locSizes l) = true := by
 unfold isSizes locSizes
 rw [hq, hl, if_pos rfl]
 simp only [Bool.true_and, Bool.and_eq_true, decide_eq_true_eq, List.length_map, List.all_eq_true]
 refine ⟨hn, fun n hx => ?_⟩
 obtain ⟨c, hc, rfl⟩ := List.mem_map.1 hx
 have h := (isLoc_at hl).2
 unfold isLoc at hl
 simp only [Bool.and_eq_true, List.all_eq_true] at hl
 have := inR_t.1 (hl.1 c hc)
 exact inR_t.2 (clsSize_bd this.1 this.2)
theorem sizeAt_cls {q : QueryD} {l : List Int} (hq : validQ q = true) (hl : isLoc l = true) (hn : (l.length : Int) = fullMask q + 1) {m : Int} (h0 : 0 ≤ m) (h1 : m < ((2 ^ q.fAtoms.length : Nat) : Int)) : ∃ x, 0 ≤ x ∧ x ≤ 7 ∧ sizeAt (locSizes l) m = clsSize x := by
 have hz := isSizes_loc hq hl hn
 obtain ⟨g1, g2, _, _⟩ := sizeAt_at hz h0 h1
 have hL : locSizes l = l.map clsSize := by simp [locSizes, hl]
 rw [hL, List.getElem?_map] at g2
 rw [hL] at g1 ⊢
 cases hx : l[m.toNat]? with
 | none => rw [hx] at g2; cases g2
 | some c =>
  rw [hx] at g2
  simp only [Option.map_some, Option.some.injEq] at g2
  unfold isLoc at hl
  simp only [Bool.and_eq_true, List.all_eq_true] at hl
  have := inR_t.1 (hl.1 c (mem_of_at hx))
  exact ⟨c, this.1, this.2, g2.symm⟩
theorem sumGe1 {l : List Int} (h : ∀ x ∈ l, 1 ≤ x) : (l.length : Int) ≤ l.sum := by
 induction l with
 | nil => simp
 | cons x l ih =>
  have h1 := h x List.mem_cons_self
  have h2 := ih fun y hy => h y (List.mem_cons_of_mem _ hy)
  simp only [List.sum_cons, List.length_cons]; omega
/-- the cost of a full plan at a location of the box is at least one -/
theorem cost_pos {m : ModelD} {q : QueryD} {p : PlanD} {l : List Int} (hm : admitted m = true) (hq : validQ q = true) (hp : planFull q p = true) (hl : isLoc l = true) (hn : (l.length : Int) = fullMask q + 1) : 1 ≤ planCostAt m q p l := by
 have hz := isSizes_loc hq hl hn
 have hf : fullMask q ≠ 0 := fun h => by have := fullMask_pos.1 h; rw [hq] at this; cases this
 have hpf : planMask q p = fullMask q := by simpa [planFull] using hp
 cases hi : planInfo q p with
 | none => unfold planMask at hpf; rw [hi] at hpf; exact absurd hpf.symm hf
 | some L =>
  obtain ⟨_, h1, h2, st, hR, hlen, _⟩ := planInfo_parts hi
  have hlr := planInfo_lr hi
  unfold planCostAt planCost
  rw [stepCosts_ok hi hz]
  have hne : ((p.fSteps.zip L).map (stepCost m (locSizes l) L)).length ≠ 0 := by rw [List.length_map, List.length_zip]; omega
  rw [if_neg hne]
  have hge := sumGe1 (l := (p.fSteps.zip L).map (stepCost m (locSizes l) L)) (fun x hx => by
   obtain ⟨y, hy, rfl⟩ := List.mem_map.1 hx
   obtain ⟨ps, y⟩ := y
   have hyL : y ∈ L := (List.of_mem_zip hy).2
   obtain ⟨i, hiL⟩ := List.getElem?_of_mem hyL
   have hk := hR.kids i y hiL
   have hmk := hR.mask y hyL
   have c0 : ∃ x, 0 ≤ x ∧ x ≤ 7 ∧ (0 : Int) = clsSize x := ⟨0, by omega, by omega, rfl⟩
   have cs : ∀ y ∈ L, ∃ x, 0 ≤ x ∧ x ≤ 7 ∧ sizeAt (locSizes l) y.fMask = clsSize x := fun y hy => sizeAt_cls hq hl hn (by have := (hR.mask y hy).1; omega) (hR.mask y hy).2
   have ck : ∀ j : Int, 0 ≤ j → j < (i : Int) → ∃ x, 0 ≤ x ∧ x ≤ 7 ∧ sizeAt (locSizes l) (infoAt L j).fMask = clsSize x := fun j h0 h1 => by
    have hj : j.toNat < L.length := by have := lt_of_at hiL; omega
    have e : infoAt L j = L[j.toNat] := by unfold infoAt; rw [List.getElem?_eq_getElem hj]; rfl
    rw [e]; exact cs _ (List.getElem_mem hj)
   show 1 ≤ opCostV (opOf m ps.fKind) (leftSize (locSizes l) L y) (rightSize (locSizes l) L y) (sizeAt (locSizes l) y.fMask)
   refine op_pos hm _ ?_ ?_ (cs y hyL)
   ·unfold leftSize
    split
    ·rename_i h0; exact ck _ h0 hk.1.2
    ·exact cs y hyL
   ·unfold rightSize
    split
    ·rename_i h0; exact ck _ h0 hk.2.2
    ·exact c0)
  have : (1 : Int) ≤ (((p.fSteps.zip L).map (stepCost m (locSizes l) L)).length : Int) := by omega
  omega
theorem inBox_loc {x : BoxD} {l : List Int} (h : inBox x l = true) : isLoc l = true ∧ l.length = x.fLow.length := by
 unfold inBox dom at h
 simp only [Bool.and_eq_true, decide_eq_true_eq, List.all_eq_true] at h
 obtain ⟨hv, ⟨h1, h2⟩, h3, h4⟩ := h
 obtain ⟨v1, v2, v3, v4, _⟩ := validBox_parts hv
 have w1 := v1
 have w2 := v2
 unfold isLoc at w1 w2
 simp only [Bool.and_eq_true, List.all_eq_true, decide_eq_true_eq] at w1 w2
 refine ⟨?_, h1⟩
 unfold isLoc
 simp only [Bool.and_eq_true, List.all_eq_true, decide_eq_true_eq]
 refine ⟨fun c hc => ?_, by omega⟩
 obtain ⟨k, hk⟩ := List.getElem?_of_mem hc
 have hkl := lt_of_at hk
 have a1 := List.getElem?_eq_getElem (l := x.fLow) (i := k) (by omega)
 have a2 := List.getElem?_eq_getElem (l := x.fHigh) (i := k) (by omega)
 have b1 := h2 (c, _) (mem_of_at (List.getElem?_zip_eq_some.2 ⟨hk, a1⟩))
 have b2 := h4 (_, c) (mem_of_at (List.getElem?_zip_eq_some.2 ⟨a2, hk⟩))
 have c1 := inR_t.1 (w1.1 _ (mem_of_at a1))
 have c2 := inR_t.1 (w2.1 _ (mem_of_at a2))
 simp only at b1 b2
 exact inR_t.2 ⟨by omega, by omega⟩
/-- the reference's number: -1 where no plan ends -/
def simT (m : ModelD) (q : QueryD) (b : BouquetD) (l : List Int) : Int := if (simB m q b l).2 then (simB m q b l).1 else -1
theorem simT_yes {m : ModelD} {q : QueryD} {b : BouquetD} {l : List Int} {v : Int} (h : simB m q b l = (v, true)) : simT m q b l = v := by unfold simT; rw [h]; rfl
theorem simT_no {m : ModelD} {q : QueryD} {b : BouquetD} {l : List Int} {v : Int} (h : simB m q b l = (v, false)) : simT m q b l = -1 := by unfold simT; rw [h]; rfl
/-- what the run returns is no negative number -/
theorem simB_pos {m : ModelD} {q : QueryD} {b : BouquetD} {l : List Int} (hm : admitted m = true) (hb : validBouquet q b = true) (hi : inBox b.fBox l = true) : 0 ≤ (simB m q b l).1 := by
 obtain ⟨hq, hh, hpl, hbu, hco, _⟩ := vbq_parts hb
 obtain ⟨_, hs, _, hlen⟩ := bqHead_parts hh
 obtain ⟨hl, hn⟩ := inBox_loc hi
 refine simAll_pos (fun x hx => ?_) 0 (Int.le_refl 0)
 obtain ⟨x, c⟩ := x
 obtain ⟨h1, h2⟩ := List.of_mem_zip hx
 obtain ⟨k, hk⟩ := List.getElem?_of_mem h1
 refine ⟨(slack_bd (hbu k x hk) hs).1, fun p hp => ?_⟩
 have hpp := hco c h2 p hp
 have hpk : p.toNat < b.fPlans.length := by omega
 unfold costAt
 rw [List.getElem?_eq_getElem hpk]
 have := cost_pos (p := b.fPlans[p.toNat]) (l := l) hm hq (hpl _ (List.getElem_mem hpk)) hl (by rw [hn]; exact hlen)
 show (0 : Int) ≤ planCostAt m q b.fPlans[p.toNat] l
 omega
end Go.Proofs.YtnbikckbnbgjkaaGreat
