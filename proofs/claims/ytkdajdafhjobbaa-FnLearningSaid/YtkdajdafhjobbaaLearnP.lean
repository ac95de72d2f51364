/-
  LearnP
-/
import Derived.Test.YtkdajdafhjobbaaLearn
import Derived.Test.YtkdajdafhjobbaaBox
import Derived.Test.YtkdajdafhjobbaaObs
namespace Go.Proofs.Ytkdajdafhjobbaa
open Go.RowKit
set_option linter.unusedVariables false

theorem dom_mk {a b : List Int} (hl : a.length = b.length) (h : ∀ (k : Nat) (x y : Int), a[k]? = some x → b[k]? = some y → y ≤ x) : dom a b = true := by
 unfold dom
 simp only [Bool.and_eq_true, decide_eq_true_eq, List.all_eq_true]
 refine ⟨hl, fun p hp => ?_⟩
 obtain ⟨k, hk, rfl⟩ := List.getElem_of_mem hp
 have hk' := hk
 rw [List.length_zip] at hk'
 rw [List.getElem_zip]
 exact h k _ _ (List.getElem?_eq_getElem (by omega)) (List.getElem?_eq_getElem (by omega))
theorem dom_rf (a : List Int) : dom a a = true := dom_mk rfl fun k x y h1 h2 => by rw [h1] at h2; injection h2 with h2; omega
theorem dom_tr {a b c : List Int} (h1 : dom a b = true) (h2 : dom b c = true) : dom a c = true := by
 obtain ⟨l1, g1⟩ := dom_at h1
 obtain ⟨l2, g2⟩ := dom_at h2
 refine dom_mk (l1.trans l2) fun k x y hx hy => ?_
 have hk := lt_of_at hx
 have hb : b[k]? = some (b[k]'(by omega)) := List.getElem?_eq_getElem (by omega)
 have := g1 k _ _ hx hb
 have := g2 k _ _ hb hy
 omega
theorem dom_set {a : List Int} (k : Nat) {c : Int} (h : ∀ x, a[k]? = some x → x ≤ c) : dom (a.set k c) a = true := by
 refine dom_mk (by simp) fun j x y hx hy => ?_
 rw [List.getElem?_set] at hx
 split at hx
 ·subst_vars
  split at hx
  ·injection hx with hx; have := h y hy; omega
  ·cases hx
 ·rw [hx] at hy; injection hy with hy; omega
theorem dom_set' {a : List Int} (k : Nat) {c : Int} (h : ∀ x, a[k]? = some x → c ≤ x) : dom a (a.set k c) = true := by
 refine dom_mk (by simp) fun j x y hx hy => ?_
 rw [List.getElem?_set] at hy
 split at hy
 ·subst_vars
  split at hy
  ·injection hy with hy; have := h x hx; omega
  ·cases hy
 ·rw [hx] at hy; injection hy with hy; omega
theorem applyObs_valid {b : BoxD} {x : ObservationD} (hv : validBox b = true) : validBox (applyObs b x).1 = true ∧ dom (applyObs b x).1.fLow b.fLow = true ∧ dom b.fHigh (applyObs b x).1.fHigh = true := by
 unfold applyObs
 split
 ·split
  ·refine ⟨by assumption, dom_set _ fun y hy => ?_, ?_⟩
   ·rw [hy]; simp; omega
   ·unfold narrow
    simp only
    split
    ·exact dom_set' _ fun y hy => by rw [hy]; simp; omega
    ·exact dom_rf _
  ·exact ⟨hv, dom_rf _, dom_rf _⟩
 ·exact ⟨hv, dom_rf _, dom_rf _⟩
theorem learnF_ok (l : List ObservationD) {b : BoxD} (n : Nat) (hv : validBox b = true) : validBox (l.foldl learnStep (b, n)).1 = true ∧ dom (l.foldl learnStep (b, n)).1.fLow b.fLow = true ∧ dom b.fHigh (l.foldl learnStep (b, n)).1.fHigh = true := by
 induction l generalizing b n with
 | nil => exact ⟨hv, dom_rf _, dom_rf _⟩
 | cons x l ih =>
  obtain ⟨h1, h2, h3⟩ := applyObs_valid (x := x) hv
  rw [List.foldl_cons]
  obtain ⟨g1, g2, g3⟩ := ih (b := (applyObs b x).1) (n + if (applyObs b x).2 then 1 else 0) h1
  exact ⟨g1, dom_tr g2 h2, dom_tr h3 g3⟩
theorem learnAll_ok (l : List ObservationD) {b : BoxD} (hv : validBox b = true) : validBox (learnAll b l).1 = true ∧ dom (learnAll b l).1.fLow b.fLow = true ∧ dom b.fHigh (learnAll b l).1.fHigh = true := learnF_ok l 0 hv
theorem inBox_mk {x : BoxD} {l : List Int} (h1 : validBox x = true) (h2 : dom l x.fLow = true) (h3 : dom x.fHigh l = true) : inBox x l = true := by simp [inBox, h1, h2, h3]
theorem applyObs_in {b : BoxD} {x : ObservationD} {l : List Int} (h : (applyObs b x).2 = true) (hb : inBox b l = true) (ho : obsHolds x l = true) : inBox (applyObs b x).1 l = true := by
 unfold applyObs at h ⊢
 split
 ·rename_i h1
  rw [if_pos h1] at h
  split
  ·rename_i h2
   unfold inBox at hb
   simp only [Bool.and_eq_true] at hb
   obtain ⟨_, hd1, hd2⟩ := hb
   obtain ⟨l1, g1⟩ := dom_at hd1
   obtain ⟨l2, g2⟩ := dom_at hd2
   simp only [Bool.and_eq_true] at h1
   have hm := inR_t.1 h1.2
   have hml : x.fMask.toNat < l.length := by omega
   have hx : l[x.fMask.toNat]? = some (l[x.fMask.toNat]'hml) := List.getElem?_eq_getElem hml
   have hq : (x.fExact = true → l[x.fMask.toNat]'hml = x.fClass) ∧ x.fClass ≤ l[x.fMask.toNat]'hml := by
    have hgd := getD_at hx
    unfold obsHolds at ho
    rw [hgd] at ho
    revert ho
    cases x.fExact <;> simp <;> omega
   refine inBox_mk h2 (dom_mk (by simp [narrow]; omega) fun k p q hp hq' => ?_) (dom_mk ?_ fun k p q hp hq' => ?_)
   ·simp only [narrow] at hq'
    rw [List.getElem?_set] at hq'
    split at hq'
    ·rename_i hk; subst hk
     split at hq'
     ·injection hq' with hq'
      have hlow : b.fLow[x.fMask.toNat]? = some (b.fLow[x.fMask.toNat]'(by omega)) := List.getElem?_eq_getElem (by omega)
      rw [hlow] at hq'
      simp only [Option.getD_some] at hq'
      have := g1 _ _ _ hp hlow
      rw [hx] at hp; injection hp with hp
      have := hq.2
      omega
     ·cases hq'
    ·exact g1 _ _ _ hp hq'
   ·unfold narrow; split <;> simp <;> omega
   ·simp only [narrow] at hp
    split at hp
    ·rename_i hex
     rw [List.getElem?_set] at hp
     split at hp
     ·rename_i hk; subst hk
      split at hp
      ·injection hp with hp
       have hh : b.fHigh[x.fMask.toNat]? = some (b.fHigh[x.fMask.toNat]'(by omega)) := List.getElem?_eq_getElem (by omega)
       rw [hh] at hp
       simp only [Option.getD_some] at hp
       have := g2 _ _ _ hh hq'
       rw [hx] at hq'; injection hq' with hq'
       have := hq.1 hex
       omega
      ·cases hp
     ·exact g2 _ _ _ hp hq'
    ·exact g2 _ _ _ hp hq'
  ·rename_i h2; rw [if_neg h2] at h; cases h
 ·rename_i h1; rw [if_neg h1] at h; cases h
end Go.Proofs.Ytkdajdafhjobbaa
