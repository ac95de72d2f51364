/-
  Rdp
-/
import Derived.Test.YtbmaigkgjmkihaaGreatStrP
namespace Go.Proofs.YtbmaigkgjmkihaaGreat
open Go.RowKit
set_option linter.unusedVariables false
set_option linter.unusedSimpArgs false

/-- how many a plan covers -/
def covN (cov : Int → Int → Bool) (left : List Int) (p : Int) : Nat := (left.filter (cov p)).length
/-- one plan more is looked at -/
def bestStep (cov : Int → Int → Bool) (left : List Int) (b : Option Nat × Nat) (k : Nat) (p : Int) : Option Nat × Nat := if b.2 < covN cov left p then (some k, covN cov left p) else b
/-- the first plan (its place) that covers most, among the first n -/
def bestTo (cov : Int → Int → Bool) (left ps : List Int) : Nat → Option Nat × Nat
 | 0 => (none, 0)
 | k + 1 => match ps[k]? with | some p => bestStep cov left (bestTo cov left ps k) k p | none => bestTo cov left ps k
theorem bestTo_next {cov : Int → Int → Bool} {left ps : List Int} {k : Nat} {p : Int} (h : ps[k]? = some p) : bestTo cov left ps (k + 1) = bestStep cov left (bestTo cov left ps k) k p := by simp [bestTo, h]
theorem bestTo_ok {cov : Int → Int → Bool} {left ps : List Int} (n : Nat) : (∀ k, (bestTo cov left ps n).1 = some k → ∃ p, ps[k]? = some p ∧ covN cov left p = (bestTo cov left ps n).2 ∧ 0 < (bestTo cov left ps n).2) ∧ ((bestTo cov left ps n).1 = none → (bestTo cov left ps n).2 = 0) := by
 induction n with
 | zero => simp [bestTo]
 | succ n ih =>
  cases h : ps[n]? with
  | none => simp only [bestTo, h]; exact ih
  | some p =>
   rw [bestTo_next h]
   unfold bestStep
   split
   ·refine ⟨fun k hk => ?_, fun h => by cases h⟩
    simp only at hk ⊢
    injection hk with hk; subst hk
    exact ⟨p, h, rfl, by omega⟩
   ·exact ih
theorem covN_perm {cov : Int → Int → Bool} {l l' : List Int} (h : l.Perm l') (p : Int) : covN cov l p = covN cov l' p := (h.filter _).length_eq
theorem bestTo_perm {cov : Int → Int → Bool} {l l' ps : List Int} (h : l.Perm l') (n : Nat) : bestTo cov l ps n = bestTo cov l' ps n := by
 induction n with
 | zero => rfl
 | succ n ih =>
  cases hp : ps[n]? with
  | none => simp only [bestTo, hp]; exact ih
  | some p => rw [bestTo_next hp, bestTo_next hp]; unfold bestStep; rw [ih, covN_perm h p]
/-- the plan that is chosen -/
def bestP (cov : Int → Int → Bool) (left ps : List Int) : Option Int := match (bestTo cov left ps ps.length).1 with | some k => ps[k]? | none => none
theorem bestP_pos {cov : Int → Int → Bool} {left ps : List Int} {p : Int} (h : bestP cov left ps = some p) : ∃ x ∈ left, cov p x = true := by
 unfold bestP at h
 cases hk : (bestTo cov left ps ps.length).1 with
 | none => rw [hk] at h; cases h
 | some k =>
  rw [hk] at h
  obtain ⟨p', h1, h2, h3⟩ := (bestTo_ok (cov := cov) (left := left) (ps := ps) ps.length).1 k hk
  simp only at h
  rw [h] at h1; injection h1 with h1; subst h1
  rw [← h2] at h3
  obtain ⟨x, hx⟩ := List.exists_mem_of_length_pos h3
  rw [List.mem_filter] at hx
  exact ⟨x, hx⟩
def leftOf (cov : Int → Int → Bool) (left : List Int) (p : Int) : List Int := left.filter fun x => !cov p x
theorem leftOf_lt {cov : Int → Int → Bool} {left ps : List Int} {p : Int} (h : bestP cov left ps = some p) : (leftOf cov left p).length < left.length := by
 obtain ⟨x, h1, h2⟩ := bestP_pos h
 unfold leftOf
 rcases Nat.lt_or_ge (left.filter fun x => !cov p x).length left.length with h3 | h3
 ·exact h3
 ·exfalso
  have h4 := List.length_filter_eq_length_iff.1 (Nat.le_antisymm (List.length_filter_le _ _) h3)
  have := h4 x h1
  simp [h2] at this
def reduceF (cov : Int → Int → Bool) (ps : List Int) : Nat → List Int → List Int
 | 0, _ => []
 | f + 1, left => match bestP cov left ps with | some p => p :: reduceF cov ps f (leftOf cov left p) | none => []
theorem reduceF_more {cov : Int → Int → Bool} {ps : List Int} (f g : Nat) {left : List Int} (h1 : left.length < f) (h2 : left.length < g) : reduceF cov ps f left = reduceF cov ps g left := by
 induction f generalizing left g with
 | zero => omega
 | succ f ih =>
  cases g with
  | zero => omega
  | succ g =>
   unfold reduceF
   cases hb : bestP cov left ps with
   | none => rfl
   | some p =>
    have := leftOf_lt hb
    simp only
    rw [ih g (by omega) (by omega)]
/-- the plans chosen -/
def reduce (cov : Int → Int → Bool) (ps left : List Int) : List Int := reduceF cov ps (left.length + 1) left
theorem reduce_none {cov : Int → Int → Bool} {ps left : List Int} (h : bestP cov left ps = none) : reduce cov ps left = [] := by unfold reduce reduceF; rw [h]
theorem reduce_some {cov : Int → Int → Bool} {ps left : List Int} {p : Int} (h : bestP cov left ps = some p) : reduce cov ps left = p :: reduce cov ps (leftOf cov left p) := by
 have := leftOf_lt h
 have e : reduce cov ps left = p :: reduceF cov ps left.length (leftOf cov left p) := by unfold reduce; rw [reduceF, h]
 rw [e]; unfold reduce
 rw [reduceF_more left.length ((leftOf cov left p).length + 1) (by omega) (by omega)]
theorem bestP_nil {cov : Int → Int → Bool} {ps : List Int} : bestP cov [] ps = none := by
 cases h : bestP cov [] ps with
 | none => rfl
 | some p => obtain ⟨x, hx, _⟩ := bestP_pos h; cases hx
theorem bestP_perm {cov : Int → Int → Bool} {l l' ps : List Int} (h : l.Perm l') : bestP cov l ps = bestP cov l' ps := by unfold bestP; rw [bestTo_perm h]
theorem reduce_perm {cov : Int → Int → Bool} {ps l l' : List Int} (h : l.Perm l') : reduce cov ps l = reduce cov ps l' := by
 obtain ⟨n, hn⟩ : ∃ n, l.length ≤ n := ⟨_, Nat.le_refl _⟩
 induction n generalizing l l' with
 | zero =>
  have e : l = [] := List.eq_nil_of_length_eq_zero (by omega)
  subst e
  rw [List.nil_perm.1 h]
 | succ n ih =>
  have hb := bestP_perm (cov := cov) (ps := ps) h
  cases hp : bestP cov l ps with
  | none => rw [reduce_none hp, reduce_none (hb ▸ hp)]
  | some p =>
   have hp' : bestP cov l' ps = some p := hb ▸ hp
   rw [reduce_some hp, reduce_some hp']
   have := leftOf_lt hp
   have e := ih (l := leftOf cov l p) (l' := leftOf cov l' p) (h.filter _) (by omega)
   rw [e]
/-- each number once, in the order of coming -/
def onceI (l : List Int) : List Int := l.foldl (fun a x => if hasI a x then a else a ++ [x]) []
theorem onceI_take {l : List Int} {k : Nat} {x : Int} (h : l[k]? = some x) : onceI (l.take (k + 1)) = if hasI (onceI (l.take k)) x then onceI (l.take k) else onceI (l.take k) ++ [x] := by
 unfold onceI; rw [take_snoc h, List.foldl_append]; rfl
theorem onceI_ok (l : List Int) (k : Nat) (hk : k ≤ l.length) : (onceI (l.take k)).Nodup ∧ (∀ x, x ∈ onceI (l.take k) ↔ x ∈ l.take k) ∧ (onceI (l.take k)).length ≤ k := by
 induction k with
 | zero => simp [onceI]
 | succ k ih =>
  obtain ⟨h1, h2, h3⟩ := ih (by omega)
  have hx : l[k]? = some (l[k]'(by omega)) := List.getElem?_eq_getElem (by omega)
  rw [onceI_take hx, take_snoc hx]
  split
  ·rename_i hm
   have hm : l[k]'(by omega) ∈ onceI (l.take k) := by simpa [hasI] using hm
   refine ⟨h1, fun x => ?_, by omega⟩
   rw [h2, List.mem_append, List.mem_singleton]
   constructor
   ·exact .inl
   ·rintro (h | rfl)
    ·exact h
    ·exact (h2 _).1 hm
  ·rename_i hm
   have hm : ¬ l[k]'(by omega) ∈ onceI (l.take k) := by simpa [hasI] using hm
   refine ⟨List.nodup_append.2 ⟨h1, by simp, fun a ha b hb e => by rw [List.mem_singleton] at hb; subst hb; subst e; exact hm ha⟩, fun x => by rw [List.mem_append, List.mem_append, h2], by simp; omega⟩
theorem onceI_perm (l : List Int) : (compactI (sortI l)).Perm (onceI l) := by
 obtain ⟨h1, h2, _⟩ := onceI_ok l l.length (Nat.le_refl _)
 rw [List.take_length] at h1 h2
 have nd : (compactI (sortI l)).Nodup := (compactI_pw (sortI_pw l)).imp (fun h => by omega)
 refine (List.perm_ext_iff_of_nodup nd h1).2 fun x => ?_
 rw [compactI_mem, (sortI_perm l).mem_iff, h2]
/-- what the program hands back -/
def reducePlans (cov : Int → Int → Bool) (ps f : List Int) : List Int := reduce cov ps (onceI f)
end Go.Proofs.YtbmaigkgjmkihaaGreat
