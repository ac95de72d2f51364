/-
  The cost of a plan as plain data; no program in sight.
-/
import Derived.Test.YtpdccgnapgneaaaGreatQp
import Derived.Test.YtpdccgnapgneaaaGreatOper
import Derived.Test.YtpdccgnapgneaaaGreatMop
namespace Go.Proofs.YtpdccgnapgneaaaGreat
open Go.RowKit
set_option linter.unusedVariables false
set_option linter.unusedSimpArgs false
def isSizes (q : QueryD) (s : List Int) : Bool := validQ q && decide ((s.length : Int) = fullMask q + 1) && s.all (fun n => inR n 0 4096)
def sizeAt (s : List Int) (m : Int) : Int := (s[m.toNat]?).getD 0
def leftSize (s : List Int) (l : List StepInfoD) (y : StepInfoD) : Int := if 0 ≤ y.fLeft then sizeAt s (infoAt l y.fLeft).fMask else sizeAt s y.fMask
def rightSize (s : List Int) (l : List StepInfoD) (y : StepInfoD) : Int := if 0 ≤ y.fRight then sizeAt s (infoAt l y.fRight).fMask else 0
def stepCost (m : ModelD) (s : List Int) (l : List StepInfoD) (p : PlanStepD × StepInfoD) : Int := opCostV (opOf m p.1.fKind) (leftSize s l p.2) (rightSize s l p.2) (sizeAt s p.2.fMask)
def stepCosts (m : ModelD) (q : QueryD) (p : PlanD) (s : List Int) : List Int := match planInfo q p with
  | some l => if isSizes q s then (p.fSteps.zip l).map (stepCost m s l) else []
  | none => []
def planCost (m : ModelD) (q : QueryD) (p : PlanD) (s : List Int) : Int := if (stepCosts m q p s).length = 0 then -1 else (stepCosts m q p s).sum
theorem isSizes_parts {q : QueryD} {s : List Int} (h : isSizes q s = true) : validQ q = true ∧ s.length = 2 ^ q.fAtoms.length ∧ ∀ n ∈ s, 0 ≤ n ∧ n ≤ 4096 := by
  unfold isSizes at h
  simp only [Bool.and_eq_true, decide_eq_true_eq, List.all_eq_true] at h
  obtain ⟨⟨h1, h2⟩, h3⟩ := h
  have : 1 ≤ (2 : Nat) ^ q.fAtoms.length := Nat.one_le_two_pow
  unfold fullMask at h2
  rw [if_pos h1] at h2
  exact ⟨h1, by omega, fun n hn => inR_t.1 (h3 n hn)⟩
theorem sizeAt_at {q : QueryD} {s : List Int} (h : isSizes q s = true) {m : Int} (h0 : 0 ≤ m) (h1 : m < ((2 ^ q.fAtoms.length : Nat) : Int)) : m.toNat < s.length ∧ s[m.toNat]? = some (sizeAt s m) ∧ 0 ≤ sizeAt s m ∧ sizeAt s m ≤ 4096 := by
  obtain ⟨_, h2, h3⟩ := isSizes_parts h
  have hl : m.toNat < s.length := by omega
  have hx := List.getElem?_eq_getElem hl
  have e : sizeAt s m = s[m.toNat] := by unfold sizeAt; rw [hx]; rfl
  rw [e]
  exact ⟨hl, hx, h3 _ (List.getElem_mem hl)⟩
theorem stepCost_bd (m : ModelD) (s : List Int) (l : List StepInfoD) (p : PlanStepD × StepInfoD) : -2000000000 ≤ stepCost m s l p ∧ stepCost m s l p ≤ 2000000000 := opCostV_bd
theorem stepCosts_bd (m : ModelD) (q : QueryD) (p : PlanD) (s : List Int) : (stepCosts m q p s).length ≤ 14 ∧ ∀ x ∈ stepCosts m q p s, -2000000000 ≤ x ∧ x ≤ 2000000000 := by
  unfold stepCosts
  cases h : planInfo q p with
  | none => simp
  | some l =>
    obtain ⟨_, h1, h2, _⟩ := planInfo_parts h
    simp only
    split
    · refine ⟨by simp; omega, fun x hx => ?_⟩
      obtain ⟨y, _, rfl⟩ := List.mem_map.1 hx
      exact stepCost_bd _ _ _ _
    · simp
theorem sum_bd {l : List Int} (h : ∀ x ∈ l, -2000000000 ≤ x ∧ x ≤ 2000000000) : -2000000000 * (l.length : Int) ≤ l.sum ∧ l.sum ≤ 2000000000 * (l.length : Int) := by
  induction l with
  | nil => simp
  | cons x l ih =>
    have h1 := h x List.mem_cons_self
    have h2 := ih fun y hy => h y (List.mem_cons_of_mem _ hy)
    simp only [List.sum_cons, List.length_cons]; omega
theorem sum_snoc {l : List Int} {k : Nat} {x : Int} (h : l[k]? = some x) : (l.take (k + 1)).sum = (l.take k).sum + x := by
  rw [take_snoc h, List.sum_append]; simp
theorem sum_take_bd {l : List Int} (h : ∀ x ∈ l, -2000000000 ≤ x ∧ x ≤ 2000000000) (hl : l.length ≤ 14) (k : Nat) : -28000000000 ≤ (l.take k).sum ∧ (l.take k).sum ≤ 28000000000 := by
  have h1 := sum_bd (l := l.take k) fun x hx => h x (List.mem_of_mem_take hx)
  have h2 : (l.take k).length ≤ 14 := by simp; omega
  omega
end Go.Proofs.YtpdccgnapgneaaaGreat
