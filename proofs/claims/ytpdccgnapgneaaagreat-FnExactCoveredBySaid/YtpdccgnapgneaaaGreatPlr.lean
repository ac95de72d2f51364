/-
  Plans: a step with a right child has a left one; no program in sight.
-/
import Derived.Test.YtpdccgnapgneaaaGreatPcp
namespace Go.Proofs.YtpdccgnapgneaaaGreat
open Go.RowKit
set_option linter.unusedVariables false
set_option linter.unusedSimpArgs false
theorem stepInfo_lr {q : QueryD} {x : PlanStepD} {l : List StepInfoD} {st : List Int} {y : StepInfoD} {k : Nat} (h : Run q.fAtoms.length l st) (hs : stepInfo q x l st = some (y, k)) : y.fLeft < 0 → y.fRight < 0 := by
  unfold stepInfo at hs
  split at hs
  · split at hs
    · injection hs with hs; injection hs with h1 h2; subst h1; subst h2
      intro _; simp
    · cases hs
  split at hs
  · cases hs
  split at hs
  · split at hs
    · injection hs with hs; injection hs with h1 h2; subst h1; subst h2
      intro _; simp
    · cases hs
  split at hs
  · rename_i hc
    simp only [Bool.and_eq_true, decide_eq_true_eq] at hc
    obtain ⟨j', e1', e2', e3'⟩ := h.top (k := 2) (by omega) (by omega)
    simp only at hs
    split at hs
    · split at hs
      · injection hs with hs; injection hs with h1 h2; subst h1; subst h2
        simp only [e1']; intro h0; omega
      · cases hs
    · split at hs
      · injection hs with hs; injection hs with h1 h2; subst h1; subst h2
        simp only [e1']; intro h0; omega
      · cases hs
  · cases hs
theorem planRun_lr {q : QueryD} (hq : validQ q = true) {p : List PlanStepD} {l : List StepInfoD} {st : List Int} (h : planRun q p = some (l, st)) : ∀ y ∈ l, y.fLeft < 0 → y.fRight < 0 := by
  induction p using snocInd generalizing l st with
  | h0 =>
    simp [planRun] at h
    obtain ⟨rfl, rfl⟩ := h
    simp
  | h1 p x ih =>
    have e : planRun q (p ++ [x]) = planStep q (planRun q p) x := by unfold planRun; rw [List.foldl_append]; rfl
    rw [e] at h
    cases hp : planRun q p with
    | none => rw [hp] at h; cases h
    | some s =>
      obtain ⟨l0, st0⟩ := s
      have i0 := ih hp
      have i1 := (planRun_ok hq hp).1
      rw [hp] at h
      simp only [planStep] at h
      cases hs : stepInfo q x l0 st0 with
      | none => rw [hs] at h; cases h
      | some s =>
        obtain ⟨y, k⟩ := s
        rw [hs] at h
        simp only at h
        injection h with h; injection h with e1 e2; subst e1; subst e2
        intro z hz
        rcases List.mem_append.1 hz with hz | hz
        · exact i0 z hz
        · simp at hz; subst hz; exact stepInfo_lr i1 hs
theorem planInfo_lr {q : QueryD} {p : PlanD} {l : List StepInfoD} (h : planInfo q p = some l) : ∀ y ∈ l, y.fLeft < 0 → y.fRight < 0 := by
  unfold planInfo at h
  split at h
  · rename_i hc
    rw [Bool.and_eq_true] at hc
    cases hr : planRun q p.fSteps with
    | none => rw [hr] at h; cases h
    | some s =>
      obtain ⟨l', st⟩ := s
      rw [hr] at h
      simp only at h
      split at h
      · injection h with h; subst h
        exact planRun_lr hc.1 hr
      · cases h
  · cases h
end Go.Proofs.YtpdccgnapgneaaaGreat
