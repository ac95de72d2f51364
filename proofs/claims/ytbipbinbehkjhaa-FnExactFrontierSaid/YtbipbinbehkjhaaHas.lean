/-
  Contracts: is a number in a list (the reference's l7Has, the library's Index, Contains).
-/
import Derived.Test.YtbipbinbehkjhaaLoc
import Derived.Test.YtbipbinbehkjhaaKeep
namespace Go.Proofs.Ytbipbinbehkjhaa
open Go.RowKit
set_option linter.unusedVariables false

def hasI (l : List Int) (x : Int) : Bool := decide (x ∈ l)
theorem hasI_no {l : List Int} {x : Int} (h : l.all (fun b => !(b == x)) = true) : hasI l x = false := by
  rw [List.all_eq_true] at h
  unfold hasI; rw [decide_eq_false_iff_not]
  intro hx; have := h x hx; simp at this
theorem hasI_yes {l : List Int} {x : Int} {k : Nat} (h : l[k]? = some x) : hasI l x = true := by unfold hasI; rw [decide_eq_true_iff]; exact mem_of_at h
theorem idxOf_has (l : List Int) (x : Int) : decide (0 ≤ idxOf (fun b => b == x) l) = hasI l x := by
  unfold hasI
  rw [decide_eq_decide]
  constructor
  · intro h
    unfold idxOf at h
    cases hf : l.findIdx? (fun b => b == x) with
    | none => rw [hf] at h; simp at h
    | some i =>
      rw [List.findIdx?_eq_some_iff_getElem] at hf
      obtain ⟨hi, hb, _⟩ := hf
      have : l[i] = x := by simpa using hb
      rw [← this]; exact List.getElem_mem hi
  · intro h
    unfold idxOf
    cases hf : l.findIdx? (fun b => b == x) with
    | none => rw [List.findIdx?_eq_none_iff] at hf; have := hf x h; simp at this
    | some i => simp
end Go.Proofs.Ytbipbinbehkjhaa
