/-
  Contracts: is a location below a frontier.
-/
import Derived.Test.YtbipbinbehkjhaaSpc
import Derived.Test.YtbipbinbehkjhaaBloc
import Derived.Deep.RegionHeld3
import Derived.Deep.DrawnRows
namespace Go.Proofs.Ytbipbinbehkjhaa
open Go.RowKit
set_option linter.unusedVariables false
set_option linter.unusedSimpArgs false

theorem idxOf_any {α : Type} (p : α → Bool) (l : List α) : decide (0 ≤ idxOf p l) = l.any p := by
  unfold idxOf
  cases hf : l.findIdx? p with
  | none =>
    rw [List.findIdx?_eq_none_iff] at hf
    have : l.any p = false := by rw [List.any_eq_false]; intro x hx; simpa using hf x hx
    rw [this]; rfl
  | some i =>
    rw [List.findIdx?_eq_some_iff_getElem] at hf
    obtain ⟨hi, hb, _⟩ := hf
    have : l.any p = true := by rw [List.any_eq_true]; exact ⟨l[i], List.getElem_mem hi, hb⟩
    rw [this]; simp

def belowAt (x : SpaceD) (l : List Int) (k : Int) : Bool := (boxLoc x.fBox k).2 && dom (boxLoc x.fBox k).1 l
def belowFrontier (x : SpaceD) (f l : List Int) : Bool := validSpace x && f.any (belowAt x l)
end Go.Proofs.Ytbipbinbehkjhaa
