/-
  Text
-/
import Derived.Test.YtnbikckbnbgjkaaDoorKeep
namespace Go.Proofs.YtnbikckbnbgjkaaDoor
open Go.RowKit
set_option linter.unusedVariables false
set_option linter.unusedSimpArgs false

def digB (k : Nat) : UInt8 := UInt8.ofNat (48 + k % 10)
/-- the digits of k, ahead of out -/
def digF : Nat → Nat → ByteArray → ByteArray
 | 0, _, out => out
 | f + 1, k, out => if k = 0 then out else digF f (k / 10) (⟨#[digB k]⟩ ++ out)
theorem digF_le (f k : Nat) (out : ByteArray) : (digF f k out).size ≤ out.size + f := by
 induction f generalizing k out with
 | zero => exact Nat.le_refl _
 | succ f ih =>
  rw [digF]
  split
  ·omega
  ·refine Nat.le_trans (ih _ _) ?_
   rw [ByteArray.size_append]
   show 1 + out.size + f ≤ _
   omega
theorem digF_zero (f : Nat) (out : ByteArray) : digF f 0 out = out := by cases f <;> rfl
theorem digF_step {f k : Nat} {out : ByteArray} (h : k ≠ 0) : digF (f + 1) k out = digF f (k / 10) (⟨#[digB k]⟩ ++ out) := by
 rw [digF, if_neg h]
def mtext (k : Int) : ByteArray := if k ≤ 0 then ⟨#[109, 48]⟩ else ⟨#[109]⟩ ++ digF 19 k.toNat ⟨#[]⟩
theorem mtext_le (k : Int) : (mtext k).size ≤ NB := by
 unfold mtext NB
 split
 ·show 2 ≤ _; omega
 ·have := digF_le 19 k.toNat ⟨#[]⟩
  rw [ByteArray.size_append]
  have e : (⟨#[]⟩ : ByteArray).size = 0 := rfl
  have e1 : (⟨#[109]⟩ : ByteArray).size = 1 := rfl
  omega
end Go.Proofs.YtnbikckbnbgjkaaDoor
