/-
  Copy
-/
import Derived.Test.YtnbikckbnbgjkaaGreatTypes
import Derived.Test.YtnbikckbnbgjkaaGreatKeep
import Derived.Deep.RegionHeld3
import Derived.Deep.DrawnRows
namespace Go.Proofs.YtnbikckbnbgjkaaGreat
open Go.RowKit
set_option linter.unusedVariables false
attribute [local go_sem ↓] Go.wp_at_zero Go.wp_at_succ

set_option maxRecDepth 100000 in
set_option maxHeartbeats 1600000 in
theorem iCopyInts_c (Al : Option Addr) (nl cl : Nat) (l : List Int) (w : World) (hl : RS NB rInt w Al nl cl l) :
  Calls Tryz.prog 106 #[.slice Al nl cl] w (RetS 3 rInt l w) := by
 have hn := hl.bound
 go_enter Tryz.func106, Tryz.ntmps106
 go_wp2_with (at_builtin; refine wpList_appe (r := rInt) (M := NB) rfl _ _ 30 rfl _ 8 eiInt rInt_ok rInt_flat rfl (heap_alloc_new _ _) rfl (hl.below rInt_ok ((Below.refl _ _).alloc (Nat.le_refl _) _)) hl.nb (Nat.le_refl _) (by omega) ?_; intro A1 c1 w1 o1 g1 hb1)
 have hB : Below w.heap.size w w1 := ((Below.refl _ _).alloc (Nat.le_refl _) _).trans (hb1.mono (by simp))
 go_ret
 exact ⟨_, _, _, rfl, ⟨_, o1, by cases A1 <;> simp [blk], fun k hk => by have := g1 k hk; simp at this; omega⟩, hB⟩

theorem box_fin {s : Nat} {w2 w3 : World} {A1 A2 : Option Addr} {n1 n2 c1 c2 : Nat} {l1 l2 : List Int} (o1 : OS NB 3 rInt w2 (blk A1) A1 n1 c1 l1) (o2 : OS NB 3 rInt w2 (blk A2) A2 n2 c2 l2)
  (d : ∀ k ∈ blk A1, k ∉ blk A2) (g1 : ∀ k ∈ blk A1, s ≤ k) (g2 : ∀ k ∈ blk A2, s ≤ k) (ho : Out s w2 w3) : (rBox NB).own w3 (blk A1 ++ blk A2) [.slice A1 n1 c1, .slice A2 n2 c2] ⟨l1, l2⟩ ∧ Fr s (blk A1 ++ blk A2) := by
 have f1 : Fr s (blk A1) := ⟨by cases A1 <;> simp [blk], g1⟩
 have f2 : Fr s (blk A2) := ⟨by cases A2 <;> simp [blk], g2⟩
 refine ⟨rBox_own.2 ⟨A1, n1, c1, A2, n2, c2, _, _, rfl, rfl, o1.out rInt_ok f1 ho, o2.out rInt_ok f2 ho⟩, ⟨List.nodup_append.2 ⟨f1.nd, f2.nd, fun a ha b hb e => d a ha (e ▸ hb)⟩, fun k hk => ?_⟩⟩
 rcases List.mem_append.1 hk with hk | hk
 ·exact g1 k hk
 ·exact g2 k hk
theorem MS.blkI {B : Nat} {w : World} {A : Option Addr} {n cap : Nat} {l : List Int} (h : MS B NB 3 rInt w A n cap l) : OS NB 3 rInt w (blk A) A n cap l ∧ ∀ k ∈ blk A, B ≤ k := by
 obtain ⟨fp, h1, h2⟩ := h
 have := (osInt.1 h1).1
 subst this
 exact ⟨h1, h2.ge⟩

end Go.Proofs.YtnbikckbnbgjkaaGreat
