/-
  Copy
-/
import Derived.Test.YtjckbnmbhgikjaaTypes
import Derived.Test.YtjckbnmbhgikjaaKeep
import Derived.Deep.RegionHeld3
import Derived.Deep.DrawnRows
namespace Go.Proofs.Ytjckbnmbhgikjaa
open Go.RowKit
set_option linter.unusedVariables false
attribute [local go_sem ↓] Go.wp_at_zero Go.wp_at_succ

set_option maxRecDepth 100000 in
set_option maxHeartbeats 1600000 in
theorem iCopyInts_c (Al:Option Addr) (nl cl:Nat) (l:List Int) (w:World) (hl:RS NB rInt w Al nl cl l) :
  Calls Try.prog 66 #[.slice Al nl cl] w (RetS 3 rInt l w):=by
 have hn:=hl.bound
 go_enter Try.func66,Try.ntmps66
 go_wp2_with (at_builtin;refine wpList_appe (r:=rInt) (M:=NB) rfl _ _ 51 rfl _ 8 eiInt rInt_ok rInt_flat rfl (heap_alloc_new _ _) rfl (hl.below rInt_ok ((Below.refl _ _).alloc (Nat.le_refl _) _)) hl.nb (Nat.le_refl _) (by omega) ?_;intro A1 c1 w1 o1 g1 hb1)
 have hB:Below w.heap.size w w1:=((Below.refl _ _).alloc (Nat.le_refl _) _).trans (hb1.mono (by simp))
 go_ret
 exact⟨_,_,_,rfl,⟨_,o1,by cases A1<;>simp [blk],fun k hk=>by have:=g1 k hk;simp at this;omega⟩,hB⟩

theorem MS.blkI {B:Nat}{w:World}{A:Option Addr}{n cap:Nat}{l:List Int}(h:MS B NB 3 rInt w A n cap l):OS NB 3 rInt w (blk A) A n cap l/\∀ k∈blk A,B<=k:=by
 obtain⟨fp,h1,h2⟩:=h
 have:=(osInt.1 h1).1
 subst this
 exact⟨h1,h2.ge⟩

end Go.Proofs.Ytjckbnmbhgikjaa
