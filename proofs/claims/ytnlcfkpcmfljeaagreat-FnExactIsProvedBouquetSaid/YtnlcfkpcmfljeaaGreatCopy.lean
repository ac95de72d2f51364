/-
  Copy
-/
import Derived.Test.YtnlcfkpcmfljeaaGreatTypes
import Derived.Test.YtnlcfkpcmfljeaaGreatKeep
import Derived.Deep.RegionHeld3
import Derived.Deep.DrawnRows
set_option linter.unusedVariables false
set_option maxHeartbeats 1600000
set_option maxRecDepth 100000
namespace Go.Proofs.YtnlcfkpcmfljeaaGreat
open Go.RowKit
attribute [local go_sem ↓] Go.wp_at_zero Go.wp_at_succ
theorem iCopyInts_c (Al:Option Addr) (nl cl:Nat) (l:List Int) (w:World) (hl:RS NB rInt w Al nl cl l) :
  Calls Tryz.prog 140 #[.slice Al nl cl] w (RetS 3 rInt l w):=by
 have hn:=hl.bound
 go_enter Tryz.func140,Tryz.ntmps140
 go_wp2_with (at_builtin;refine wpList_appe (r:=rInt) (M:=NB) rfl _ _ 30 rfl _ 8 eiInt rInt_ok rInt_flat rfl (heap_alloc_new _ _) rfl (hl.below rInt_ok (bal)) hl.nb (Nat.le_refl _) (by omega) ?_;intro A1 c1 w1 o1 g1 hb1)
 have hB:Below w.heap.size w w1:=(bal).trans (hb1.mono (by simp));go_ret;exact⟨_,_,_,rfl,⟨_,o1,by cases A1<;>simp [blk],fun k hk=>by have:=g1 k hk;simp at this;omega⟩,hB⟩
end Go.Proofs.YtnlcfkpcmfljeaaGreat
