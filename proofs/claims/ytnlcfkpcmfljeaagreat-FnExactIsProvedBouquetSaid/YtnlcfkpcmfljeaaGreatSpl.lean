/-
  Spl
-/
import Derived.Test.YtnlcfkpcmfljeaaGreatSpace
import Derived.Test.YtnlcfkpcmfljeaaGreatTo
import Derived.Test.YtnlcfkpcmfljeaaGreatOper
import Derived.Deep.RegionHeld3
import Derived.Deep.DrawnRows
set_option linter.unusedSimpArgs false
set_option linter.unusedVariables false
set_option maxHeartbeats 1600000
set_option maxRecDepth 100000
namespace Go.Proofs.YtnlcfkpcmfljeaaGreat
open Go.RowKit
attribute [local go_sem ↓] Go.wp_at_zero Go.wp_at_succ
theorem rPlanStep_flat (M:Nat):(rPlanStep M).Flat:=rIso_flat (rPair_flat rInt_flat (rPair_flat rInt_flat rInt_flat)) _
theorem iCopyPlan_c (csx:List Value) (x:PlanD) (w:World) (hx:(rPlan NB).rep w csx x) :
  Calls Tryz.prog 95 #[.agg csx.toArray] w (RetV (rPlan NB) x w):=by
 have rx:=hx;obtain⟨Ax_d5,nx_d5,cx_d5,rfl,hx_d5⟩:=rPlan_rep.1 hx;clear hx;obtain⟨hB,bxx⟩:=op1 w [.slice Ax_d5 nx_d5 cx_d5] 76;have hn:=hx_d5.bound;obtain⟨wa,hwa⟩:∃ wa,wa=w.alloc (.cells #[.slice Ax_d5 nx_d5 cx_d5] 76):=⟨_,rfl⟩;rw [<- hwa]at hB bxx;have hsa:wa.heap.size=w.heap.size+1:=by rw [hwa];simp
 have bkR:=Bk.new wa [.slice none 0 0] 76;have hBA:=(Below.refl wa.heap.size wa).alloc (Nat.le_refl _) (.cells #[.slice none 0 0] 76);replace hB:=hB.trans (hBA.mono hB.size);replace bxx:=bxx.below hBA;obtain⟨wb,hwb⟩:∃ wb,wb=wa.alloc (.cells #[.slice none 0 0] 76):=⟨_,rfl⟩;have hwb':=hwb.symm;replace bkR:Bk wb wa.heap.size 76 [.slice none 0 0]:=by rw [hwb];exact bkR
 rw [hwb']at hB bxx;have hsb:wb.heap.size=w.heap.size+1+1:=by rw [hwb];simp [hsa]
 rw [hsa]at bkR;clear hBA
 go_enter Tryz.func95,Tryz.ntmps95
 go_upto_region 1 with fail
 rw [<- hwa,hwb'];clear hwa hwb hwb';have hBc:=(Below.refl wb.heap.size wb).alloc (Nat.le_refl _) (.cells #[] 173);have hBx:=hB.trans (hBc.mono hB.size);have kx:=bxx.below hBc 0 _ rfl;have kx0:=bxx 0 _ rfl;have HSB:=Lib.hid hsb;have hlt:w.heap.size<wb.heap.size:=by omega
 clear hsb
 go_wp2_with (at_builtin;refine wpList_appe (r:=rPlanStep NB) (M:=NB) rfl _ _ 74 rfl _ 24 eiPlanStep (rPlanStep_ok NB) (rPlanStep_flat NB) rfl (heap_alloc_new _ _) rfl (hx_d5.below (rPlanStep_ok NB) hBx) hx_d5.nb (Nat.le_refl _) (by omega) ?_;intro A1 c1 w1 o1 g1 hb1;have bk1:=(bkR.below hBc).below hb1;have q0:=bk1.bx 0 _ rfl;have f0:=bk1.frozen 0)
 have bk2:=bk1.set 0 (.slice A1 nx_d5 c1);have q2:=bk2.bx 0 _ rfl;refine bodyPost_ret (v:=.agg #[.slice A1 nx_d5 c1]) (by simp [results,Tryz.results95,go_sem,q2]) rfl ?_;have hgs:∀ k∈blk A1,w.heap.size+1+1<=k:=fun k hk=>by have h:=g1 k hk;simp only [World.size_alloc]at h;have:=HSB.out;omega
 have fr:Fr (w.heap.size+1+1) (blk A1):=⟨by cases A1<;>simp [blk],hgs⟩;exact⟨_,_,rfl,rPlan_own.2 ⟨A1,_,_,_,rfl,rfl,o1.out (rPlanStep_ok NB) fr ((Out.refl _ _).setCell (by simp) _)⟩,fr.mono (by omega),(hBx.trans (hb1.mono hBx.size)).setCell (by simp) _⟩
end Go.Proofs.YtnlcfkpcmfljeaaGreat
