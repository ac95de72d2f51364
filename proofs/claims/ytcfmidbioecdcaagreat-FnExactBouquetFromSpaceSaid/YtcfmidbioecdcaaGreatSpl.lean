/-
  Spl
-/
import Derived.Test.YtcfmidbioecdcaaGreatSpc
import Derived.Test.YtcfmidbioecdcaaGreatCopy
import Derived.Test.YtcfmidbioecdcaaGreatTo
import Derived.Test.YtcfmidbioecdcaaGreatOper
import Derived.Deep.RegionHeld3
import Derived.Deep.DrawnRows
namespace Go.Proofs.YtcfmidbioecdcaaGreat
open Go.RowKit
set_option linter.unusedVariables false
set_option linter.unusedSimpArgs false
attribute [local go_sem ↓] Go.wp_at_zero Go.wp_at_succ

theorem rPlanStep_flat (M:Nat):(rPlanStep M).Flat:=rIso_flat (rPair_flat rInt_flat (rPair_flat rInt_flat rInt_flat)) _
theorem RS.planC {M:Nat}{w:World}{A:Option Addr}{n cap:Nat}{l:List PlanD}(h:RS M (rPlan NB) w A n cap l) {k:Nat}(hk:k<n) :
  ∃ b off x A1 n1 c1,A=some ⟨b,off,none⟩/\w.cell? ⟨b,off+k,none⟩=some (.slice A1 n1 c1)/\RS NB (rPlanStep NB) w A1 n1 c1 x.fSteps/\Hid (l[k]?=some x):=by
 obtain⟨b,off,x,cs,e,hr,hc,hx⟩:=h.at_ hk
 obtain⟨A1,n1,c1,rfl,h1⟩:=rPlan_rep.1 hr
 exact⟨b,off,x,A1,n1,c1,e,by simpa [rPlan_size]using hc 0 _ rfl,h1,hx⟩

set_option maxRecDepth 100000 in
set_option maxHeartbeats 1600000 in
theorem iCopyPlan_c (csx:List Value) (x:PlanD) (w:World) (hx:(rPlan NB).rep w csx x) :
  Calls Tryz.prog 89 #[.agg csx.toArray] w (RetV (rPlan NB) x w):=by
 have rx:=hx
 obtain⟨AxSteps,nxSteps,cxSteps,rfl,hxSteps⟩:=rPlan_rep.1 hx
 clear hx
 have hB:Below w.heap.size w w:=Below.refl _ _
 have hAx:=(Below.refl (World.heap (w)).size (w)).alloc (Nat.le_refl _) (.cells #[.slice AxSteps nxSteps cxSteps] 114)
 replace hB:=hB.trans (hAx.mono hB.size)
 have bxx:=Bx.new (w) [.slice AxSteps nxSteps cxSteps] 114
 clear hAx
 have hn:=hxSteps.bound
 obtain⟨wa,hwa⟩:∃ wa,wa=w.alloc (.cells #[.slice AxSteps nxSteps cxSteps] 114):=⟨_,rfl⟩
 rw [<- hwa]at hB bxx
 have hsa:wa.heap.size=w.heap.size+1:=by rw [hwa];simp
 have bkR:=Bk.new wa [.slice none 0 0] 114
 have hBA:=(Below.refl wa.heap.size wa).alloc (Nat.le_refl _) (.cells #[.slice none 0 0] 114)
 replace hB:=hB.trans (hBA.mono hB.size)
 replace bxx:=bxx.below hBA
 obtain⟨wb,hwb⟩:∃ wb,wb=wa.alloc (.cells #[.slice none 0 0] 114):=⟨_,rfl⟩
 have hwb':=hwb.symm
 replace bkR:Bk wb wa.heap.size 114 [.slice none 0 0]:=by rw [hwb];exact bkR
 rw [hwb']at hB bxx
 have hsb:wb.heap.size=w.heap.size+1+1:=by rw [hwb];simp [hsa]
 rw [hsa]at bkR
 clear hBA
 go_enter Tryz.func89,Tryz.ntmps89
 go_upto_region 1 with fail
 rw [<- hwa,hwb']
 clear hwa hwb hwb'
 have hBc:=(Below.refl wb.heap.size wb).alloc (Nat.le_refl _) (.cells #[] 176)
 have hBx:=hB.trans (hBc.mono hB.size)
 have kx:=bxx.below hBc 0 _ rfl
 have kx0:=bxx 0 _ rfl
 have HSB:=Lib.hid hsb
 have hlt:w.heap.size<wb.heap.size:=by omega
 clear hsb
 go_wp2_with (at_builtin;refine wpList_appe (r:=rPlanStep NB) (M:=NB) rfl _ _ 112 rfl _ 24 eiPlanStep (rPlanStep_ok NB) (rPlanStep_flat NB) rfl (heap_alloc_new _ _) rfl (hxSteps.below (rPlanStep_ok NB) hBx) hxSteps.nb (Nat.le_refl _) (by omega) ?_;intro A1 c1 w1 o1 g1 hb1;have bk1:=(bkR.below hBc).below hb1;have q0:=bk1.bx 0 _ rfl;have f0:=bk1.frozen 0)
 have bk2:=bk1.set 0 (.slice A1 nxSteps c1)
 have q2:=bk2.bx 0 _ rfl
 refine bodyPost_ret (v:=.agg #[.slice A1 nxSteps c1]) (by simp [results,Tryz.results89,go_sem,q2]) rfl ?_
 have hgs:∀ k∈blk A1,w.heap.size+1+1<=k:=fun k hk=>by have h:=g1 k hk;simp only [World.size_alloc]at h;have:=HSB.out;omega
 have fr:Fr (w.heap.size+1+1) (blk A1):=⟨by cases A1<;>simp [blk],hgs⟩
 exact⟨_,_,rfl,rPlan_own.2 ⟨A1,_,_,_,rfl,rfl,o1.out (rPlanStep_ok NB) fr ((Out.refl _ _).setCell (by simp) _)⟩,fr.mono (by omega),(hBx.trans (hb1.mono hBx.size)).setCell (by simp) _⟩
open Go.RowKit
set_option linter.unusedVariables false
set_option linter.unusedSimpArgs false
set_option maxRecDepth 100000 in
set_option maxHeartbeats 1600000 in
theorem iCopyPlans_c (A:Option Addr) (n cap:Nat) (l:List PlanD) (w:World) (hr:RS NB (rPlan NB) w A n cap l) :
  Calls Tryz.prog 48 #[.slice A n cap] w (RetS 114 (rPlan NB) l w):=by
 have hn:=hr.bound
 have hM0:=MS.empty (B:=w.heap.size) (M:=NB) (e:=114) (r:=rPlan NB) w (Nat.le_refl _)
 have hA0:=(Below.refl w.heap.size w).alloc (Nat.le_refl _) (.cells #[] 114)
 go_enter Tryz.func48,Tryz.ntmps48
 go_wp2
 go_loopw [3,9] (fun o i wr=>∃ (k c:Nat) (B:Option Addr),k<=n/\i=.int .i64 k/\o=.slice B k c/\MS w.heap.size NB 114 (rPlan NB) wr B k c (l.take k)/\Below w.heap.size w wr) (fun _ i _=>n - (intOf i).toNat)
 case atStart=>exact⟨0,0,_,Nat.zero_le _,rfl,rfl,hM0,hA0⟩
 case round =>
  clear hM0 hA0
  obtain⟨k,c,B,hk,rfl,rfl,hM,hE⟩:=hrel
  have hz:=hE.size
  by_cases hlt:k<n
  ·obtain⟨b,off,x,A1,n1,c1,rfl,hc,hx,hxx⟩:=(hr.below (rPlan_ok NB) hE).planC hlt
   have HS:=Lib.hid (take_snoc hxx.out)
   have hA1:=(Below.refl wr.heap.size wr).alloc (Nat.le_refl _) (.cells #[.slice A1 n1 c1] 114)
   have q0:=Bk.new wr [.slice A1 n1 c1] 114 |>.bx 0 _ rfl
   go_wp2_with fail
   refine(iCopyPlan_c _ x _ (rPlan_rep.2 ⟨A1,n1,c1,rfl,hx.below (rPlanStep_ok NB) hA1⟩)).mono ?_
   rintro e w2 ⟨cs,fp,rfl,oX,frX,hb2⟩
   obtain⟨A2,n2,c2,f2,rfl,rfl,o2⟩:=rPlan_own.1 oX
   replace hb2:=hA1.trans (hb2.mono hA1.size)
   have hE2:=hE.trans (hb2.mono hz)
   have hAl:=(Below.refl w2.heap.size w2).alloc (Nat.le_refl _) (.cells #[.slice A2 n2 c2] 114)
   clear q0
   go_wp2_with (at_builtin;refine wpList_app (r:=rPlan NB) rfl _ _ 40 rfl _ 24 eiPlan (rPlan_ok NB) rfl hM (hb2.trans (hAl.mono hb2.size)) hz ⟨w2.heap.size,0,none⟩ rfl _ [.slice A2 n2 c2] x (rPlan_own.2 ⟨A2,n2,c2,_,rfl,rfl,o2.belowS (rPlanStep_ok NB) hAl⟩) (frX.mono hA1.size) (cell_one_new _ _ _) (by unfold NB;omega) (Nat.le_refl _) (by omega) ?_;intro A9 k9 w9 hM9 hb9 hg9)
   go_roundw
   case rel=>exact⟨k+1,k9,A9,by omega,by go_num,rfl,by rw [HS.out];exact hM9,(hE2.alloc hE2.size _).trans hb9⟩
   case measure=>simp [intOf];omega
  ·go_wp2
   go_ret
   have hkn:k=n:=by omega
   subst hkn
   exact⟨_,_,_,rfl,by rw [<- take_all hr.len hlt];exact hM,hE⟩
set_option maxRecDepth 100000 in
set_option maxHeartbeats 1600000 in
theorem sPlans_c (A:Option Addr) (n cap:Nat) (l:List PlanD) (w:World) (hr:RS NB (rPlan NB) w A n cap l) :
  Calls Tryz.prog 32 #[.slice A n cap] w (RetS 114 (rPlan NB) l w):=by
 have hn:=hr.bound
 have hM0:=MS.empty (B:=w.heap.size) (M:=NB) (e:=114) (r:=rPlan NB) w (Nat.le_refl _)
 have hA0:=(Below.refl w.heap.size w).alloc (Nat.le_refl _) (.cells #[] 114)
 go_enter Tryz.func32,Tryz.ntmps32
 go_wp2
 go_loopw [3,4] (fun o i wr=>∃ (k c:Nat) (B:Option Addr),k<=n/\i=.int .i64 k/\o=.slice B k c/\MS w.heap.size NB 114 (rPlan NB) wr B k c (l.take k)/\Below w.heap.size w wr) (fun _ i _=>n - (intOf i).toNat)
 case atStart=>exact⟨0,0,_,Nat.zero_le _,rfl,rfl,hM0,hA0⟩
 case round =>
  clear hM0 hA0
  obtain⟨k,c,B,hk,rfl,rfl,hM,hE⟩:=hrel
  have hz:=hE.size
  by_cases hlt:k<n
  ·obtain⟨b,off,x,A1,n1,c1,rfl,hc,hx,hxx⟩:=(hr.below (rPlan_ok NB) hE).planC hlt
   have HS:=Lib.hid (take_snoc hxx.out)
   have hA1:=(Below.refl wr.heap.size wr).alloc (Nat.le_refl _) (.cells #[] 176)
   have q0:=cells_below hA1 _ _ hc
   have hn1:=hx.bound
   go_wp2_with (at_builtin;first|(refine wpList_appe (r:=rPlanStep NB) (M:=NB) rfl _ _ 112 rfl _ 24 eiPlanStep (rPlanStep_ok NB) (rPlanStep_flat NB) rfl (heap_alloc_new _ _) rfl (hx.below (rPlanStep_ok NB) hA1) hx.nb (Nat.le_refl _) (by omega) ?_;intro A2 c2 w2 o2 g2 hb2;replace hb2:=hA1.trans (hb2.mono hA1.size);have hE2:=hE.trans (hb2.mono hz);have hAl:=(Below.refl w2.heap.size w2).alloc (Nat.le_refl _) (.cells #[.slice A2 n1 c2] 114);have frX:Fr wr.heap.size (blk A2):=⟨by cases A2<;>simp [blk],fun k hk=>by have h:=g2 k hk;simp only [World.size_alloc]at h;omega⟩)|(refine wpList_app (r:=rPlan NB) rfl _ _ 40 rfl _ 24 eiPlan (rPlan_ok NB) rfl hM (hb2.trans (hAl.mono hb2.size)) hz ⟨w2.heap.size,0,none⟩ rfl _ [.slice A2 n1 c2] x (rPlan_own.2 ⟨A2,n1,c2,_,rfl,rfl,o2.belowS (rPlanStep_ok NB) hAl⟩) frX (cell_one_new _ _ _) (by unfold NB;omega) (Nat.le_refl _) (by omega) ?_;intro A9 k9 w9 hM9 hb9 hg9))
   go_roundw
   case rel=>exact⟨k+1,k9,A9,by omega,by go_num,rfl,by rw [HS.out];exact hM9,(hE2.alloc hE2.size _).trans hb9⟩
   case measure=>simp [intOf];omega
  ·go_wp2
   go_ret
   have hkn:k=n:=by omega
   subst hkn
   exact⟨_,_,_,rfl,by rw [<- take_all hr.len hlt];exact hM,hE⟩
end Go.Proofs.YtcfmidbioecdcaaGreat
