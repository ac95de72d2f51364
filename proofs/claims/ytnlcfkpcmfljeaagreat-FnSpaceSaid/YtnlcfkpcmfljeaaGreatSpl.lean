/-
  Spl
-/
import Derived.Test.YtnlcfkpcmfljeaaGreatSpace
import Derived.Test.YtnlcfkpcmfljeaaGreatTo
import Derived.Test.YtnlcfkpcmfljeaaGreatOper
import Derived.Deep.RegionHeld3
import Derived.Deep.DrawnRows
set_option linter.unusedSimpArgs false
set_option linter.unusedVariables false
set_option maxHeartbeats 1600000
set_option maxRecDepth 100000
namespace Go.Proofs.YtnlcfkpcmfljeaaGreat
open Go.RowKit
attribute [local go_sem ↓] Go.wp_at_zero Go.wp_at_succ
theorem rPlanStep_flat (M:Nat):(rPlanStep M).Flat:=rIso_flat (rPair_flat rInt_flat (rPair_flat rInt_flat rInt_flat)) _
theorem RS.planC {M:Nat}{w:World}{A:Option Addr}{n cap:Nat}{l:List PlanD}(h:RS M (rPlan NB) w A n cap l) {k:Nat}(hk:k<n) :
  ∃ b off x A1 n1 c1,A=some ⟨b,off,none⟩/\w.cell? ⟨b,off+k,none⟩=some (.slice A1 n1 c1)/\RS NB (rPlanStep NB) w A1 n1 c1 x.fSteps/\Hid (l[k]?=some x):=by
 obtain⟨b,off,x,cs,e,hr,hc,hx⟩:=h.at_ hk;obtain⟨A1,n1,c1,rfl,h1⟩:=rPlan_rep.1 hr;exact⟨b,off,x,A1,n1,c1,e,by simpa [rPlan_size]using hc 0 _ rfl,h1,hx⟩
theorem iCopyPlan_c (csx:List Value) (x:PlanD) (w:World) (hx:(rPlan NB).rep w csx x) :
  Calls Tryz.prog 95 #[.agg csx.toArray] w (RetV (rPlan NB) x w):=by
 have rx:=hx;obtain⟨Ax_d5,nx_d5,cx_d5,rfl,hx_d5⟩:=rPlan_rep.1 hx;clear hx;obtain⟨hB,bxx⟩:=op1 w [.slice Ax_d5 nx_d5 cx_d5] 76;have hn:=hx_d5.bound;obtain⟨wa,hwa⟩:∃ wa,wa=w.alloc (.cells #[.slice Ax_d5 nx_d5 cx_d5] 76):=⟨_,rfl⟩;rw [<- hwa]at hB bxx;have hsa:wa.heap.size=w.heap.size+1:=by rw [hwa];simp
 have bkR:=Bk.new wa [.slice none 0 0] 76;have hBA:=(Below.refl wa.heap.size wa).alloc (Nat.le_refl _) (.cells #[.slice none 0 0] 76);replace hB:=hB.trans (hBA.mono hB.size);replace bxx:=bxx.below hBA;obtain⟨wb,hwb⟩:∃ wb,wb=wa.alloc (.cells #[.slice none 0 0] 76):=⟨_,rfl⟩;have hwb':=hwb.symm;replace bkR:Bk wb wa.heap.size 76 [.slice none 0 0]:=by rw [hwb];exact bkR
 rw [hwb']at hB bxx;have hsb:wb.heap.size=w.heap.size+1+1:=by rw [hwb];simp [hsa]
 rw [hsa]at bkR;clear hBA
 go_enter Tryz.func95,Tryz.ntmps95
 go_upto_region 1 with fail
 rw [<- hwa,hwb'];clear hwa hwb hwb';have hBc:=(Below.refl wb.heap.size wb).alloc (Nat.le_refl _) (.cells #[] 173);have hBx:=hB.trans (hBc.mono hB.size);have kx:=bxx.below hBc 0 _ rfl;have kx0:=bxx 0 _ rfl;have HSB:=Lib.hid hsb;have hlt:w.heap.size<wb.heap.size:=by omega
 clear hsb
 go_wp2_with (at_builtin;refine wpList_appe (r:=rPlanStep NB) (M:=NB) rfl _ _ 74 rfl _ 24 eiPlanStep (rPlanStep_ok NB) (rPlanStep_flat NB) rfl (heap_alloc_new _ _) rfl (hx_d5.below (rPlanStep_ok NB) hBx) hx_d5.nb (Nat.le_refl _) (by omega) ?_;intro A1 c1 w1 o1 g1 hb1;have bk1:=(bkR.below hBc).below hb1;have q0:=bk1.bx 0 _ rfl;have f0:=bk1.frozen 0)
 have bk2:=bk1.set 0 (.slice A1 nx_d5 c1);have q2:=bk2.bx 0 _ rfl;refine bodyPost_ret (v:=.agg #[.slice A1 nx_d5 c1]) (by simp [results,Tryz.results95,go_sem,q2]) rfl ?_;have hgs:∀ k∈blk A1,w.heap.size+1+1<=k:=fun k hk=>by have h:=g1 k hk;simp only [World.size_alloc]at h;have:=HSB.out;omega
 have fr:Fr (w.heap.size+1+1) (blk A1):=⟨by cases A1<;>simp [blk],hgs⟩;exact⟨_,_,rfl,rPlan_own.2 ⟨A1,_,_,_,rfl,rfl,o1.out (rPlanStep_ok NB) fr ((Out.refl _ _).setCell (by simp) _)⟩,fr.mono (by omega),(hBx.trans (hb1.mono hBx.size)).setCell (by simp) _⟩
def spacePlan (s:SpaceD) (l:List Int):PlanD × Bool:=if 0<=spaceIdx s l then ((s.fPlans[((s.fChoices[(spaceIdx s l).toNat]?).getD 0).toNat]?).getD ⟨[]⟩,true) else (⟨[]⟩,false)
theorem spacePlan_at {x:SpaceD}{l:List Int}(h:0<=spaceIdx x l):∃ (k j:Nat) (p:PlanD),spaceIdx x l=k/\k<x.fChoices.length/\x.fChoices[k]?=some (j:Int)/\j<x.fPlans.length/\x.fPlans[j]?=some p/\spacePlan x l=(p,true):=by
 obtain⟨hv,k,hk,_,hk2⟩:=spaceIdx_at h;obtain⟨_,_,_,_,_,_,hc⟩:=validSpace_parts hv;have h1:x.fChoices[k]?=some (x.fChoices[k]'hk2):=List.getElem?_eq_getElem hk2;have h2:=hc k _ h1;have hj:(x.fChoices[k]'hk2).toNat<x.fPlans.length:=by omega
 have h3:x.fPlans[(x.fChoices[k]'hk2).toNat]?=some (x.fPlans[(x.fChoices[k]'hk2).toNat]'hj):=List.getElem?_eq_getElem hj;refine⟨k,(x.fChoices[k]'hk2).toNat,_,hk,hk2,by rw [h1];congr 1;omega,hj,h3,?_⟩;rw [spacePlan,if_pos h,hk,Int.toNat_natCast,h1,Option.getD_some,h3];rfl
theorem iSpacePlan_c (csx:List Value) (x:SpaceD) (Al:Option Addr) (nl cl:Nat) (l:List Int) (w:World) (hx:(rSpace NB).rep w csx x) (hl:RS NB rInt w Al nl cl l) :
  Calls Tryz.prog 34 #[.agg csx.toArray,.slice Al nl cl] w (RetVB (rPlan NB) (spacePlan x l).1 (.bool (spacePlan x l).2) w):=by
 have rx:=hx;obtain⟨Ax_i,nx_i,cx_i,Ax_h,nx_h,cx_h,Ax_y,nx_y,cx_y,Ax_q,nx_q,cx_q,Ax_a4,nx_a4,cx_a4,rfl,hx_i,hx_h,hx_y,hx_q,hx_a4⟩:=rSpace_rep.1 hx;clear hx;obtain⟨hB,bxx⟩:=op1 w [.slice Ax_i nx_i cx_i,.slice Ax_h nx_h cx_h,.slice Ax_y nx_y cx_y,.slice Ax_q nx_q cx_q,.slice Ax_a4 nx_a4 cx_a4] 39;have HLC:=Lib.hid hx_q.len;have HLP:=Lib.hid hx_a4.len;have hnc:=hx_q.bound;have hnp:=hx_a4.bound;obtain⟨wa,hwa⟩:∃ wa,wa=w.alloc (.cells #[.slice Ax_i nx_i cx_i,.slice Ax_h nx_h cx_h,.slice Ax_y nx_y cx_y,.slice Ax_q nx_q cx_q,.slice Ax_a4 nx_a4 cx_a4] 39):=⟨_,rfl⟩;rw [<- hwa]at hB bxx;have hsa:w.heap.size+1=wa.heap.size:=by rw [hwa];simp
 have hBA:=(Below.refl wa.heap.size wa).alloc (Nat.le_refl _) (.cells #[.slice none 0 0] 76);have bkR:=Bk.new wa [.slice none 0 0] 76;replace hB:=hB.trans (hBA.mono hB.size);replace bxx:=bxx.below hBA;clear hBA;rw [<- hsa]at bkR;rw [hwa]at hB bxx bkR;clear hwa hsa
 go_enter Tryz.func34,Tryz.ntmps34
 go_wp2_with fail
 refine(iSpaceIndex_c _ x _ _ _ _ _ ((rSpace_ok NB).keep rx (cells_below hB)) (hl.below rInt_ok hB)).mono ?_;rintro e w1 ⟨rfl,hb1⟩;replace hB:=hB.trans (hb1.mono hB.size);replace bxx:=bxx.below hb1;replace bkR:=bkR.below hb1;clear hb1;by_cases e1:0<=spaceIdx x l
 ·obtain⟨k,j,p,hk,hk1,hkj,hj1,hjp,hfin⟩:=spacePlan_at e1
  rw [hk];have HF:=Lib.hid hfin;have HKJ:=Lib.hid hkj;have HJP:=Lib.hid hjp;have hkn:k<nx_q:=by rw [<- HLC.out];exact hk1
  have hjn:j<nx_a4:=by rw [<- HLP.out];exact hj1
  clear hk e1 hfin hkj hjp hk1 hj1;obtain⟨b,off,y,rfl,hc,hI,hy⟩:=hx_q.ati hkn;obtain rfl:y=j:=by have:=hy.out;rw [HKJ.out]at this;injection this with this;exact this.symm
  obtain⟨b2,off2,p',A1,n1,c1,rfl,hc2,hR,hp'⟩:=hx_a4.planC hjn;obtain rfl:p'=p:=by have:=hp'.out;rw [HJP.out]at this;injection this with this;exact this.symm
  clear hy hp';have kI:(k:Int)<(nx_q:Int):=by omega
  have jI:(j:Int)<(nx_a4:Int):=by omega
  have k0:(0:Int)<=(k:Int):=by omega
  have j0:(0:Int)<=(j:Int):=by omega
  go_upto_region 4 with fail
  have kx3:=bxx 3 _ rfl;have kx4:=bxx 4 _ rfl;have lb:=World.block_lt_of_cell? _ _ hc;have lb2:=World.block_lt_of_cell? _ _ hc2;replace hc:=cells_below hB _ _ hc;replace hc2:=cells_below hB _ _ hc2;have hlw:w.heap.size+1<=w1.heap.size:=Nat.le_of_lt bkR.lt;have SS:∀ w',Below (w.heap.size+1) w1 w'->(w'.cell? ⟨w.heap.size,3,none⟩=some (.slice (some ⟨b,off,none⟩) nx_q cx_q)/\w'.cell? ⟨w.heap.size,4,none⟩=some (.slice (some ⟨b2,off2,none⟩) nx_a4 cx_a4)/\w'.cell? ⟨b,off+k,none⟩=some (.int .i64 j)/\w'.cell? ⟨b2,off2+j,none⟩=some (.slice A1 n1 c1)):=fun w' hb=>⟨(hb.cell (Nat.lt_succ_self _)).trans kx3,(hb.cell (Nat.lt_succ_self _)).trans kx4,(hb.cell (Nat.lt_succ_of_lt lb)).trans hc,(hb.cell (Nat.lt_succ_of_lt lb2)).trans hc2⟩
  have HSS:=Lib.hid SS;clear SS kx3 kx4 hc hc2 lb lb2
  go_region_held3 (fun w'=>w'.cell? ⟨w.heap.size,3,none⟩=some (.slice (some ⟨b,off,none⟩) nx_q cx_q)/\w'.cell? ⟨w.heap.size,4,none⟩=some (.slice (some ⟨b2,off2,none⟩) nx_a4 cx_a4)/\w'.cell? ⟨b,off+k,none⟩=some (.int .i64 j)/\w'.cell? ⟨b2,off2+j,none⟩=some (.slice A1 n1 c1)) (first|exact HSS.out _ (Below.refl _ _).drew|exact HSS.out _ (hC5.mono hlw)|exact HSS.out _ ((hC5.mono hlw).setCell (Nat.le_refl _) _)) ((first|(go_at_call 95;refine(iCopyPlan_c _ p' _ (rPlan_rep.2 ⟨_,_,_,rfl,hR.below (rPlanStep_ok NB) hB.drew⟩)).mono ?_;rintro e w5 ⟨cs5,f5,rfl,o5,fr5,hb5⟩;have hC5:Below w1.heap.size w1 w5:=Below.trans (Below.refl w1.heap.size w1).drew hb5;obtain⟨A5,n5,c5,g5,rfl,rfl,h5⟩:=rPlan_own.1 o5;have bk5:=bkR.below hC5;have q0:=bk5.bx 0 _ rfl;have f0:=bk5.frozen 0)))
  all_goals
   go_wp2;have bk2:=bk5.set 0 (.slice A5 n5 c5);have q2:=bk2.bx 0 _ rfl;refine bodyPost_ret (v:=.tuple #[.agg #[.slice A5 n5 c5],.bool true]) (by simp [results,Tryz.results34,go_sem,q2]) rfl ?_;exact⟨_,_,by rw [HF.out],by rw [HF.out];exact rPlan_own.2 ⟨A5,_,_,_,rfl,rfl,h5.out (rPlanStep_ok NB) fr5 ((Out.refl _ _).setCell (p:=⟨w.heap.size+1,0,none⟩) bkR.lt _)⟩,fr5.mono (by show w.heap.size<=w1.heap.size;omega),(hB.trans (hC5.mono hB.size)).setCell (by simp) _⟩
 ·have h2:spaceIdx x l<0:=by omega
  have HE:=Lib.hid e1;clear e1;have q0:=bkR.bx 0 _ rfl;have f0:=bkR.frozen 0;go_wp2;have bk2:=bkR.set 0 (.slice none 0 0);have q2:=bk2.bx 0 _ rfl;refine bodyPost_ret (v:=.tuple #[.agg #[.slice none 0 0],.bool false]) (by simp [results,Tryz.results34,go_sem,q2]) rfl ?_;exact⟨_,_,by rw [spacePlan,if_neg (Int.not_le.2 HE.out)],by rw [spacePlan,if_neg (Int.not_le.2 HE.out)];exact zPlan_own _,Fr.nil _,hB.setCell (by simp) _⟩
end Go.Proofs.YtnlcfkpcmfljeaaGreat
