/-
  Itb
-/
import Derived.Test.YtnlcfkpcmfljeaaGreatPtb
import Derived.Test.YtnlcfkpcmfljeaaGreatBsp
set_option linter.unusedSimpArgs false
set_option linter.unusedVariables false
set_option maxHeartbeats 12800000
set_option maxRecDepth 100000
namespace Go.Proofs.YtnlcfkpcmfljeaaGreat
open Go.RowKit
attribute [local go_sem ↓] Go.wp_at_zero Go.wp_at_succ
theorem eiGrp:Ei Tryz.prog 221 110 (.slice none 0 0) rGrp.size 24:=⟨by kernel_rfl,by kernel_rfl,rfl⟩
theorem isSizes_valid {q:QueryD}{s:List Int}(h:isSizes q s=true):validQ q=true/\(s.length:Int)=fullMask q+1:=by
 unfold isSizes at h;simp only [Bool.and_eq_true,decide_eq_true_eq,beq_iff_eq]at h;exact⟨h.1.1,h.1.2⟩
theorem field_plan (a b c:Int) (A:Option Addr) (n k:Nat) (W:World):(Instr.field 107 (.agg #[.int .i64 a,.int .i64 b,.int .i64 c,.slice A n k]) 3).run Tryz.prog W=.ok (.agg #[.slice A n k]) W:=by kernel_rfl
theorem iPlanTable_c (csm:List Value) (md:ModelD) (csq:List Value) (q:QueryD) (As:Option Addr) (ns cc:Nat) (s:List Int) (w:World)
  (hm:(rModel NB).rep w csm md) (hq:(rQuery NB).rep w csq q) (hs:RS NB rInt w As ns cc s) (hup:admitted md=true->isSizes q s=true->SortUp md s) :
  Calls Tryz.prog 142 #[.agg csm.toArray,.agg csq.toArray,.slice As ns cc] w
   fun e W=>∃ A n c,e=.returned (.slice A n c)/\RS NB (rPlanEntry NB) W A n c (tabV md q s)/\Below w.heap.size w W:=by
 have lenm:=(rModel_ok NB).len hm;obtain⟨AA,nA,cA,rfl,hvc,hAt⟩:=rQuery_rep.1 hq;obtain⟨w1,hw1⟩:∃ W,W=w.alloc (.cells csm.toArray 46):=⟨_,rfl⟩;obtain⟨w2,hw2⟩:∃ W,W=w1.alloc (.cells #[.int .i64 q.fVariableCount,.slice AA nA cA] 50):=⟨_,rfl⟩;have hs1:w1.heap.size=w.heap.size+1:=by rw [hw1];simp
 have hs2:w2.heap.size=w.heap.size+1+1:=by rw [hw2];simp [hs1]
 have b1:Below w.heap.size w w1:=by rw [hw1];exact bal
 have b2:Below w1.heap.size w1 w2:=by rw [hw2];exact bal
 have kM:Bk w2 w.heap.size 46 csm:=Bk.below (w:=w1) (by rw [hw1];exact Bk.new w _ _) b2;have kQ:Bk w2 (w.heap.size+1) 50 [.int .i64 q.fVariableCount,.slice AA nA cA]:=by rw [hw2,<- hs1];exact Bk.new w1 _ _
 have bb:Below w.heap.size w w2:=b1.trans (b2.mono b1.size);have H1:=Lib.hid hw1;have H2:=Lib.hid hw2;have HS2:=Lib.hid hs2;clear hw1 hw2 hs1 hs2 b1 b2;obtain⟨i0,hi0,hz0,hz1,hz2⟩:=info_parts eiGrp.hi
 go_enter Tryz.func142,Tryz.ntmps142
 go_upto_region 1 with fail
 rw [<- H1.out,<- H2.out];clear H1 H2;have m0:=kM.rangeAt;have q0:=kQ.bx 0 _ rfl;have q1:=kQ.bx 1 _ rfl
 go_wp2_with (first|(refine wpList_load_mid rfl _ _ rfl _ _ rfl _ _ m0 Tryz.underlying46 rfl (by rw [lenm];exact sizeModelT) ?_)|fail)
 refine(iIsAdmitted_c csm md w2 ((rModel_ok NB).keep hm (cells_below bb))).mono ?_;rintro e w3 ⟨rfl,hb3⟩;have B3:=bb.trans (hb3.mono bb.size);cases hadm:admitted md
 ·have HT:Hid (tabV md q s=[]):=by show _=_;unfold tabV;rw [hadm];rfl
  clear hadm;go_wp2;go_ret;exact⟨none,0,0,rfl,by rw [HT.out];exact RS.nil _ _ _ _ _,B3⟩
 have q30:=(kQ.below hb3).bx 0 _ rfl;have q31:=(kQ.below hb3).bx 1 _ rfl;have HAdm:=Lib.hid hadm;clear hadm
 go_wp2_with fail
 refine(iIsSizeVector_c _ q As ns cc s w3 ((rQuery_ok NB).keep hq (cells_below B3)) (hs.below rInt_ok B3)).mono ?_;rintro e w4 ⟨rfl,hb4⟩;have b24:=hb3.trans (hb4.mono hb3.size);have B4:=bb.trans (b24.mono bb.size);cases hsz:isSizes q s
 ·have HT:Hid (tabV md q s=[]):=by show _=_;unfold tabV;rw [hsz,Bool.and_false];rfl
  clear hsz;go_wp2;go_ret;exact⟨none,0,0,rfl,by rw [HT.out];exact RS.nil _ _ _ _ _,B4⟩
 obtain⟨hvq,hsl⟩:=isSizes_valid hsz;have hsn:=hs.len;have hnb:=hs.nb;have f15:=fm15 q;have f0:=fm0 q;obtain⟨f,hf⟩:∃ f:Nat,fullMask q=(f:Int):=⟨(fullMask q).toNat,by omega⟩;have hf15:f<=15:=by omega
 have HT:Hid (tabV md q s=tableE md q s):=by show _=_;unfold tabV;rw [HAdm.out,hsz];rfl
 have HSZ:=Lib.hid hsz;have HVQ:=Lib.hid hvq;have HUP:=Lib.hid (hup HAdm.out hsz);have HF:=Lib.hid hf;have q40:=(kQ.below b24).bx 0 _ rfl;have q41:=(kQ.below b24).bx 1 _ rfl;clear hsz hvq hup hf f15 f0 m0 q0 q1 q30 q31 hb3 hb4 B3
 go_wp2_with fail
 refine(iFullMask_c _ q w4 ((rQuery_ok NB).keep hq (cells_below B4))).mono ?_;rintro e w5 ⟨rfl,hb5⟩;rw [HF.out];have hfw:IntKind.i64.wrap ((f:Int)+1)=((f+1:Nat):Int):=by rw [IntWalk.i64_in _ (by omega)];omega
 have b25:=b24.trans (hb5.mono b24.size);have B5:=bb.trans (b25.mono bb.size);have hw5:=b25.size;clear q40 q41 b24 hb5 B4
 go_upto_region 4 with (at_make;refine wpList_make_full _ rfl _ _ 221 rfl w5.heap.size 110 i0 (.slice none 0 0) 1 Tryz.underlying221 hi0 hz0 hz1 .i64 .i64 _ _ (f+1) rfl rfl rfl rfl (by rw [hz2];omega) (by unfold maxLen;omega) (Nat.le_refl _) ?_;intro w6 hown hg6)
 obtain⟨gT,hgT⟩:∃ g,g=w5.heap.size:=⟨_,rfl⟩;have b56:Below w5.heap.size w5 w6:=(Below.refl _ _).grown hg6 (Nat.le_refl _) (by simp);obtain⟨w7,hw7⟩:∃ W,W=w6.alloc (.cells #[] 107):=⟨_,rfl⟩;have b67:Below w6.heap.size w6 w7:=by rw [hw7];exact bal
 have hz7:w7.heap.size=w6.heap.size+1:=by rw [hw7];simp
 have g56:gT+1<=w6.heap.size:=by
  rcases (ownsRow_form hown).2 with ⟨h,_⟩|⟨g,h,hlt,_⟩
  ·cases h
  ·injection h with h;injection h with h;omega
 obtain⟨A0,hA0⟩:∃ A:Option Addr,A=some ⟨w6.heap.size,0,none⟩:=⟨_,rfl⟩
 have tab0:MS gT NB 110 (rK rGrp (OutS (Sd A0 gT) w7)) w7 (some ⟨gT,0,none⟩) (f+1) (f+1) (grps md q s f 0):=by
  have ok:=rK_ok rGrp_ok (OutS.refl (Sd A0 gT) w7);have m:=MS.madeE (M:=NB) (B:=gT) (l:=List.replicate (f+1) ([]:List PlanEntryD)) ok (by simp) (by unfold NB;omega) (by omega) (z:=.slice none 0 0) (x:=[]) rfl (fun W=>⟨rfl,fun V hV=>⟨none,0,0,rfl,RS.nil _ _ _ _ _⟩⟩) hown;rw [part_zero,List.length_replicate,<- hgT]at m
  have e:grps md q s f 0=List.replicate (f+1) []:=by
   unfold grps;refine List.ext_getElem? fun i=>?_;by_cases hi:i<f+1
   ·rw [List.getElem?_map,List.getElem?_range hi,List.getElem?_replicate,if_pos hi];simp [tabOf]
   ·rw [List.getElem?_eq_none (by simp;omega),List.getElem?_eq_none (by simp;omega)]
  rw [e];exact MS.rkStep m (b67.block gT (by omega)) (fun V hV=>hV)
 have out0:PT (rPlanEntry NB) 107 (gT+1) A0 0 0 [] w7:=by rw [hw7,hA0];exact PT.new g56
 have b27:=b25.trans ((b56.trans (b67.mono b56.size)).mono b25.size);have B7:=bb.trans (b27.mono bb.size);have HA0:=Lib.hid hA0;have HGT:=Lib.hid hgT;have H7:=Lib.hid hw7;have HZ7:=Lib.hid hz7;clear hw7 hz7 hA0 hgT hown hg6 b56 b67 b25 B5 hfw
 go_upto_region 5 with fail
 rw [<- HGT.out,<- HA0.out,<- H7.out];have q70:=(kQ.below b27).bx 0 _ rfl;have q71:=(kQ.below b27).bx 1 _ rfl
 go_wp2_with fail
 refine(iConnectedMasks_c _ q w7 ((rQuery_ok NB).keep hq (cells_below B7)) HVQ.out).mono ?_;rintro e w8 ⟨Am,nm,cm,rfl,mM,hb8⟩;have hnm:(connMasks q).length=nm:=mM.len;have hnm15:nm<=15:=by have:=connMasks_len q;omega
 have b28:=b27.trans (hb8.mono b27.size);have hgw:w.heap.size+2<=gT:=by have:=HGT.out;have:=HS2.out;omega
 have T0:TbI w csm [.int .i64 q.fVariableCount,.slice AA nA cA] md q s gT f Am nm cm 0 A0 0 0 w8:=by
  refine⟨bb.trans (b28.mono bb.size),kM.below b28,kQ.below b28,by rw [List.take_zero];exact out0.below (rPlanEntry_ok NB) hb8,MS.rkStep tab0 (hb8.block gT (by have:=HZ7.out;omega)) (fun V hV=>(OutS.bel hb8).trans hV),fun V hV=>?_,hgw⟩;refine(mM.outS rInt_ok (S:=Sd A0 gT) (fun z hz e=>?_) hV).rs rInt_ok;have:=HZ7.out;exact e.elim (fun e=>by rw [HA0.out]at e;simp [blk]at e;omega) (fun e=>by omega)
 clear mM tab0 out0 q70 q71 hb8 b27 b28 B7 H7 kM kQ bb g56 HS2 hw5
 go_wp2_with fail
 go_loopw [8,40] (fun ov iv wr=>∃ (k n c:Nat) (A:Option Addr),k<=nm/\n<=5*k/\iv=.int .i64 (k:Int)/\ov=.slice A n c/\TbI w csm [.int .i64 q.fVariableCount,.slice AA nA cA] md q s gT f Am nm cm k A n c wr) (fun _ iv _=>nm - (intOf iv).toNat)
 case atStart=>exact⟨0,0,0,A0,by omega,by omega,rfl,rfl,T0⟩
 case round =>
  clear T0 HA0 HZ7 HGT;obtain⟨k,n,c,A,hk,hnk,rfl,rfl,T⟩:=hrel;obtain⟨U,hU⟩:∃ U,U=wr:=⟨_,rfl⟩;rw [<- hU]at T ⊢;clear hU;have BU:=T.be;have hTlt:=T.lt;by_cases hlt:k<nm
  ·have hmr:=T.ms U (OutS.refl _ U)
   obtain⟨bm,om,m,rfl,cmk,mI,hmk⟩:=hmr.ati hlt;have hmem:=connMasks_mem.1 (mem_of_at hmk.out);rw [HF.out]at hmem;obtain⟨mm,rfl⟩:∃ mm:Nat,m=(mm:Int):=⟨m.toNat,by have:=hmem.1.1;omega⟩;have hm1:1<=mm:=by have:=hmem.1.1;omega
   have hmf:mm<=f:=by have:=hmem.1.2;omega
   have hkI:(k:Int)<nm:=by omega
   have HMK:=Lib.hid hmk.out;clear hmem hmr hmk;have m0:=T.kM.rangeAt;have q0:=T.kQ.bx 0 _ rfl;have q1:=T.kQ.bx 1 _ rfl;obtain⟨co,hco⟩:∃ co,co=ofC csm [.int .i64 q.fVariableCount,.slice AA nA cA] As ns cc (mm:Int) (List.replicate 5 [.int .i64 0,.int .i64 0,.int .i64 0,.slice none 0 0]) (List.replicate 5 zPlanEntry):=⟨_,rfl⟩;have HBd:(Instr.build 226 #[(0,.agg csm.toArray),(1,.agg #[.int .i64 q.fVariableCount,.slice AA nA cA]),(2,.slice As ns cc),(3,.int .i64 (mm:Int))]).run Tryz.prog U=.ok (.agg co.toArray) U:=by rw [hco];exact build_of lenm _ _ As ns cc _ U
   have O1:Ofs csm [.int .i64 q.fVariableCount,.slice AA nA cA] As ns cc (mm:Int) U.heap.size U.heap.size (List.replicate 5 zPlanEntry) (U.alloc (.cells co.toArray 226)):=by rw [hco];exact Ofs.new U
   have HBD:=Lib.hid HBd;clear hco HBd
   go_upto_region 9 with (first|(refine wpList_load_mid rfl 46 _ rfl w.heap.size 0 rfl csm _ m0 Tryz.underlying46 rfl (by rw [lenm];exact sizeModelT) ?_)|(refine wpList_build4 rfl 226 (.tmp 44) (.tmp 45) (.tmp 46) (.tmp 47) rfl HBD.out rfl rfl rfl rfl ?_))
   obtain⟨V1,hV1⟩:∃ V,V=U.alloc (.cells co.toArray 226):=⟨_,rfl⟩;have b1:Below U.heap.size U V1:=by rw [hV1];exact bal
   have hs1:V1.heap.size=U.heap.size+1:=by rw [hV1];simp
   rw [<- hV1]at O1 ⊢;obtain⟨go,hgo⟩:∃ g,g=U.heap.size:=⟨_,rfl⟩;rw [<- hgo]at O1 ⊢;have HGO:=Lib.hid hgo;have HS1:=Lib.hid hs1;have O1:Ofs csm [.int .i64 q.fVariableCount,.slice AA nA cA] As ns cc (mm:Int) go go (List.replicate 5 zPlanEntry) V1:=O1;have hm15:(mm:Int)<16:=by omega
   clear hV1 HBD hgo hs1 cmk
   go_wp2_with fail
   refine(iMaskAtoms_c (mm:Int) V1 (by omega) hm15).mono ?_;rintro e V2 ⟨Aa,na,ca,rfl,mA,hb2⟩;have hna:(listV (mm:Int) 4).length=na:=mA.len;have hsg:=atoms_one ⟨mm,by omega⟩ (by simp only;omega);simp only at hsg;rw [hna]at hsg;have rA:=mA.rs rInt_ok;have b2:=b1.trans (hb2.mono b1.size);have O2:=O1.below hb2;have HSG:=Lib.hid hsg;have hm0:0<=(mm:Int):=by omega
   clear hsg hna O1 hb2;have hgU:U.heap.size<=go:=Nat.le_of_eq HGO.out.symm;have hmI:I64 (mm:Int):=⟨by omega,by omega⟩;have hmf2:(mm:Int)<=fullMask q:=by rw [HF.out];omega
   have hA3:∀ z∈blk Aa,z≠go:=fun z hz e=>by have:=mA.gek z hz;have:=HS1.out;have:=HGO.out;omega
   clear mA;cases hs1:single (mm:Int)
   ·have hna1:¬ na=1:=by have:=HSG.out;rw [hs1]at this;simpa using this.symm
    have hnb1:((na:Int)==1)=false:=by simp;omega
    have hst:startI md q s (mm:Int)=List.replicate 5 zPlanEntry:=by unfold startI;rw [hs1];rfl
    rw [<- hst]at O2;clear hs1 hst hna1
    go_upto_region 12 with fail
    obtain⟨VX,hVX⟩:∃ V,V=V2:=⟨_,rfl⟩;rw [<- hVX]at O2 b2 ⊢;clear hVX hnb1;have q20:=(T.kQ.below b2).bx 0 _ rfl;have q21:=(T.kQ.below b2).bx 1 _ rfl;have hg2:go<VX.heap.size:=O2.lt;clear HSG m0 q0 q1
    go_wp2_with fail
    refine(iJoinSplits_c _ q (mm:Int) VX ((rQuery_ok NB).keep hq (cells_below (BU.trans (b2.mono BU.size)))) (by omega)).mono ?_;rintro e V3 ⟨Ap,nsp,csp,rfl,mP,hb3⟩;have hnsp:(splits q (mm:Int)).length=nsp:=mP.len;have hbP:=(mP.rs rInt_ok).bound;have b3:=b2.trans (hb3.mono b2.size);have O3:=O2.below hb3;have hcon:=(tabI_len (md:=md) HSZ.out HVQ.out HUP.out (k:=k) (by omega));obtain⟨TT,hTT⟩:∃ TT:Int->List PlanEntryD,TT=fun m=>(tabOf md q s ((connMasks q).take k)).filter (onMask m):=⟨_,rfl⟩;have HTT:=Lib.hid hTT;have hlenT:∀ m,∀ x∈TT m,x.fPlan.fSteps.length<=13/\-1<=x.fOrder/\x.fOrder<=3:=fun m x hx=>hcon x (by rw [hTT]at hx;exact(List.mem_filter.1 hx).1)
    have O3':Ofs csm [.int .i64 q.fVariableCount,.slice AA nA cA] As ns cc (mm:Int) go go (mineI md q s TT (mm:Int) ((shapeOf q (mm:Int)).take 0) (startI md q s (mm:Int))) V3:=O3;clear hcon hTT O2 O3 q20 q21 hb3 b2
    go_wp2_with fail
    go_loopw [75] (fun iv W=>∃ (t:Nat),t<=nsp/\iv=.int .i64 (t:Int)/\Chg [go] V3 W/\Ofs csm [.int .i64 q.fVariableCount,.slice AA nA cA] As ns cc (mm:Int) go go (mineI md q s TT (mm:Int) ((shapeOf q (mm:Int)).take t) (startI md q s (mm:Int))) W) (fun iv _=>nsp - (intOf iv).toNat)
    case atStart=>exact⟨0,by omega,rfl,Chg.refl _ _,O3'⟩
    case round =>
     clear O3';obtain⟨t,ht,rfl,hch,hO⟩:=hrel;obtain⟨R,hR⟩:∃ R,R=wr:=⟨_,rfl⟩;rw [<- hR]at hch hO ⊢;clear hR;have BR:=chg_be hgU b3 hch;by_cases htl:t<nsp
     ·have rS:=(mP.outS rInt_ok (S:=fun z=>z=go) (fun z hz e=>by omega) (OutS.chg hch (fun z hz=>List.mem_singleton.1 hz))).rs rInt_ok
      obtain⟨bs,os,x,rfl,cx,xI,hx⟩:=rS.ati htl;have hsx:(shapeOf q (mm:Int))[t]?=some (x,sharedL q x ((mm:Int) - x)):=by unfold shapeOf;rw [List.getElem?_map,hx.out];rfl
      obtain⟨lf,rt,hSp⟩:=shape_R (md:=md) (s:=s) HVQ.out HMK.out (by omega) _ (mem_of_at hsx);obtain⟨⟨e1,e2,sd,⟨a0,hb1⟩,⟨b0,hb2⟩,hvs⟩,_,_⟩:=hSp;simp only at e1 e2 hvs;subst e1;rw [e2]at hsx hvs;obtain⟨p1,p2,hsum,hor,hlt16⟩:=sd;have hlf:lf<=f:=by omega
      have hrt:rt<=f:=by omega
      have hAN:bits .andNot .i64 (mm:Int) (lf:Int)=(rt:Int):=by
       have:=andNot_side ⟨lf,by omega⟩ ⟨rt,by omega⟩ (by simp only;omega) (by simp only;omega);simp only at this
       rwa [show((lf+rt:Nat):Int)=(mm:Int) by omega]at this
      obtain⟨AL,nL,cL,tL,rL⟩:=T.row hlf;obtain⟨AR,nR,cR,tR,rR⟩:=T.row hrt;have hTL:TT (lf:Int)=(tabOf md q s ((connMasks q).take k)).filter (onMask (lf:Int)):=by rw [HTT.out]
      have hTR:TT (rt:Int)=(tabOf md q s ((connMasks q).take k)).filter (onMask (rt:Int)):=by rw [HTT.out]
      rw [<- hTL]at rL;rw [<- hTR]at rR;have hbL:=rL.bound
      have hnL:0<nL:=by
       rw [<- rL.len,hTL];obtain⟨g1,g2⟩:=bestE_mem hb1;exact List.length_pos_of_mem (List.mem_filter.2 ⟨g1,decide_eq_true g2⟩)
      have hnR:0<nR:=by
       rw [<- rR.len,hTR];obtain⟨g1,g2⟩:=bestE_mem hb2;exact List.length_pos_of_mem (List.mem_filter.2 ⟨g1,decide_eq_true g2⟩)
      have hMS:=mineI_snoc (md:=md) (q:=q) (s:=s) (T:=TT) (mk:=(mm:Int)) (L:=startI md q s (mm:Int)) hsx;simp only at hMS;rw [e2]at hMS;have HMS:=Lib.hid hMS;have tLR:=cells_below BR _ _ tL;have tRR:=cells_below BR _ _ tR;have hlfI:(lf:Int)<((f+1:Nat):Int):=by omega
      have hrtI:(rt:Int)<((f+1:Nat):Int):=by omega
      have hlfN:lf<f+1:=by omega
      have hrtN:rt<f+1:=by omega
      have htI:(t:Int)<nsp:=by omega
      have HVS:=Lib.hid hvs;have HSum:=Lib.hid hsum;clear hMS hTL hTR tL tR hb1 hb2 hsx hx rS e2 hor hvs hsum;have HFd:=field_plan
      go_upto_region 15 with fail
      go_quiet (fail)
      go_wp2_with fail
      refine(iBestOfU_c AR nR cR _ U _ (below_drewN BR _) rR hnR).mono ?_;rintro e Y ⟨y,AY,nY,cY,rfl,hy,rY,_,_,_,hbY⟩;have hyL:=(hlenT _ y (bestL_mem hy)).1;have HY:=Lib.hid hy;have bY:Below R.heap.size R Y:=(below_drewN (Below.refl R.heap.size R) _).trans hbY;obtain⟨Y2,hY2⟩:∃ W,W=Y.alloc (.cells #[.slice AY nY cY] 76):=⟨_,rfl⟩;have bY2:Below Y.heap.size Y Y2:=by rw [hY2];exact bal
      obtain⟨gy,hgy⟩:∃ g,g=Y.heap.size:=⟨_,rfl⟩;have kY2:Bk Y2 gy 76 [.slice AY nY cY]:=by rw [hY2,hgy];exact Bk.new Y _ _
      have bRY:=bY.trans (bY2.mono bY.size);have OY2:=hO.below bRY;have BY2:=BR.trans (bRY.mono BR.size);have hgo1:go<R.heap.size:=hO.lt;have hne:gy≠go:=by rw [hgy];have:=bY.size;omega
      have cY2:=hch.trans (Chg.ofBelow bRY [go]);have HY2:=Lib.hid hY2;have HGY:=Lib.hid hgy;clear hY2 hgy hy bY bY2 hbY bRY hO hch tLR tRR
      go_upto_region 17 with fail
      rw [<- HY2.out,<- HGY.out];clear HY2 HGY
      have HSY:Hid (∀ w':World,Chg [go] Y2 w'->w'.cell? ⟨gy,0,none⟩=some (.slice AY nY cY)/\w'.cell? ⟨gy,0,none⟩=some (.slice AY nY cY)):=by
       show ∀ w':World,_->_;intro w' h;rw [h.cell (p:=⟨gy,0,none⟩) kY2.lt (by simpa using hne)];exact⟨kY2.bx 0 _ rfl,kY2.bx 0 _ rfl⟩
      have hd0:Chg [go] Y2 Y2.drew:=Chg.ofBelow (Below.refl _ _).drew _;have hmp:(mm:Int)=(mm:Int):=rfl;refine hbg HSY.out hd0 (fun hH=>?_);refine tq2 0 hH ?_;refine tq1 4 hH ?_;simp only [putS];refine rd 2 (some 94) fun K hK=>?_;clear hH;go_simp;refine(iBestOfU_c AL nL cL _ U _ (chg_be hgU BY2 hd0) rL hnL).mono ?_;rintro e Z1 ⟨a,Aa1,na1,ca1,rfl,ha,rYa,_,_,_,hbz1⟩;have hC1:Chg [go] Y2 Z1:=hd0.trans (Chg.ofBelow hbz1 _)
      go_wp2_with fail
      refine hK.out _ _ (HSY.out _ hC1) (fun hH=>?_);clear hK K
      try simp only [putS]
      have haL:=(hlenT _ a (bestL_mem ha)).1;have BZ1:=chg_be hgU BY2 hC1;refine tq1 3 hH ?_;simp only [putS];refine rd 5 (some 97) fun K hK=>?_;clear hH;go_simp;refine(iJoinPlans_c _ a.fPlan _ y.fPlan 3 0 _ (rPlan_rep.2 ⟨Aa1,na1,ca1,rfl,rYa.below (rPlanStep_ok NB) BZ1⟩) (rPlan_rep.2 ⟨AY,nY,cY,rfl,rY.below (rPlanStep_ok NB) BZ1⟩) (by unfold I64;simp) I64_zero (by omega) (by omega)).mono ?_;rintro e Z2 ⟨cs2,fp2,rfl,oX2,fX2,hbz2⟩;obtain⟨Aj,nj,cj,_,rfl,rfl,oj2⟩:=rPlan_own.1 oX2;have hC2:Chg [go] Y2 Z2:=hC1.trans (Chg.ofBelow hbz2 _)
      go_wp2_with fail
      refine hK.out _ _ (HSY.out _ hC2) (fun hH=>?_);clear hK K
      try simp only [putS]
      have BZ2:=chg_be hgU BY2 hC2;have OZ2:=(OY2.below (Below.refl _ _).drew).below (hbz1.trans (hbz2.mono hbz1.size));have hsz2:go<Z1.heap.size:=Nat.lt_of_lt_of_le OY2.lt hbz1.size;have hS2:StS (rPlan NB) (fun z=>z=go\/z<go) Z2 [.slice Aj nj cj] (joinedP a.fPlan y.fPlan 3 0):=StS.ofOwn (rPlan_ok NB) (rPlan_own.2 ⟨Aj,nj,cj,_,rfl,rfl,oj2⟩) (fun z hz e=>by have:=fX2.ge z hz;omega);refine rd 6 (some 98) fun K hK=>?_;clear hH;go_simp;refine(iOffer_c csm md _ q As ns cc s (mm:Int) go go _ Aj nj cj (joinedP a.fPlan y.fPlan 3 0) 0 (-1) Z2 ((rModel_ok NB).keep hm (cells_below (BU.trans (BZ2.mono BU.size)))) ((rQuery_ok NB).keep hq (cells_below (BU.trans (BZ2.mono BU.size)))) (hs.below rInt_ok (BU.trans (BZ2.mono BU.size))) OZ2 hS2 (by omega) (by omega) (by omega) hmI).mono ?_
      rintro e Z3 ⟨rfl,OZ3,hcz3⟩;have hC3:Chg [go] Y2 Z3:=hC2.trans hcz3
      go_wp2_with fail
      refine hK.out _ _ (HSY.out _ hC3) (fun hH=>?_);clear hK K
      try simp only [putS]
      refine wpAnyH_done (by kernel_rfl) ?_ _;clear hH;have cZ3:=cY2.trans hC3;have yZ3:=(HSY.out Z3 hC3).1;have hgyZ:gy<Z3.heap.size:=Nat.lt_of_lt_of_le kY2.lt hC3.size;have HA:=Lib.hid ha;clear HSY hd0 hC1 hC2 hcz3 hbz1 hbz2 OZ2 hS2 oX2 fX2 oj2 OY2 BZ1 BZ2 ha rYa hsz2 hmp kY2 cY2;obtain⟨L1,hL1⟩:∃ L1,L1=offerI md q s (mm:Int) (mineI md q s TT (mm:Int) ((shapeOf q (mm:Int)).take t) (startI md q s (mm:Int))) (joinedP a.fPlan y.fPlan 3 0) 0:=⟨_,rfl⟩;rw [<- hL1]at OZ3;have HL1:=Lib.hid hL1;have BZ3:=chg_be hgU b3 cZ3;have hR3:Ofs csm [.int .i64 q.fVariableCount,.slice AA nA cA] As ns cc (mm:Int) go go (nestI md q s (mm:Int) ((TT (lf:Int)).take 0) y.fPlan L1) Z3:=OZ3
      clear hL1 hC3 OZ3
      go_wp2_with fail
      go_loopw [101] (fun iv W=>∃ (u:Nat),u<=nL/\iv=.int .i64 (u:Int)/\Chg [go] Z3 W/\Ofs csm [.int .i64 q.fVariableCount,.slice AA nA cA] As ns cc (mm:Int) go go (nestI md q s (mm:Int) ((TT (lf:Int)).take u) y.fPlan L1) W) (fun iv _=>nL - (intOf iv).toNat)
      case atStart=>exact⟨0,by omega,rfl,Chg.refl _ _,hR3⟩
      case round =>
       clear hR3;obtain⟨u,hu,rfl,hch3,hO3⟩:=hrel;obtain⟨R3,hR3⟩:∃ R,R=wr:=⟨_,rfl⟩;rw [<- hR3]at hch3 hO3 ⊢;clear hR3;have BR3:=chg_be hgU BZ3 hch3;have yR3:R3.cell? ⟨gy,0,none⟩=some (.slice AY nY cY):=by rw [hch3.cell (p:=⟨gy,0,none⟩) hgyZ (by simpa using hne)];exact yZ3
       by_cases hul:u<nL
       ·obtain⟨be,oe,x3,AE,nE,cE,rfl,c0,c1,c2,c3,i1,i2,i3,rE,hx3⟩:=rL.ePlanEntry hul
        replace c0:=cells_below BR3 _ _ c0;replace c1:=cells_below BR3 _ _ c1;replace c2:=cells_below BR3 _ _ c2;replace c3:=cells_below BR3 _ _ c3;obtain⟨h3l,h3a,h3b⟩:=hlenT _ x3 (mem_of_at hx3.out);have HN3:=Lib.hid (nestI_snoc (md:=md) (q:=q) (s:=s) (mk:=(mm:Int)) (y:=y.fPlan) (L:=L1) hx3.out);obtain⟨R4,hR4⟩:∃ W,W=R3.alloc (.cells #[.int .i64 x3.fMask,.int .i64 x3.fOrder,.int .i64 x3.fCost,.slice AE nE cE] 107):=⟨_,rfl⟩;have b34:Below R3.heap.size R3 R4:=by rw [hR4];exact bal
        obtain⟨gE,hgE⟩:∃ g,g=R3.heap.size:=⟨_,rfl⟩;have kE:Bk R4 gE 107 [.int .i64 x3.fMask,.int .i64 x3.fOrder,.int .i64 x3.fCost,.slice AE nE cE]:=by rw [hR4,hgE];exact Bk.new R3 _ _
        have hneE:gE≠go:=by rw [hgE];have:=hO3.lt;omega
        have O4:=hO3.below b34;have BR4:=BR3.trans (b34.mono BR3.size);have yR4:=cells_below b34 _ _ yR3;have hgyR:gy<R4.heap.size:=Nat.lt_of_lt_of_le hgyZ (Nat.le_trans hch3.size b34.size);have c34:=hch3.trans (Chg.ofBelow b34 [go]);have HR4:=Lib.hid hR4;have HGE:=Lib.hid hgE;have huI:(u:Int)<nL:=by omega
        have h3k:(x3.fOrder+1).toNat<5:=by omega
        have h3o:x3.fOrder=(((x3.fOrder+1).toNat:Nat):Int) - 1:=by omega
        have H3K:=Lib.hid (And.intro h3k h3o)
        have HSE:Hid (∀ w':World,Chg [go] R4 w'->w'.cell? ⟨gy,0,none⟩=some (.slice AY nY cY)/\w'.cell? ⟨gE,3,none⟩=some (.slice AE nE cE)/\w'.cell? ⟨gE,1,none⟩=some (.int .i64 x3.fOrder)):=by
         show ∀ w':World,_->_;intro w' h;rw [h.cell (p:=⟨gy,0,none⟩) hgyR (by simpa using hne),h.cell (p:=⟨gE,3,none⟩) kE.lt (by simpa using hneE),h.cell (p:=⟨gE,1,none⟩) kE.lt (by simpa using hneE)];exact⟨yR4,kE.bx 3 _ rfl,kE.bx 1 _ rfl⟩
        have hd3:Chg [go] R4 R4.drew:=Chg.ofBelow (Below.refl _ _).drew _;clear hR4 hgE b34 hO3 hch3 yR3 h3k h3o h3a h3b hx3 hgyR
        go_upto_region 21 with fail
        rw [<- HR4.out,<- HGE.out];clear HR4 HGE c0 c1 c2 c3;refine hbg HSE.out hd3 (fun hH=>?_);refine tq4 0 hH ?_;simp only [putS];refine tq2 5 hH ?_;simp only [putS];have BR5:=chg_be hgU BR4 hd3;refine rd 4 (some 109) fun K hK=>?_;clear hH;go_simp;refine(iJoinPlans_c _ x3.fPlan _ y.fPlan 5 0 _ (rPlan_rep.2 ⟨AE,nE,cE,rfl,rE.below (rPlanStep_ok NB) BR5⟩) (rPlan_rep.2 ⟨AY,nY,cY,rfl,rY.below (rPlanStep_ok NB) BR5⟩) (by unfold I64;simp) I64_zero (by omega) (by omega)).mono ?_;rintro e S1 ⟨cs5,fp5,rfl,oX5,fX5,hbs1⟩;obtain⟨Aj5,nj5,cj5,_,rfl,rfl,oj5⟩:=rPlan_own.1 oX5;have hE1:Chg [go] R4 S1:=hd3.trans (Chg.ofBelow hbs1 _)
        go_wp2_with fail
        refine hK.out _ _ (HSE.out _ hE1) (fun hH=>?_);clear hK K
        try simp only [putS]
        have BS1:=chg_be hgU BR4 hE1;have OS1:=(O4.below (Below.refl _ _).drew).below hbs1;have hsz5:go<R4.heap.size:=O4.lt;have hS5:StS (rPlan NB) (fun z=>z=go\/z<go) S1 [.slice Aj5 nj5 cj5] (joinedP x3.fPlan y.fPlan 5 0):=StS.ofOwn (rPlan_ok NB) (rPlan_own.2 ⟨Aj5,nj5,cj5,_,rfl,rfl,oj5⟩) (fun z hz e=>by have:=fX5.ge z hz;have h6:R4.heap.size<=z:=this;omega);refine rd 7 (some 112) fun K hK=>?_;clear hH;go_simp;refine(iOffer_c csm md _ q As ns cc s (mm:Int) go go _ Aj5 nj5 cj5 (joinedP x3.fPlan y.fPlan 5 0) (x3.fOrder+1).toNat x3.fOrder S1 ((rModel_ok NB).keep hm (cells_below (BU.trans (BS1.mono BU.size)))) ((rQuery_ok NB).keep hq (cells_below (BU.trans (BS1.mono BU.size)))) (hs.below rInt_ok (BU.trans (BS1.mono BU.size))) OS1 hS5 H3K.out.1 H3K.out.2 (by omega) hmI).mono ?_
        rintro e S2 ⟨rfl,OS2,hcs2⟩;have hE2:Chg [go] R4 S2:=hE1.trans hcs2
        go_wp2_with fail
        refine hK.out _ _ (HSE.out _ hE2) (fun hH=>?_);clear hK K
        try simp only [putS]
        refine wpAnyH_done (by kernel_rfl) ?_ _;clear hH;have hE3:=c34.trans hE2;have OS2':Ofs csm [.int .i64 q.fVariableCount,.slice AA nA cA] As ns cc (mm:Int) go go (nestI md q s (mm:Int) ((TT (lf:Int)).take (u+1)) y.fPlan L1) S2:=by rw [HN3.out];exact OS2
        clear HSE hd3 hE1 hE2 hcs2 hbs1 OS1 hS5 oX5 fX5 oj5 O4 BR4 BR5 BS1 yR4 kE OS2 HN3 c34;go_wp2;go_roundw
        case rel=>exact⟨u+1,by omega,by go_num,hE3,OS2'⟩
        case measure=>simp [intOf];omega
       ·have hT3:(TT (lf:Int)).take u=TT (lf:Int):=List.take_of_length_le (by rw [rL.len];omega)
        rw [hT3]at hO3;obtain⟨L2,hL2⟩:∃ L2,L2=nestI md q s (mm:Int) (TT (lf:Int)) y.fPlan L1:=⟨_,rfl⟩;rw [<- hL2]at hO3;have HL2:=Lib.hid hL2;have cR3:=cZ3.trans hch3;have qk:=(T.kQ.below BR3).bx;have qr0:=qk 0 _ rfl;have qr1:=qk 1 _ rfl;clear hL2 hT3 qk yR3 hch3
        go_wp2_with fail
        refine(iSharedVariables_c _ q (lf:Int) (rt:Int) R3 ((rQuery_ok NB).keep hq (cells_below (BU.trans (BR3.mono BU.size))))).mono ?_;rintro e Z5 ⟨Av,nv,cv,rfl,mV,hb5⟩;have c35:=cR3.trans (Chg.ofBelow hb5 [go]);have BZ5:=chg_be hgU b3 c35;have hgR:go<R3.heap.size:=hO3.lt;have hR5:Ofs csm [.int .i64 q.fVariableCount,.slice AA nA cA] As ns cc (mm:Int) go go (mergeI md q s (mm:Int) (TT (lf:Int)) (TT (rt:Int)) ((sharedL q (lf:Int) (rt:Int)).take 0) L2) Z5:=hO3.below hb5;have hnv:(sharedL q (lf:Int) (rt:Int)).length=nv:=mV.len;clear hO3 hb5 qr0 qr1 cR3;have hbV:=(mV.rs rInt_ok).bound
        go_wp2_with fail
        go_loopw [121] (fun iv W=>∃ (u:Nat),u<=nv/\iv=.int .i64 (u:Int)/\Chg [go] Z5 W/\Ofs csm [.int .i64 q.fVariableCount,.slice AA nA cA] As ns cc (mm:Int) go go (mergeI md q s (mm:Int) (TT (lf:Int)) (TT (rt:Int)) ((sharedL q (lf:Int) (rt:Int)).take u) L2) W) (fun iv _=>nv - (intOf iv).toNat)
        case atStart=>exact⟨0,by omega,rfl,Chg.refl _ _,hR5⟩
        case round =>
         clear hR5;obtain⟨u5,hu5,rfl,hch5,hO5⟩:=hrel;obtain⟨R5,hR5⟩:∃ R,R=wr:=⟨_,rfl⟩;rw [<- hR5]at hch5 hO5 ⊢;clear hR5;have BR5:=chg_be hgU BZ5 hch5;by_cases hul:u5<nv
         ·have rV5:=(mV.outS rInt_ok (S:=fun z=>z=go) (fun z hz e=>by omega) (OutS.chg hch5 (fun z hz=>List.mem_singleton.1 hz))).rs rInt_ok
          obtain⟨bv,ov,v,rfl,cv5,vI,hv5⟩:=rV5.ati hul;obtain⟨v0,v3⟩:=HVS.out v (mem_of_at hv5.out);have HN5:=Lib.hid (mergeI_snoc (md:=md) (q:=q) (s:=s) (mk:=(mm:Int)) (G:=TT (lf:Int)) (H:=TT (rt:Int)) (L:=L2) hv5.out);have huI:(u5:Int)<nv:=by omega
          have HVK:Hid ((v+1).toNat<5/\v=(((v+1).toNat:Nat):Int) - 1):=by show _/\_;exact⟨by omega,by omega⟩
          have HSM:Hid (∀ w':World,Chg [go] R5 w'->w'.rangeAt w.heap.size 0 csm/\w'.cell? ⟨w.heap.size+1,0,none⟩=some (.int .i64 q.fVariableCount)/\w'.cell? ⟨w.heap.size+1,1,none⟩=some (.slice AA nA cA)):=by
           show ∀ w':World,_->_;intro w' h;have hb:=chg_be hgU BR5 h;have kq:=(T.kQ.below hb).bx;exact⟨(T.kM.below hb).rangeAt,kq 0 _ rfl,kq 1 _ rfl⟩
          have hd5:Chg [go] R5 R5.drew:=Chg.ofBelow (Below.refl _ _).drew _;have hlG:∀ x∈TT (lf:Int),x.fPlan.fSteps.length<=90:=fun x hx=>by have:=(hlenT _ x hx).1;omega
          have hlH:∀ x∈TT (rt:Int),x.fPlan.fSteps.length<=90:=fun x hx=>by have:=(hlenT _ x hx).1;omega
          have HLG:=Lib.hid (inputI_len (md:=md) (q:=q) (s:=s) (v:=v) (fun x hx=>(hlenT (lf:Int) x hx).1));have HLH:=Lib.hid (inputI_len (md:=md) (q:=q) (s:=s) (v:=v) (fun x hx=>(hlenT (rt:Int) x hx).1));clear rV5 hv5 v0 v3
          go_upto_region 26 with fail
          clear cv5;refine hbg HSM.out hd5 (fun hH=>?_);refine tq1 0 hH ?_;refine ldm 1 126 (fun w h=>h.1) Tryz.underlying46 (by rw [lenm];exact sizeModelT) hH ?_;simp only [putS];refine tq4 2 hH ?_;simp only [putS];refine ldm 7 132 (fun w h=>h.1) Tryz.underlying46 (by rw [lenm];exact sizeModelT) hH ?_;simp only [putS];refine tq4 8 hH ?_;simp only [putS];refine tq1 13 hH ?_;refine tq1 15 hH ?_;simp only [putS];have BD:=chg_be hgU BR5 hd5;refine rd 6 (some 131) fun K hK=>?_;clear hH;go_simp;refine(iInputFor_c csm md _ q As ns cc s AL nL cL (TT (lf:Int)) v _ ((rModel_ok NB).keep hm (cells_below (BU.trans (BD.mono BU.size)))) ((rQuery_ok NB).keep hq (cells_below (BU.trans (BD.mono BU.size)))) (hs.below rInt_ok (BU.trans (BD.mono BU.size))) (rL.below (rPlanEntry_ok NB) BD) hnL vI hlG).mono ?_
          rintro e M1 ⟨A1,n1,c1,rfl,rM1,hbm1⟩;have hM1:Chg [go] R5 M1:=hd5.trans (Chg.ofBelow hbm1 _)
          go_wp2_with fail
          refine hK.out _ _ (HSM.out _ hM1) (fun hH=>?_);clear hK K
          try simp only [putS]
          have BM1:=chg_be hgU BR5 hM1;refine rd 12 (some 137) fun K hK=>?_;clear hH;go_simp;refine(iInputFor_c csm md _ q As ns cc s AR nR cR (TT (rt:Int)) v _ ((rModel_ok NB).keep hm (cells_below (BU.trans (BM1.mono BU.size)))) ((rQuery_ok NB).keep hq (cells_below (BU.trans (BM1.mono BU.size)))) (hs.below rInt_ok (BU.trans (BM1.mono BU.size))) (rR.below (rPlanEntry_ok NB) BM1) hnR vI hlH).mono ?_;rintro e M2 ⟨A2,n2,c2,rfl,rM2,hbm2⟩;have hM2:Chg [go] R5 M2:=hM1.trans (Chg.ofBelow hbm2 _)
          go_wp2_with fail
          refine hK.out _ _ (HSM.out _ hM2) (fun hH=>?_);clear hK K
          try simp only [putS]
          refine rd 14 (some 139) fun K hK=>?_;clear hH;go_simp;refine(iJoinPlans_c _ (inputI md q s (TT (lf:Int)) v) _ (inputI md q s (TT (rt:Int)) v) 4 v _ (rPlan_rep.2 ⟨A1,n1,c1,rfl,rM1.below (rPlanStep_ok NB) hbm2⟩) (rPlan_rep.2 ⟨A2,n2,c2,rfl,rM2⟩) (by unfold I64;simp) vI (by have:=HLG.out;omega) (by have:=HLH.out;omega)).mono ?_;rintro e M3 ⟨cs6,fp6,rfl,oX6,fX6,hbm3⟩;obtain⟨Aj6,nj6,cj6,_,rfl,rfl,oj6⟩:=rPlan_own.1 oX6;have hM3:Chg [go] R5 M3:=hM2.trans (Chg.ofBelow hbm3 _)
          go_wp2_with fail
          refine hK.out _ _ (HSM.out _ hM3) (fun hH=>?_);clear hK K
          try simp only [putS]
          have BM3:=chg_be hgU BR5 hM3;have OM3:=(((hO5.below (Below.refl _ _).drew).below hbm1).below hbm2).below hbm3;have hsz6:go<M2.heap.size:=Nat.lt_of_lt_of_le hO5.lt (Nat.le_trans hbm1.size hbm2.size);have hS6:StS (rPlan NB) (fun z=>z=go\/z<go) M3 [.slice Aj6 nj6 cj6] (joinedP (inputI md q s (TT (lf:Int)) v) (inputI md q s (TT (rt:Int)) v) 4 v):=StS.ofOwn (rPlan_ok NB) (rPlan_own.2 ⟨Aj6,nj6,cj6,_,rfl,rfl,oj6⟩) (fun z hz e=>by have:=fX6.ge z hz;omega);refine rd 16 (some 141) fun K hK=>?_;clear hH;go_simp;refine(iOffer_c csm md _ q As ns cc s (mm:Int) go go _ Aj6 nj6 cj6 (joinedP (inputI md q s (TT (lf:Int)) v) (inputI md q s (TT (rt:Int)) v) 4 v) (v+1).toNat v M3 ((rModel_ok NB).keep hm (cells_below (BU.trans (BM3.mono BU.size)))) ((rQuery_ok NB).keep hq (cells_below (BU.trans (BM3.mono BU.size)))) (hs.below rInt_ok (BU.trans (BM3.mono BU.size))) OM3 hS6 HVK.out.1 HVK.out.2 (by omega) hmI).mono ?_
          rintro e M4 ⟨rfl,OM4,hcm4⟩;have hM4:Chg [go] R5 M4:=hM3.trans hcm4
          go_wp2_with fail
          refine hK.out _ _ (HSM.out _ hM4) (fun hH=>?_);clear hK K
          try simp only [putS]
          refine wpAnyH_done (by kernel_rfl) ?_ _;clear hH;have hE5:=hch5.trans hM4;have OM4':Ofs csm [.int .i64 q.fVariableCount,.slice AA nA cA] As ns cc (mm:Int) go go (mergeI md q s (mm:Int) (TT (lf:Int)) (TT (rt:Int)) ((sharedL q (lf:Int) (rt:Int)).take (u5+1)) L2) M4:=by rw [HN5.out];exact OM4
          clear HSM hd5 hM1 hM2 hM3 hM4 hcm4 hbm1 hbm2 hbm3 OM3 hS6 oX6 fX6 oj6 BD BM1 BM3 OM4 HN5 hO5 hch5 rM1 rM2;go_wp2;go_roundw
          case rel=>exact⟨u5+1,by omega,by go_num,hE5,OM4'⟩
          case measure=>simp [intOf];omega
         ·have hT5:(sharedL q (lf:Int) (rt:Int)).take u5=sharedL q (lf:Int) (rt:Int):=List.take_of_length_le (by omega)
          rw [hT5]at hO5;have hE6:=c35.trans hch5
          have hO6:Ofs csm [.int .i64 q.fVariableCount,.slice AA nA cA] As ns cc (mm:Int) go go (mineI md q s TT (mm:Int) ((shapeOf q (mm:Int)).take (t+1)) (startI md q s (mm:Int))) R5:=by
           rw [HMS.out];unfold splitI;rw [HA.out,HY.out];simp only;rw [<- HL1.out,<- HL2.out];exact hO5
          clear hT5 hO5 hch5;go_wp2;go_roundw
          case rel=>exact⟨t+1,by omega,by go_num,hE6,hO6⟩
          case measure=>simp [intOf];omega
     ·have hT2:(shapeOf q (mm:Int)).take t=shapeOf q (mm:Int):=List.take_of_length_le (by unfold shapeOf;rw [List.length_map];omega)
      rw [hT2]at hO;have hEnt:(mineI md q s TT (mm:Int) (shapeOf q (mm:Int)) (startI md q s (mm:Int))).filter some0=entAt md q s k (mm:Int):=by unfold entAt entI;rw [HTT.out]
      have HEnt:=Lib.hid hEnt;have hgR2:go<=R.heap.size:=Nat.le_of_lt hO.lt;obtain⟨_,_,_,tM,_⟩:=T.row hmf;have fU:=MS.frozen T.tab mm;have hmfN:mm<f+1:=by omega
      have hmfI:(mm:Int)<((f+1:Nat):Int):=by omega
      clear hEnt hT2
      go_wp2_with fail
      refine(iEntries_c csm _ As ns cc (mm:Int) go go _ R lenm rfl hO hgR2).mono ?_;rintro e V6 ⟨A9,n9,c9,rfl,P9,hb9,hg9,hn9⟩;have bU6:=BR.trans (hb9.mono BR.size);rw [HEnt.out]at P9;have P9':PT (rPlanEntry NB) 107 U.heap.size A9 n9 c9 (entAt md q s k (mm:Int)) V6:=by rw [<- HGO.out];exact P9
      obtain⟨out7,ent7,tab7⟩:=T.store HSZ.out HVQ.out HUP.out bU6 HMK.out hmf P9';have t6:=cells_below bU6 _ _ tM;have f6:V6.frozen? ⟨gT,mm,none⟩=false:=by rw [bU6.frozen (p:=⟨gT,mm,none⟩) (by simp only;omega)];exact fU
      obtain⟨V7,hV7⟩:∃ V,V=V6.setCell ⟨gT,mm,none⟩ (.slice A9 n9 c9):=⟨_,rfl⟩;have c7:V7.cell? ⟨gT,mm,none⟩=some (.slice A9 n9 c9):=by rw [hV7];exact World.cell?_setCell_same _ _ _ t6
      have hl7:gT+1<=V7.heap.size:=by rw [hV7];have:=bU6.size;simp;omega
      rw [<- hV7]at out7 ent7 tab7;have H7:=Lib.hid hV7;have hAlt:=T.out.blt;clear hV7 P9 P9' hO hg9 hch fU tM
      go_upto_region 30 with fail
      rw [<- H7.out];clear t6 f6
      go_wp2_with (at_builtin;go_loud (refine wpList_appsK rfl _ _ 110 rfl _ 48 eiPlanEntry (rPlanEntry_ok NB) rfl out7 hl7 rfl ent7 hAlt hTlt (by unfold NB;omega) (by omega) ?_;intro A8 c8 V8 P8 h78 hg8 hA8))
      go_roundw
      case rel=>exact⟨k+1,n+n9,c8,A8,by omega,by omega,by go_num,rfl,T.next HSZ.out HVQ.out HUP.out bU6 HMK.out H7.out tab7 P8 h78 hg8 hA8⟩
      case measure=>simp [intOf];omega
   ·have hna1:na=1:=by have:=HSG.out;rw [hs1]at this;simpa using this.symm
    subst hna1;obtain⟨i,hi1,hi2,hi3,hi4⟩:=atom0_ok HVQ.out (m:=(mm:Int)) (by omega) hmf2 hs1;rw [hi1]at rA;obtain⟨ba,oa,i',rfl,ca0,iI,hia⟩:=rA.ati (k:=0) (by omega);obtain rfl:i'=(i:Int):=by have:=hia.out;simpa using this.symm
    rw [Nat.add_zero]at ca0;have hba:ba≠go:=hA3 ba (by simp [blk]);have hnx:=hAt.len;have hiA:i<nA:=by omega
    obtain⟨bA,oA,at',csA,rfl,hrepA,hcA,hxa⟩:=hAt.at_ (k:=i) (by omega);obtain⟨AV,nV,cV,rfl,hNm,hV⟩:=rAtom_rep.1 hrepA;have hap:=atomOk_parts ((validQ_parts HVQ.out).2.2.2.2.1 _ (mem_of_at hxa.out));have hV1:0<nV:=by have:=hV.len;have:=hap.2.1;omega
    obtain⟨bV,oV,v,rfl,cv,vI,hv0⟩:=hV.ati (k:=0) hV1;have hfv:firstVar q (i:Int)=v:=by unfold firstVar;rw [Int.toNat_natCast,hxa.out];simp [hv0.out]
    have hfb:=firstVar_bd HVQ.out (i:=(i:Int)) (by omega) (by omega);rw [hfv]at hfb;have hsp0:splits q (mm:Int)=[]:=by have:=single_shape (q:=q) hs1;unfold shapeOf at this;exact List.map_eq_nil_iff.1 this
    have hEnt0:Hid ((startI md q s (mm:Int)).filter some0=entAt md q s k (mm:Int)):=by show _=_;unfold entAt entI mineI;rw [single_shape hs1];rfl
    have HSP0:=Lib.hid hsp0;have hst:Hid (startI md q s (mm:Int)=offerI md q s (mm:Int) (List.replicate 5 zPlanEntry) ⟨[⟨1,(i:Int),0⟩]⟩ (v+1).toNat):=by show _=_;unfold startI;rw [if_pos hs1,hi2,hfv]
    rw [Nat.add_zero]at cv;have hcA1:w.cell? ⟨bA,oA+i*2+1,none⟩=some (.slice (some ⟨bV,oV,none⟩) nV cV):=hcA 1 _ rfl;have hiI:(i:Int)<nA:=by omega
    have hVK:Hid ((v+1).toNat<5/\v=(((v+1).toNat:Nat):Int) - 1):=by show _/\_;exact⟨by omega,by omega⟩
    have BV2:=BU.trans (b2.mono BU.size)
    have HSA:Hid (∀ w':World,Chg [go] V2 w'->w'.cell? ⟨ba,oa,none⟩=some (.int .i64 (i:Int))/\w'.cell? ⟨w.heap.size+1,1,none⟩=some (.slice (some ⟨bA,oA,none⟩) nA cA)/\w'.cell? ⟨bA,oA+i*2+1,none⟩=some (.slice (some ⟨bV,oV,none⟩) nV cV)/\w'.cell? ⟨bV,oV,none⟩=some (.int .i64 v)):=by
     show ∀ w':World,_->_;intro w' h;have hb:=chg_be hgU b2 h;have hw:=BU.trans (hb.mono BU.size);exact⟨(h.cell (p:=⟨ba,oa,none⟩) (World.block_lt_of_cell? _ _ ca0) (by simpa using hba)).trans ca0,(T.kQ.below hb).bx 1 _ rfl,cells_below hw _ _ hcA1,cells_below hw _ _ cv⟩
    have hdA:Chg [go] V2 V2.drew:=Chg.ofBelow (Below.refl _ _).drew _;have hV1I:(0:Int)<nV:=by omega
    clear hs1 hsp0 hap hNm hrepA hcA hxa hv0 hfv hfb hi1 hi2 hi4 hia hnx hV rA hcA1 cv ca0
    go_upto_region 11 with fail
    refine hbg HSA.out hdA (fun hH=>?_);refine tq4 0 hH ?_;simp only [putS];refine tq4 5 hH ?_;simp only [putS];refine tq4 9 hH ?_;simp only [putS];refine tq2 13 hH ?_;simp only [putS];refine rd 4 (some 59) fun K hK=>?_;clear hH;go_simp;refine(iScanPlan_c (i:Int) _ iI).mono ?_;rintro e M1 ⟨csP,fpP,rfl,oXP,fXP,hbp1⟩;obtain⟨Ajp,njp,cjp,_,rfl,rfl,ojp⟩:=rPlan_own.1 oXP;have hP1:Chg [go] V2 M1:=hdA.trans (Chg.ofBelow hbp1 _)
    go_wp2_with fail
    refine hK.out _ _ (HSA.out _ hP1) (fun hH=>?_);clear hK K
    try simp only [putS]
    have BM1:=chg_be hgU b2 hP1;have OM1:=(O2.below (Below.refl _ _).drew).below hbp1;have hszp:go<V2.heap.size:=O2.lt;have hSp:StS (rPlan NB) (fun z=>z=go\/z<go) M1 [.slice Ajp njp cjp] ⟨[⟨1,(i:Int),0⟩]⟩:=StS.ofOwn (rPlan_ok NB) (rPlan_own.2 ⟨Ajp,njp,cjp,_,rfl,rfl,ojp⟩) (fun z hz e=>by have:=fXP.ge z hz;have h6:V2.heap.size<=z:=this;omega);refine rd 15 (some 70) fun K hK=>?_;clear hH;go_simp;refine(iOffer_c csm md _ q As ns cc s (mm:Int) go go _ Ajp njp cjp ⟨[⟨1,(i:Int),0⟩]⟩ (v+1).toNat v M1 ((rModel_ok NB).keep hm (cells_below (BU.trans (BM1.mono BU.size)))) ((rQuery_ok NB).keep hq (cells_below (BU.trans (BM1.mono BU.size)))) (hs.below rInt_ok (BU.trans (BM1.mono BU.size))) OM1 hSp hVK.out.1 hVK.out.2 (by omega) hmI).mono ?_
    rintro e M2 ⟨rfl,OM2,hcp2⟩;have hP2:Chg [go] V2 M2:=hP1.trans hcp2
    go_wp2_with fail
    refine hK.out _ _ (HSA.out _ hP2) (fun hH=>?_);clear hK K
    try simp only [putS]
    refine wpAnyH_done (by kernel_rfl) ?_ _;clear hH;have BM2:=chg_be hgU b2 hP2;rw [<- hst.out]at OM2;clear O2 b2 hP1 hP2 hcp2 hbp1 OM1 hSp oXP fXP ojp BM1 HSA hdA hst hVK BV2
    go_upto_region 12 with fail
    obtain⟨VX,hVX⟩:∃ V,V=M2:=⟨_,rfl⟩;rw [<- hVX]at OM2 BM2 ⊢;clear hVX;have O2:=OM2;have b2:=BM2;clear OM2 BM2;have q20:=(T.kQ.below b2).bx 0 _ rfl;have q21:=(T.kQ.below b2).bx 1 _ rfl;clear HSG m0 q0 q1
    go_wp2_with fail
    refine(iJoinSplits_c _ q (mm:Int) VX ((rQuery_ok NB).keep hq (cells_below (BU.trans (b2.mono BU.size)))) (by omega)).mono ?_;rintro e V3 ⟨Ap,nsp,csp,rfl,mP,hb3⟩;have hnsp:(splits q (mm:Int)).length=nsp:=mP.len;rw [HSP0.out]at hnsp;obtain rfl:nsp=0:=hnsp.symm;have b3:=b2.trans (hb3.mono b2.size);have O3:=O2.below hb3;clear O2 q20 q21 hb3 b2 mP hnsp
    go_wp2_with fail
    go_loopw [75] (fun iv W=>iv=.int .i64 0/\Chg [go] V3 W/\Ofs csm [.int .i64 q.fVariableCount,.slice (some ⟨bA,oA,none⟩) nA cA] As ns cc (mm:Int) go go (startI md q s (mm:Int)) W) (fun _ _=>0)
    case atStart=>exact⟨rfl,Chg.refl _ _,O3⟩
    case round =>
     clear O3;obtain⟨rfl,hch,hO⟩:=hrel;obtain⟨R,hR⟩:∃ R,R=wr:=⟨_,rfl⟩;rw [<- hR]at hch hO ⊢;clear hR;have BR:=chg_be hgU b3 hch;have HEnt:=hEnt0;have hgR2:go<=R.heap.size:=Nat.le_of_lt hO.lt;obtain⟨_,_,_,tM,_⟩:=T.row hmf;have fU:=MS.frozen T.tab mm;have hmfN:mm<f+1:=by omega
     have hmfI:(mm:Int)<((f+1:Nat):Int):=by omega
     go_wp2_with fail
     refine(iEntries_c csm _ As ns cc (mm:Int) go go _ R lenm rfl hO hgR2).mono ?_;rintro e V6 ⟨A9,n9,c9,rfl,P9,hb9,hg9,hn9⟩;have bU6:=BR.trans (hb9.mono BR.size);rw [HEnt.out]at P9;have P9':PT (rPlanEntry NB) 107 U.heap.size A9 n9 c9 (entAt md q s k (mm:Int)) V6:=by rw [<- HGO.out];exact P9
     obtain⟨out7,ent7,tab7⟩:=T.store HSZ.out HVQ.out HUP.out bU6 HMK.out hmf P9';have t6:=cells_below bU6 _ _ tM;have f6:V6.frozen? ⟨gT,mm,none⟩=false:=by rw [bU6.frozen (p:=⟨gT,mm,none⟩) (by simp only;omega)];exact fU
     obtain⟨V7,hV7⟩:∃ V,V=V6.setCell ⟨gT,mm,none⟩ (.slice A9 n9 c9):=⟨_,rfl⟩;have c7:V7.cell? ⟨gT,mm,none⟩=some (.slice A9 n9 c9):=by rw [hV7];exact World.cell?_setCell_same _ _ _ t6
     have hl7:gT+1<=V7.heap.size:=by rw [hV7];have:=bU6.size;simp;omega
     rw [<- hV7]at out7 ent7 tab7;have H7:=Lib.hid hV7;have hAlt:=T.out.blt;clear hV7 P9 P9' hO hg9 hch fU tM
     go_upto_region 30 with fail
     rw [<- H7.out];clear t6 f6
     go_wp2_with (at_builtin;go_loud (refine wpList_appsK rfl _ _ 110 rfl _ 48 eiPlanEntry (rPlanEntry_ok NB) rfl out7 hl7 rfl ent7 hAlt hTlt (by unfold NB;omega) (by omega) ?_;intro A8 c8 V8 P8 h78 hg8 hA8))
     go_roundw
     case rel=>exact⟨k+1,n+n9,c8,A8,by omega,by omega,by go_num,rfl,T.next HSZ.out HVQ.out HUP.out bU6 HMK.out H7.out tab7 P8 h78 hg8 hA8⟩
     case measure=>simp [intOf];omega
  ·have hP0:=T.out
   have hTk:(connMasks q).take k=connMasks q:=List.take_of_length_le (by omega);rw [hTk]at hP0;have hP:PT (rPlanEntry NB) 107 (gT+1) A n c (tableE md q s) U:=hP0;have hn75:n<=75:=by omega
   have hgt:=T.gt;clear hP0 hTk T hnk
   go_wp2_with fail
   go_loopw [158] (fun iv W=>∃ (i:Nat),i<=n/\iv=.int .i64 (i:Int)/\PT (rPlanEntry NB) 107 (gT+1) A n c (tableE md q s) W/\Below w.heap.size w W/\gT+1<=W.heap.size) (fun iv _=>n - (intOf iv).toNat)
   case atStart=>exact⟨0,by omega,rfl,hP,BU,hTlt⟩
   case round =>
    clear hP BU hTlt;obtain⟨i,hi,rfl,hP,BR,hTR⟩:=hrel;obtain⟨R,hR⟩:∃ R,R=wr:=⟨_,rfl⟩;rw [<- hR]at hP BR hTR ⊢;clear hR;by_cases hil:i<n
    ·obtain⟨g,rfl⟩:=hP.adr (by omega)
     obtain⟨_,_,x,AP,nP,cP,eA,c0,c1,c2,c3,hst,hx⟩:=hP.entry hil;injection eA with eA;injection eA with q1 q2;subst q1 q2;rw [Nat.zero_add]at c0 c1 c2 c3;have hiI:(i:Int)<n:=by omega
     have rP:=entry_rs hst.rep;obtain⟨_,_,_,_,I0,I1,I2,_⟩:=rPlanEntry_rep.1 hst.rep;have hge:=hP.ge g (by simp [blk]);have hlg:=hP.lt;have fz:=hP.fz (i*4+3)
     go_wp2_with fail
     refine(iCopyPlan_c _ x.fPlan R (rPlan_rep.2 ⟨AP,nP,cP,rfl,rP⟩)).mono ?_;rintro e w4 ⟨cs4,fp4,rfl,o4,f4,hb4⟩;obtain⟨A4,n4,c4,fp5,rfl,rfl,o5⟩:=rPlan_own.1 o4
     have hS4:StS (rPlanEntry NB) (fun z=>z∈blk (some ⟨g,0,none⟩)\/z<gT+1) w4 [.int .i64 x.fMask,.int .i64 x.fOrder,.int .i64 x.fCost,.slice A4 n4 c4] x :=
      StS.ofOwn (rPlanEntry_ok NB) (rPlanEntry_own.2 ⟨A4,n4,c4,_,rfl,rfl,I0,I1,I2,o5⟩) (fun z hz e=>by have:=f4.ge z hz;exact e.elim (fun e=>by simp [blk]at e;omega) (fun e=>by omega))
     have P4:=hP.below (rPlanEntry_ok NB) hb4;have d0:=cells_below hb4 _ _ c0;have d1:=cells_below hb4 _ _ c1;have d2:=cells_below hb4 _ _ c2;have d3:=cells_below hb4 _ _ c3;have f3:w4.frozen? ⟨g,i*4+3,none⟩=false:=P4.fz (i*4+3);have P5:=P4.setPlan (Nat.le_trans hTR hb4.size) hil hx.out hS4 d0 d1 d2;have B5:=(BR.trans (hb4.mono BR.size)).setCell (p:=⟨g,i*4+3,none⟩) (by have:=BR.size;simp only;omega) (.slice A4 n4 c4);have hz5:gT+1<=(w4.setCell ⟨g,i*4+3,none⟩ (.slice A4 n4 c4)).heap.size:=by rw [World.size_setCell];exact Nat.le_trans hTR hb4.size
     clear c0 c1 c2 c3 hst hx hS4 P4 o4 o5 f4 fz hP BR hTR;go_wp2;go_roundw
     case rel=>exact⟨i+1,by omega,by go_num,P5,B5,hz5⟩
     case measure=>simp [intOf];omega
    ·go_wp2
     go_ret;exact⟨A,n,c,rfl,by rw [HT.out];exact hP.rs (rPlanEntry_ok NB),BR⟩
end Go.Proofs.YtnlcfkpcmfljeaaGreat
