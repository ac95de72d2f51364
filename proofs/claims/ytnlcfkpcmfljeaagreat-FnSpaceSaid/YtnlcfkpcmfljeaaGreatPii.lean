/-
  Pii
-/
import Derived.Test.YtnlcfkpcmfljeaaGreatPis
import Derived.Test.YtnlcfkpcmfljeaaGreatQt
import Derived.Test.YtnlcfkpcmfljeaaGreatPcp
set_option linter.unusedSimpArgs false
set_option linter.unusedVariables false
set_option maxHeartbeats 1600000
set_option maxRecDepth 100000
namespace Go.Proofs.YtnlcfkpcmfljeaaGreat
open Go.RowKit
theorem iPlanInfo_c (csq:List Value) (q:QueryD) (csp:List Value) (p:PlanD) (w:World) (hq:(rQuery NB).rep w csq q) (hp:(rPlan NB).rep w csp p) :
  Calls Tryz.prog 246 #[.agg csq.toArray,.agg csp.toArray] w (RetSB 243 (rStepInfo NB) ((planInfo q p).getD []) (.bool (planInfo q p).isSome) w):=by
 have rq:=hq;obtain⟨Aq_e,nq_e,cq_e,rfl,hq_p5,hq_e⟩:=rQuery_rep.1 hq;clear hq;have rp:=hp;obtain⟨Ap_d5,np_d5,cp_d5,rfl,hp_d5⟩:=rPlan_rep.1 hp;clear hp;obtain⟨hB,bxq,bxp⟩:=op2 w [.int .i64 q.fVariableCount,.slice Aq_e nq_e cq_e] 50 [.slice Ap_d5 np_d5 cp_d5] 76;have hnp:=hp_d5.bound;have HLp:=Lib.hid hp_d5.len
 go_enter Tryz.func246,Tryz.ntmps246
 go_upto_region 1 with fail
 obtain⟨wb,hwb⟩:∃ W,W=(w.alloc (.cells #[.int .i64 q.fVariableCount,.slice Aq_e nq_e cq_e] 50)).alloc (.cells #[.slice Ap_d5 np_d5 cp_d5] 76):=⟨_,rfl⟩;rw [<- hwb]at hB bxq bxp ⊢;clear hwb;have kq_0:=bxq 0 _ rfl;have kq_1:=bxq 1 _ rfl;have kp_0:=bxp 0 _ rfl
 go_wp2_with fail
 refine(iIsValidQuery_c _ q _ ((rQuery_ok NB).keep rq (cells_below hB))).mono ?_;rintro e we ⟨rfl,hbe⟩;replace hB:=hB.trans (hbe.mono hB.size);replace bxq:=bxq.below hbe;replace bxp:=bxp.below hbe;clear hbe kq_0 kq_1 kp_0;have kp_0:=bxp 0 _ rfl;cases e1:validQ q
 ·have HN:=Lib.hid (planInfo_inv (p:=p) e1)
  clear e1;go_wp2;go_ret2;rw [HN.out];exact⟨_,_,_,rfl,MS.nil _ (Nat.zero_le _),hB⟩
 have HV:=Lib.hid e1;clear e1;cases e2:inR (np_d5:Int) 1 14
 ·have HN:=Lib.hid (planInfo_len (q:=q) (p:=p) (by rw [HLp.out];exact e2))
  have K2:=Lib.hid (fun W=>within_v e2 W);clear e2
  go_wp2_with (go_at_call 89;refine(K2.out _).mono ?_;rintro e w' ⟨rfl,hww⟩;replace hww:=hww.symm;subst hww)
  go_ret2;rw [HN.out];exact⟨_,_,_,rfl,MS.nil _ (Nat.zero_le _),hB⟩
 have K2:=Lib.hid (fun W=>within_v e2 W);have hp14:=(inR_t.1 e2).2;have H2:=Lib.hid (show inR (p.fSteps.length:Int) 1 14=true by rw [HLp.out];exact e2);clear e2
 go_upto_region 3 with (go_at_call 89;refine(K2.out _).mono ?_;rintro e w' ⟨rfl,hww⟩;replace hww:=hww.symm;subst hww)
 have hMI0:MS we.heap.size NB 243 (rStepInfo NB) (we.alloc (.cells #[] 243)) (some ⟨we.heap.size,0,none⟩) 0 0 []:=MS.empty _ (Nat.le_refl _);have hA1:=(Below.refl we.heap.size we).alloc (Nat.le_refl _) (.cells #[] 243);obtain⟨wc,hwc⟩:∃ W,W=we.alloc (.cells #[] 243):=⟨_,rfl⟩;have hsc:wc.heap.size=we.heap.size+1:=by rw [hwc];simp
 rw [<- hwc]at hMI0 hA1;have hMS0:MS we.heap.size NB 3 rInt (wc.alloc (.cells #[] 3)) (some ⟨wc.heap.size,0,none⟩) 0 0 []:=MS.empty _ (by omega);have hA2:=(Below.refl wc.heap.size wc).alloc (Nat.le_refl _) (.cells #[] 3);replace hMI0:=hMI0.below (rStepInfo_ok NB) hA2;rw [hsc]at hMS0;have hE0:Below we.heap.size we (wc.alloc (.cells #[] 3)):=hA1.trans (hA2.mono hA1.size);clear kp_0;have kp_0:=(bxp.below hE0) 0 _ rfl;rw [hwc]at hMI0 hMS0 kp_0 hE0;clear hA1 hA2 hsc hwc;go_wp2;clear kp_0
 go_loopw [6,7,27] (fun si ss i wr=>∃ (k:Nat) (AI AS:Option Addr) (cI nS cS:Nat) (l:List StepInfoD) (st:List Int),k<=np_d5/\i=.int .i64 k/\si=.slice AI k cI/\ss=.slice AS nS cS/\planRun q (p.fSteps.take k)=some (l,st)/\MS we.heap.size NB 243 (rStepInfo NB) wr AI k cI l/\MS we.heap.size NB 3 rInt wr AS nS cS st/\(∀ z∈blk AI,z∉blk AS)/\Below we.heap.size we wr) (fun _ _ i _=>np_d5 - (intOf i).toNat)
 case atStart=>exact⟨0,_,_,0,0,0,[],[],Nat.zero_le _,rfl,rfl,rfl,rfl,hMI0,hMS0,by simp [blk],hE0⟩
 case round =>
  clear hMI0 hMS0 hE0;obtain⟨k,AI,AS,cI,nS,cS,l,st,hk,rfl,rfl,rfl,hrun,hMI,hMS,hdj,hE⟩:=hrel;have HRR:=Lib.hid hrun;clear hrun;have HDJ:=Lib.hid hdj;clear hdj;have hB2:=hB.trans (hE.mono hB.size);have HOK:=Lib.hid (planRun_ok HV.out HRR.out);have HRun:Hid (Run q.fAtoms.length l st):=HOK.out.1;have HL14:Hid (l.length<=14):=by show _<=_;rw [hMI.len];omega
  by_cases hlt:k<np_d5
  ·obtain⟨b,off,x,rfl,hc0,hc1,hc2,i0,i1,i2,hx⟩:=hp_d5.ePlanStep hlt
   have HX:=Lib.hid hx.out;clear hx;replace hc0:=cells_below hB2 _ _ hc0;replace hc1:=cells_below hB2 _ _ hc1;replace hc2:=cells_below hB2 _ _ hc2
   go_upto_region 8 with fail
   have bxx:=Bx.new wr [.int .i64 x.fKind,.int .i64 x.fAtom,.int .i64 x.fOrder] 173;have hAx:=(Below.refl wr.heap.size wr).alloc (Nat.le_refl _) (.cells #[.int .i64 x.fKind,.int .i64 x.fAtom,.int .i64 x.fOrder] 173);obtain⟨wx,hwx⟩:∃ W,W=wr.alloc (.cells #[.int .i64 x.fKind,.int .i64 x.fAtom,.int .i64 x.fOrder] 173):=⟨_,rfl⟩;rw [<- hwx]at hAx ⊢;replace bxx:Bx wx wr.heap.size [.int .i64 x.fKind,.int .i64 x.fAtom,.int .i64 x.fOrder]:=by rw [hwx];exact bxx
   clear hwx hc0 hc1 hc2;have hE3:=hE.trans (hAx.mono hE.size);have hB3:=hB2.trans (hAx.mono hB2.size);have hMI2:=hMI.below (rStepInfo_ok NB) hAx;have hMS2:=hMS.below rInt_ok hAx;have kq_0:=(bxq.below hE3) 0 _ rfl;have kq_1:=(bxq.below hE3) 1 _ rfl;have kx_0:=bxx 0 _ rfl;have kx_1:=bxx 1 _ rfl;have kx_2:=bxx 2 _ rfl;have RX:Hid ((rPlanStep NB).rep wx [.int .i64 x.fKind,.int .i64 x.fAtom,.int .i64 x.fOrder] x):=by show _;exact rPlanStep_rep.2 ⟨rfl,i0,i1,i2⟩
   go_wp2_with fail
   refine(iStepInfo_c _ q _ x _ _ _ l _ _ _ st _ ((rQuery_ok NB).keep rq (cells_below hB3)) RX.out (hMI2.rs (rStepInfo_ok NB)) (hMS2.rs rInt_ok) HV.out HRun.out HL14.out).mono ?_;rintro e wc ⟨y,ok,rfl,hok,hyz,hbc⟩;have HOKK:=Lib.hid hok;clear hok;have HYZ:=Lib.hid hyz;clear hyz;have hE4:=hE3.trans (hbc.mono hE3.size);have hB4:=hB3.trans (hbc.mono hB3.size);have hMI3:=hMI2.below (rStepInfo_ok NB) hbc;have hMS3:=hMS2.below rInt_ok hbc;have HIW:Hid (∀ z∈blk AI,z<wc.heap.size):=by show ∀ z∈blk AI,_;exact fun z hz=>(hMI3.blkB (rStepInfo_ok NB) z hz).2
   clear kq_0 kq_1 kx_0 kx_1 kx_2 hMI2 hMS2 hMI hMS hE3 hB3 hAx hbc bxx;cases hs:stepInfo q x l st with
   | none =>
    have HN:=Lib.hid (planInfo_none (p:=p) (planStep_no HX.out HRR.out hs));obtain rfl:ok=false:=by rw [HOKK.out,hs];rfl
    clear hs;go_wp2;go_ret2;rw [HN.out];exact⟨_,_,_,rfl,MS.nil _ (Nat.zero_le _),hB4.alloc hB4.size _⟩
   | some s =>
    obtain⟨z,j⟩:=s;obtain rfl:ok=true:=by rw [HOKK.out,hs];rfl
    obtain⟨e5,hio⟩:=HYZ.out z j hs;subst e5;have HIO:Hid (I64 y.fOrder):=hio;clear hio HYZ HOKK;have HS:=Lib.hid hs;have HRN:=Lib.hid (planStep_yes HX.out HRR.out hs);have HPP:=Lib.hid (stepPops HRun.out hs);have hok:=stepInfo_ok HV.out HRun.out hs;have hpk:=pow_le16 (validQ_parts HV.out).2.2.2.1;have hy0:=hok.1.1;have hy1:y.fMask<16:=by have:=hok.1.2;omega
    have hyl:=hok.2.1;have hyr:=hok.2.2.1;have hjs:Hid (j<=nS):=by show _<=_;have:=hok.2.2.2.1;rw [hMS3.len]at this;exact this
    have hl14:l.length<=14:=HL14.out;have hnS14:nS<=14:=by have:=HOK.out.1.len;have:=hMS3.len;omega
    clear hs hok hpk;have bkX:=Bk.new wc [.int .i64 y.fMask,.int .i64 y.fOrder,.int .i64 y.fLeft,.int .i64 y.fRight] 243;have hAy:=(Below.refl wc.heap.size wc).alloc (Nat.le_refl _) (.cells #[.int .i64 y.fMask,.int .i64 y.fOrder,.int .i64 y.fLeft,.int .i64 y.fRight] 243)
    go_upto_region 11 with fail
    obtain⟨wd,hwd⟩:∃ W,W=wc.alloc (.cells #[.int .i64 y.fMask,.int .i64 y.fOrder,.int .i64 y.fLeft,.int .i64 y.fRight] 243):=⟨_,rfl⟩;rw [<- hwd]at bkX hAy ⊢;clear hwd;replace hMI3:=hMI3.below (rStepInfo_ok NB) hAy;replace hMS3:=hMS3.below rInt_ok hAy;replace hE4:=hE4.trans (hAy.mono hE4.size);clear hAy hB4;have hszB:=hE4.size;have c0:=bkX.bx 0 _ rfl;have c1:=bkX.bx 1 _ rfl;have c2:=bkX.bx 2 _ rfl;have c3:=bkX.bx 3 _ rfl
    go_upto_region 12 with (at_builtin;refine wpList_appB (r:=rStepInfo NB) rfl _ _ 237 rfl _ 32 eiStepInfo (rStepInfo_ok NB) rfl hMI3 (bal) hszB ⟨wd.heap.size,0,none⟩ rfl [] [.int .i64 y.fMask,.int .i64 y.fOrder,.int .i64 y.fLeft,.int .i64 y.fRight] y (rStepInfo_own.2 ⟨rfl,rfl,⟨by omega,by omega⟩,HIO.out,⟨by omega,by omega⟩,⟨by omega,by omega⟩⟩) (Fr.nil _) (cells_new _ _ _) (by unfold NB;omega) (Nat.le_refl _) (by omega) ?_;intro AI2 cI2 w1 hMI4 hb1 hg1 hA1)
    have hAl:=(Below.refl wd.heap.size wd).alloc (Nat.le_refl _) (.cells #[.int .i64 y.fMask,.int .i64 y.fOrder,.int .i64 y.fLeft,.int .i64 y.fRight] 243);have hMS3a:=hMS3.below rInt_ok hAl;have hMS4:=hMS3a.keepG rInt_ok rInt_nofp hg1 HDJ.out;have HDJ2:=Lib.hid (disj_app HDJ.out hA1 (fun z hz=>(hMS3a.blkB rInt_ok z hz).2));have hE1:=(hE4.trans (hAl.mono hE4.size)).trans hb1;have bkX1:Bk w1 wc.heap.size 243 [.int .i64 y.fMask,.int .i64 y.fOrder,.int .i64 y.fLeft,.int .i64 y.fRight]:=(hg1.block _ (by have:=bkX.lt;simp;omega) (fun e=>by have:=HIW.out _ (mem_blk.2 e.symm);omega)).trans (bkX.below hAl)
    clear c0 c1 c2 c3 hMS3a hAl hb1 hg1 hA1 hMI3 hMS3 hszB bkX hE4 HDJ;have hsz4:=hE1.size;have c2:=bkX1.bx 2 _ rfl;have c3:=bkX1.bx 3 _ rfl;by_cases r0:0<=y.fRight
    ·replace HPP:Hid (j=2):=by show j=2;rw [HPP.out,if_pos r0]
     have hj2:2<=nS:=by have h1:=hjs.out;have h2:=HPP.out;omega
     obtain⟨m,hm⟩:∃ m,m+2=nS:=⟨nS - 2,by omega⟩;have hmc:m<=cS:=by have:=(hMS4.rs rInt_ok).nc;omega
     have hMT:=hMS4.takeI (k:=m) (by omega)
     have HRN2:Hid (planRun q (p.fSteps.take (k+1))=some (l++[y],st.take m++[(k:Int)])):=by
      have h1:=hMS4.len;have h2:=hMI4.len;rw [List.length_append,List.length_singleton]at h2;show _=_;rw [HRN.out,show st.length - j=m by rw [HPP.out];omega,show l.length=k by omega]
     have mj:IntKind.i64.wrap ((nS:Int) - 2)=(m:Int):=by rw [IntWalk.i64_in _ (by omega)];omega
     have hmI:(m:Int)<=(nS:Int):=by omega
     clear hm;have hm14:m<=14:=by omega
     go_wp2_with (at_builtin;refine wpList_appB (r:=rInt) rfl _ _ 30 rfl _ 8 eiInt rInt_ok rfl hMT (bal) hsz4 ⟨w1.heap.size,0,none⟩ rfl [] [.int .i64 k] (k:Int) ⟨rfl,rfl,⟨by omega,by omega⟩⟩ (Fr.nil _) (cells_new _ _ _) (by unfold NB;omega) (Nat.le_refl _) (by omega) ?_;intro AU cU w3 hMU hbU hgU hAU)
     clear mj;have hAl2:=(Below.refl w1.heap.size w1).alloc (Nat.le_refl _) (.cells #[.int .i64 k] 3);have hMI5a:=hMI4.below (rStepInfo_ok NB) hAl2;have hMI5:=hMI5a.keepG (rStepInfo_ok NB) (rStepInfo_nofp NB) hgU (fun z hz hz2=>HDJ2.out z hz2 hz);have HDJ3:=Lib.hid (disj_app (fun z hz hz2=>HDJ2.out z hz2 hz) hAU (fun z hz=>(hMI5a.blkB (rStepInfo_ok NB) z hz).2));have hE5:=(hE1.trans (hAl2.mono hE1.size)).trans hbU;go_roundw
     case rel=>exact⟨k+1,AI2,AU,cI2,m+1,cU,_,_,by omega,by go_num,rfl,rfl,HRN2.out,hMI5,hMU,(fun z hz hz2=>HDJ3.out z hz2 hz),hE5⟩
     case measure=>simp [intOf];omega
    by_cases l0:0<=y.fLeft
    ·replace HPP:Hid (j=1):=by show j=1;rw [HPP.out,if_neg r0,if_pos l0]
     have hj2:1<=nS:=by have h1:=hjs.out;have h2:=HPP.out;omega
     obtain⟨m,hm⟩:∃ m,m+1=nS:=⟨nS - 1,by omega⟩;have hmc:m<=cS:=by have:=(hMS4.rs rInt_ok).nc;omega
     have hMT:=hMS4.takeI (k:=m) (by omega)
     have HRN2:Hid (planRun q (p.fSteps.take (k+1))=some (l++[y],st.take m++[(k:Int)])):=by
      have h1:=hMS4.len;have h2:=hMI4.len;rw [List.length_append,List.length_singleton]at h2;show _=_;rw [HRN.out,show st.length - j=m by rw [HPP.out];omega,show l.length=k by omega]
     have mj:IntKind.i64.wrap ((nS:Int) - 1)=(m:Int):=by rw [IntWalk.i64_in _ (by omega)];omega
     have hmI:(m:Int)<=(nS:Int):=by omega
     clear hm;have hm14:m<=14:=by omega
     go_wp2_with (at_builtin;refine wpList_appB (r:=rInt) rfl _ _ 30 rfl _ 8 eiInt rInt_ok rfl hMT (bal) hsz4 ⟨w1.heap.size,0,none⟩ rfl [] [.int .i64 k] (k:Int) ⟨rfl,rfl,⟨by omega,by omega⟩⟩ (Fr.nil _) (cells_new _ _ _) (by unfold NB;omega) (Nat.le_refl _) (by omega) ?_;intro AU cU w3 hMU hbU hgU hAU)
     clear mj;have hAl2:=(Below.refl w1.heap.size w1).alloc (Nat.le_refl _) (.cells #[.int .i64 k] 3);have hMI5a:=hMI4.below (rStepInfo_ok NB) hAl2;have hMI5:=hMI5a.keepG (rStepInfo_ok NB) (rStepInfo_nofp NB) hgU (fun z hz hz2=>HDJ2.out z hz2 hz);have HDJ3:=Lib.hid (disj_app (fun z hz hz2=>HDJ2.out z hz2 hz) hAU (fun z hz=>(hMI5a.blkB (rStepInfo_ok NB) z hz).2));have hE5:=(hE1.trans (hAl2.mono hE1.size)).trans hbU;go_roundw
     case rel=>exact⟨k+1,AI2,AU,cI2,m+1,cU,_,_,by omega,by go_num,rfl,rfl,HRN2.out,hMI5,hMU,(fun z hz hz2=>HDJ3.out z hz2 hz),hE5⟩
     case measure=>simp [intOf];omega
    ·replace HPP:Hid (j=0):=by show j=0;rw [HPP.out,if_neg r0,if_neg l0]
     obtain⟨m,hm⟩:∃ m,m+0=nS:=⟨nS - 0,by omega⟩;have hmc:m<=cS:=by have:=(hMS4.rs rInt_ok).nc;omega
     have hMT:=hMS4.takeI (k:=m) (by omega)
     have HRN2:Hid (planRun q (p.fSteps.take (k+1))=some (l++[y],st.take m++[(k:Int)])):=by
      have h1:=hMS4.len;have h2:=hMI4.len;rw [List.length_append,List.length_singleton]at h2;show _=_;rw [HRN.out,show st.length - j=m by rw [HPP.out];omega,show l.length=k by omega]
     obtain rfl:m=nS:=by omega
     clear hm;have hm14:m<=14:=by omega
     go_wp2_with (at_builtin;refine wpList_appB (r:=rInt) rfl _ _ 30 rfl _ 8 eiInt rInt_ok rfl hMT (bal) hsz4 ⟨w1.heap.size,0,none⟩ rfl [] [.int .i64 k] (k:Int) ⟨rfl,rfl,⟨by omega,by omega⟩⟩ (Fr.nil _) (cells_new _ _ _) (by unfold NB;omega) (Nat.le_refl _) (by omega) ?_;intro AU cU w3 hMU hbU hgU hAU)
     have hAl2:=(Below.refl w1.heap.size w1).alloc (Nat.le_refl _) (.cells #[.int .i64 k] 3);have hMI5a:=hMI4.below (rStepInfo_ok NB) hAl2;have hMI5:=hMI5a.keepG (rStepInfo_ok NB) (rStepInfo_nofp NB) hgU (fun z hz hz2=>HDJ2.out z hz2 hz);have HDJ3:=Lib.hid (disj_app (fun z hz hz2=>HDJ2.out z hz2 hz) hAU (fun z hz=>(hMI5a.blkB (rStepInfo_ok NB) z hz).2));have hE5:=(hE1.trans (hAl2.mono hE1.size)).trans hbU;go_roundw
     case rel=>exact⟨k+1,AI2,AU,cI2,m+1,cU,_,_,by omega,by go_num,rfl,rfl,HRN2.out,hMI5,hMU,(fun z hz hz2=>HDJ3.out z hz2 hz),hE5⟩
     case measure=>simp [intOf];omega
  ·have HPL:Hid (planRun q p.fSteps=some (l,st)):=by
    show _=_;have:=HRR.out
    rwa [take_all hp_d5.len hlt]at this
   have HPE:=Lib.hid (planInfo_end HV.out H2.out HPL.out);have HSL:=Lib.hid hMS.len;by_cases hn1:nS=1
   ·have nb:((nS:Int) != 1)=false:=by simp [hn1]
    have HN:Hid (planInfo q p=some l):=by show _=_;rw [HPE.out,if_pos (HSL.out.trans hn1)]
    clear hn1;go_wp2;go_ret2;rw [HN.out];exact⟨_,_,_,rfl,hMI.base hB.size,hB2⟩
   ·have nb:((nS:Int) != 1)=true:=by simp;omega
    have HN:Hid (planInfo q p=none):=by show _=_;rw [HPE.out,if_neg (fun h=>hn1 (HSL.out.symm.trans h))]
    clear hn1;go_wp2;go_ret2;rw [HN.out];exact⟨_,_,_,rfl,MS.nil _ (Nat.zero_le _),hB2⟩
def costOf (m:ModelD) (z:List Int) (l:List StepInfoD) (k:Int) (y:StepInfoD):Int:=opCostV (opOf m k) (leftSize z l y) (rightSize z l y) (sizeAt z y.fMask)
theorem costScan {m:ModelD}{z:List Int}{l:List StepInfoD}{k:Int}{y:StepInfoD}{s:Int}(h1:y.fLeft<0) (h2:y.fRight<0) (hs:sizeAt z y.fMask=s):costOf m z l k y=opCostV (opOf m k) s 0 s:=by
 unfold costOf leftSize rightSize;rw [if_neg (by omega),if_neg (by omega),hs]
theorem costSort {m:ModelD}{z:List Int}{l:List StepInfoD}{k:Int}{y a:StepInfoD}{s t:Int}{j:Nat}(h1:y.fLeft=j) (h2:y.fRight<0) (hj:l[j]?=some a) (hs:sizeAt z y.fMask=s) (ht:sizeAt z a.fMask=t):costOf m z l k y=opCostV (opOf m k) t 0 s:=by
 unfold costOf leftSize rightSize infoAt;rw [if_pos (by omega),if_neg (by omega),hs,h1,Int.toNat_natCast,hj];show opCostV _ (sizeAt z a.fMask) _ _=_;rw [ht]
theorem costJoin {m:ModelD}{z:List Int}{l:List StepInfoD}{k:Int}{y a b:StepInfoD}{s t u:Int}{j i:Nat}(h1:y.fLeft=j) (h2:y.fRight=i) (hj:l[j]?=some a) (hi:l[i]?=some b) (hs:sizeAt z y.fMask=s) (ht:sizeAt z a.fMask=t) (hu:sizeAt z b.fMask=u):costOf m z l k y=opCostV (opOf m k) t u s:=by
 unfold costOf leftSize rightSize infoAt;rw [if_pos (by omega),if_pos (by omega),hs,h1,h2,Int.toNat_natCast,Int.toNat_natCast,hj,hi];show opCostV _ (sizeAt z a.fMask) (sizeAt z b.fMask) _=_;rw [ht,hu]
theorem sL24Step_c (csm:List Value) (m:ModelD) (k:Int) (Al:Option Addr) (nl cl:Nat) (l:List StepInfoD) (i:Int) (Az:Option Addr) (nz cz:Nat) (z:List Int) (w:World) (hm:(rModel NB).rep w csm m) (hl:RS NB (rStepInfo NB) w Al nl cl l) (hz:RS NB rInt w Az nz cz z) (q:QueryD) (st:List Int) (hZ:isSizes q z=true) (hR:Run q.fAtoms.length l st) (hi0:0<=i) (hi1:i<(l.length:Int)) (hlr:∀ y∈l,y.fLeft<0->y.fRight<0) (hl14:l.length<=14) :
  Calls Tryz.prog 221 #[.agg csm.toArray,.int .i64 k,.slice Al nl cl,.int .i64 i,.slice Az nz cz] w fun e w'=>e=.returned (.int .i64 (costOf m z l k (infoAt l i)))/\Below w.heap.size w w':=by
 have rm:=hm;have lenm:=(rModel_ok NB).len hm;clear hm;obtain⟨hB,bxm⟩:=op1 w csm 46;obtain⟨j,rfl⟩:∃ j:Nat,i=j:=⟨i.toNat,by omega⟩;have hnl:=hl.bound;have hnz:=hz.bound;have hjl:j<nl:=by have:=hl.len;omega
 obtain⟨bI,oI,⟨ym,yo,yl,yr⟩,rfl,hc0,hc1,hc2,hc3,hi0',hi1',hi2',hi3',hy⟩:=hl.eStepInfo (k:=j) hjl;dsimp only at hc0 hc1 hc2 hc3 hi0' hi1' hi2' hi3';have HY:Hid (infoAt l (j:Int)=⟨ym,yo,yl,yr⟩):=by show _=_;unfold infoAt;rw [Int.toNat_natCast,hy.out];rfl
 rw [HY.out];have hmk:=hR.mask _ (mem_of_at hy.out);have hkd:=hR.kids j _ hy.out;have hyr:=hlr _ (mem_of_at hy.out);dsimp only at hmk hkd hyr;obtain⟨a,rfl⟩:∃ a:Nat,ym=a:=⟨ym.toNat,by omega⟩;obtain⟨za1,za2,za3,za4⟩:=sizeAt_at hZ (m:=(a:Int)) (by omega) hmk.2;rw [Int.toNat_natCast]at za1 za2;have hanz:a<nz:=by have:=hz.len;omega
 obtain⟨bZ,oZ,s,rfl,hcs,hIs,hxs⟩:=hz.ati hanz;have HS:Hid (sizeAt z (a:Int)=s):=by show _=_;have:=hxs.out;rw [za2]at this;injection this
 rw [HS.out]at za3 za4;clear za1 za2 hxs;have hc0':=cells_below hB _ _ hc0;have hc1':=cells_below hB _ _ hc1;have hc2':=cells_below hB _ _ hc2;have hc3':=cells_below hB _ _ hc3
 go_enter Tryz.func221,Tryz.ntmps221
 go_upto_region 2 with fail
 have lenm':csm.length=30:=lenm;clear lenm hc0 hc1 hc2 hc3;have hBy:=(Below.refl (w.alloc (.cells csm.toArray 46)).heap.size (w.alloc (.cells csm.toArray 46))).alloc (Nat.le_refl _) (.cells #[.int .i64 a,.int .i64 yo,.int .i64 yl,.int .i64 yr] 243);have bxy:=Bx.new (w.alloc (.cells csm.toArray 46)) [.int .i64 a,.int .i64 yo,.int .i64 yl,.int .i64 yr] 243;simp only [World.size_alloc]at bxy;obtain⟨wn,hwn⟩:∃ W,W=(w.alloc (.cells csm.toArray 46)).alloc (.cells #[.int .i64 a,.int .i64 yo,.int .i64 yl,.int .i64 yr] 243):=⟨_,rfl⟩;rw [<- hwn]at hBy bxy ⊢;clear hwn hc0' hc1' hc2' hc3';replace hB:=hB.trans (hBy.mono hB.size)
 replace bxm:=bxm.below hBy;clear hBy
 go_wp2_with (refine wpList_load_mid rfl 46 _ rfl w.heap.size 0 rfl csm _ bxm.range Tryz.underlying46 rfl (by rw [lenm'];exact sizeModel) ?_)
 refine(sModelOp_c _ m k _ ((rModel_ok NB).keep rm (cells_below hB))).mono ?_;rintro e w1 ⟨A1,n1,c1,rfl,ro,hb1⟩;replace hB:=hB.trans (hb1.mono hB.size);replace bxm:=bxm.below hb1;replace bxy:=bxy.below hb1;clear hb1;obtain⟨o,ho⟩:∃ o,o=opOf m k:=⟨_,rfl⟩;rw [<- ho]at ro ⊢;have HO:=Lib.hid ho;clear ho
 go_upto_region 3 with fail
 have bxo:=Bx.new w1 [.int .i64 o.fFixed,.int .i64 o.fPerLeft,.int .i64 o.fPerRight,.int .i64 o.fPerOutput,.int .i64 o.fPerPair,.slice A1 n1 c1] 44;have hBo:=(Below.refl w1.heap.size w1).alloc (Nat.le_refl _) (.cells #[.int .i64 o.fFixed,.int .i64 o.fPerLeft,.int .i64 o.fPerRight,.int .i64 o.fPerOutput,.int .i64 o.fPerPair,.slice A1 n1 c1] 44);obtain⟨wo,hwo⟩:∃ W,W=w1.alloc (.cells #[.int .i64 o.fFixed,.int .i64 o.fPerLeft,.int .i64 o.fPerRight,.int .i64 o.fPerOutput,.int .i64 o.fPerPair,.slice A1 n1 c1] 44):=⟨_,rfl⟩;rw [<- hwo]at hBo bxo ⊢;clear hwo;replace hB:=hB.trans (hBo.mono hB.size);replace bxm:=bxm.below hBo
 replace bxy:=bxy.below hBo;replace ro:=(rOperator_ok NB).keep ro (cells_below hBo);clear hBo;obtain⟨g,hg⟩:∃ g,g=w1.heap.size:=⟨_,rfl⟩;rw [<- hg]at bxo ⊢;clear hg;replace hcs:=cells_below hB _ _ hcs;by_cases hl0:yl<0
 ·have hr0:=hyr hl0
  clear hyr hkd
  have K1:Hid (∀ W,Below wo.heap.size wo W->Calls Tryz.prog 127 #[.agg #[.int .i64 o.fFixed,.int .i64 o.fPerLeft,.int .i64 o.fPerRight,.int .i64 o.fPerOutput,.int .i64 o.fPerPair,.slice A1 n1 c1],.int .i64 s,.int .i64 0,.int .i64 s] W fun e w'=>e=.returned (.int .i64 (opCostV o s 0 s))/\Below W.heap.size W w'):=by
   show ∀ W,_->_;exact fun W hW=>sOpCost_c _ o s 0 s W ((rOperator_ok NB).keep ro (cells_below hW))
  have HSS:Hid (∀ w',Below wo.heap.size wo w'->(w'.cell? ⟨g,0,none⟩=some (.int .i64 o.fFixed)/\w'.cell? ⟨g,1,none⟩=some (.int .i64 o.fPerLeft)/\w'.cell? ⟨g,2,none⟩=some (.int .i64 o.fPerRight)/\w'.cell? ⟨g,3,none⟩=some (.int .i64 o.fPerOutput)/\w'.cell? ⟨g,4,none⟩=some (.int .i64 o.fPerPair)/\w'.cell? ⟨g,5,none⟩=some (.slice A1 n1 c1)/\w'.cell? ⟨w.heap.size+1,0,none⟩=some (.int .i64 a)/\w'.cell? ⟨bZ,oZ+a,none⟩=some (.int .i64 s))):=by
   show ∀ w',_->_;intro w' hc;exact⟨(bxo.below hc) 0 _ rfl,(bxo.below hc) 1 _ rfl,(bxo.below hc) 2 _ rfl,(bxo.below hc) 3 _ rfl,(bxo.below hc) 4 _ rfl,(bxo.below hc) 5 _ rfl,(bxy.below hc) 0 _ rfl,cells_below hc _ _ hcs⟩
  have ky2:=bxy 2 _ rfl;have ky3:=bxy 3 _ rfl;go_wp2;refine hbg HSS.out (Below.refl _ _).drew (fun hH=>?_);refine tq4 0 hH ?_;simp only [putS];refine tq4 4 hH ?_;simp only [putS];refine tq2 8 hH ?_;refine tq1 10 hH ?_;simp only [putS];refine rd 11 (some 34) fun K hK=>?_;clear hH;go_simp;refine(K1.out _ (Below.refl wo.heap.size wo).drew).mono ?_;rintro e w2 ⟨rfl,hb2⟩
  go_wp2_with fail
  refine hK.out _ _ (HSS.out _ ((Below.refl wo.heap.size wo).drew.trans (hb2.mono (by simp)))) (fun hH=>?_);clear hK K
  try simp only [putS]
  refine tq1 12 hH ?_;simp only [putS];refine wpAnyH_done (by kernel_rfl) ?_ _;clear hH;go_wp2;go_ret;exact⟨ret_int (by rw [HO.out];exact(costScan hl0 hr0 HS.out).symm),hB.trans (((Below.refl wo.heap.size wo).drew.trans (hb2.mono (by simp))).mono hB.size)⟩
 clear hyr;have hll:=hl.len;have hjn:(j:Int)<nl:=by omega
 obtain⟨x,rfl⟩:∃ x:Nat,yl=x:=⟨yl.toNat,by omega⟩;have hxx:x<nl:=by omega
 obtain⟨b',o',⟨a1m,a1o,a1l,a1r⟩,e',hdx,_,_,_,_,_,_,_,hxy⟩:=hl.eStepInfo (k:=x) hxx;injection e' with e';injection e' with e1 e2;subst e1;subst e2;dsimp only at hdx;have hmx:=hR.mask _ (mem_of_at hxy.out);dsimp only at hmx;obtain⟨a1,rfl⟩:∃ a:Nat,a1m=a:=⟨a1m.toNat,by omega⟩;obtain⟨zx1,zx2,zx3,zx4⟩:=sizeAt_at hZ (m:=(a1:Int)) (by omega) hmx.2;rw [Int.toNat_natCast]at zx1 zx2;have hax:a1<nz:=by have:=hz.len;omega
 obtain⟨b',o',s1,e',hex,hIx,hkx⟩:=hz.ati hax;injection e' with e';injection e' with e1 e2;subst e1;subst e2;have HSx:Hid (sizeAt z (a1:Int)=s1):=by show _=_;have:=hkx.out;rw [zx2]at this;injection this
 rw [HSx.out]at zx3 zx4;clear zx1 zx2 hkx;replace hdx:=cells_below hB _ _ hdx;replace hex:=cells_below hB _ _ hex;clear hl0;by_cases hr0:yr<0
 ·have K1:Hid (∀ W,Below wo.heap.size wo W->Calls Tryz.prog 127 #[.agg #[.int .i64 o.fFixed,.int .i64 o.fPerLeft,.int .i64 o.fPerRight,.int .i64 o.fPerOutput,.int .i64 o.fPerPair,.slice A1 n1 c1],.int .i64 s1,.int .i64 0,.int .i64 s] W fun e w'=>e=.returned (.int .i64 (opCostV o s1 0 s))/\Below W.heap.size W w'):=by
   show ∀ W,_->_;exact fun W hW=>sOpCost_c _ o s1 0 s W ((rOperator_ok NB).keep ro (cells_below hW))
  have HSS:Hid (∀ w',Below wo.heap.size wo w'->(w'.cell? ⟨g,0,none⟩=some (.int .i64 o.fFixed)/\w'.cell? ⟨g,1,none⟩=some (.int .i64 o.fPerLeft)/\w'.cell? ⟨g,2,none⟩=some (.int .i64 o.fPerRight)/\w'.cell? ⟨g,3,none⟩=some (.int .i64 o.fPerOutput)/\w'.cell? ⟨g,4,none⟩=some (.int .i64 o.fPerPair)/\w'.cell? ⟨g,5,none⟩=some (.slice A1 n1 c1)/\w'.cell? ⟨w.heap.size+1,0,none⟩=some (.int .i64 a)/\w'.cell? ⟨bZ,oZ+a,none⟩=some (.int .i64 s)/\w'.cell? ⟨w.heap.size+1,2,none⟩=some (.int .i64 x)/\w'.cell? ⟨bI,oI+x*4,none⟩=some (.int .i64 a1)/\w'.cell? ⟨bZ,oZ+a1,none⟩=some (.int .i64 s1))):=by
   show ∀ w',_->_;intro w' hc;exact⟨(bxo.below hc) 0 _ rfl,(bxo.below hc) 1 _ rfl,(bxo.below hc) 2 _ rfl,(bxo.below hc) 3 _ rfl,(bxo.below hc) 4 _ rfl,(bxo.below hc) 5 _ rfl,(bxy.below hc) 0 _ rfl,cells_below hc _ _ hcs,(bxy.below hc) 2 _ rfl,cells_below hc _ _ hdx,cells_below hc _ _ hex⟩
  have ky2:=bxy 2 _ rfl;have ky3:=bxy 3 _ rfl;go_wp2;refine hbg HSS.out (Below.refl _ _).drew (fun hH=>?_);refine tq4 0 hH ?_;simp only [putS];refine tq4 4 hH ?_;simp only [putS];refine tq4 8 hH ?_;simp only [putS];refine tq2 12 hH ?_;refine tq1 14 hH ?_;simp only [putS];refine rd 15 (some 53) fun K hK=>?_;clear hH;go_simp;refine(K1.out _ (Below.refl wo.heap.size wo).drew).mono ?_;rintro e w2 ⟨rfl,hb2⟩
  go_wp2_with fail
  refine hK.out _ _ (HSS.out _ ((Below.refl wo.heap.size wo).drew.trans (hb2.mono (by simp)))) (fun hH=>?_);clear hK K
  try simp only [putS]
  refine tq1 16 hH ?_;simp only [putS];refine wpAnyH_done (by kernel_rfl) ?_ _;clear hH;go_wp2;go_ret;exact⟨ret_int (by rw [HO.out];exact(costSort rfl hr0 hxy.out HS.out HSx.out).symm),hB.trans (((Below.refl wo.heap.size wo).drew.trans (hb2.mono (by simp))).mono hB.size)⟩
 obtain⟨x2,rfl⟩:∃ x:Nat,yr=x:=⟨yr.toNat,by omega⟩;have hxx2:x2<nl:=by omega
 obtain⟨b',o',⟨a2m,a2o,a2l,a2r⟩,e',hdx2,_,_,_,_,_,_,_,hx2y⟩:=hl.eStepInfo (k:=x2) hxx2;injection e' with e';injection e' with e1 e2;subst e1;subst e2;dsimp only at hdx2;have hmx2:=hR.mask _ (mem_of_at hx2y.out);dsimp only at hmx2;obtain⟨a2,rfl⟩:∃ a:Nat,a2m=a:=⟨a2m.toNat,by omega⟩;obtain⟨zx21,zx22,zx23,zx24⟩:=sizeAt_at hZ (m:=(a2:Int)) (by omega) hmx2.2;rw [Int.toNat_natCast]at zx21 zx22;have hax2:a2<nz:=by have:=hz.len;omega
 obtain⟨b',o',s2,e',hex2,hIx2,hkx2⟩:=hz.ati hax2;injection e' with e';injection e' with e1 e2;subst e1;subst e2;have HSx2:Hid (sizeAt z (a2:Int)=s2):=by show _=_;have:=hkx2.out;rw [zx22]at this;injection this
 rw [HSx2.out]at zx23 zx24;clear zx21 zx22 hkx2;replace hdx2:=cells_below hB _ _ hdx2;replace hex2:=cells_below hB _ _ hex2
 have K1:Hid (∀ W,Below wo.heap.size wo W->Calls Tryz.prog 127 #[.agg #[.int .i64 o.fFixed,.int .i64 o.fPerLeft,.int .i64 o.fPerRight,.int .i64 o.fPerOutput,.int .i64 o.fPerPair,.slice A1 n1 c1],.int .i64 s1,.int .i64 s2,.int .i64 s] W fun e w'=>e=.returned (.int .i64 (opCostV o s1 s2 s))/\Below W.heap.size W w'):=by
  show ∀ W,_->_;exact fun W hW=>sOpCost_c _ o s1 s2 s W ((rOperator_ok NB).keep ro (cells_below hW))
 have HSS:Hid (∀ w',Below wo.heap.size wo w'->(w'.cell? ⟨g,0,none⟩=some (.int .i64 o.fFixed)/\w'.cell? ⟨g,1,none⟩=some (.int .i64 o.fPerLeft)/\w'.cell? ⟨g,2,none⟩=some (.int .i64 o.fPerRight)/\w'.cell? ⟨g,3,none⟩=some (.int .i64 o.fPerOutput)/\w'.cell? ⟨g,4,none⟩=some (.int .i64 o.fPerPair)/\w'.cell? ⟨g,5,none⟩=some (.slice A1 n1 c1)/\w'.cell? ⟨w.heap.size+1,0,none⟩=some (.int .i64 a)/\w'.cell? ⟨bZ,oZ+a,none⟩=some (.int .i64 s)/\w'.cell? ⟨w.heap.size+1,2,none⟩=some (.int .i64 x)/\w'.cell? ⟨bI,oI+x*4,none⟩=some (.int .i64 a1)/\w'.cell? ⟨bZ,oZ+a1,none⟩=some (.int .i64 s1)/\w'.cell? ⟨w.heap.size+1,3,none⟩=some (.int .i64 x2)/\w'.cell? ⟨bI,oI+x2*4,none⟩=some (.int .i64 a2)/\w'.cell? ⟨bZ,oZ+a2,none⟩=some (.int .i64 s2))):=by
  show ∀ w',_->_;intro w' hc;exact⟨(bxo.below hc) 0 _ rfl,(bxo.below hc) 1 _ rfl,(bxo.below hc) 2 _ rfl,(bxo.below hc) 3 _ rfl,(bxo.below hc) 4 _ rfl,(bxo.below hc) 5 _ rfl,(bxy.below hc) 0 _ rfl,cells_below hc _ _ hcs,(bxy.below hc) 2 _ rfl,cells_below hc _ _ hdx,cells_below hc _ _ hex,(bxy.below hc) 3 _ rfl,cells_below hc _ _ hdx2,cells_below hc _ _ hex2⟩
 have ky2:=bxy 2 _ rfl;have ky3:=bxy 3 _ rfl;go_wp2;refine hbg HSS.out (Below.refl _ _).drew (fun hH=>?_);refine tq4 0 hH ?_;simp only [putS];refine tq4 4 hH ?_;simp only [putS];refine tq4 8 hH ?_;simp only [putS];refine tq4 12 hH ?_;simp only [putS];refine tq4 16 hH ?_;simp only [putS];refine tq4 20 hH ?_;simp only [putS];refine rd 24 (some 78) fun K hK=>?_;clear hH;go_simp;refine(K1.out _ (Below.refl wo.heap.size wo).drew).mono ?_;rintro e w2 ⟨rfl,hb2⟩
 go_wp2_with fail
 refine hK.out _ _ (HSS.out _ ((Below.refl wo.heap.size wo).drew.trans (hb2.mono (by simp)))) (fun hH=>?_);clear hK K
 try simp only [putS]
 refine tq1 25 hH ?_;simp only [putS];refine wpAnyH_done (by kernel_rfl) ?_ _;clear hH;go_wp2;go_ret;exact⟨ret_int (by rw [HO.out];exact(costJoin rfl rfl hxy.out hx2y.out HS.out HSx.out HSx2.out).symm),hB.trans (((Below.refl wo.heap.size wo).drew.trans (hb2.mono (by simp))).mono hB.size)⟩
theorem step_appB {α:Type}{r:Rp α}{B M:Nat}{e:TypeId}{w:World}{A:Option Addr}{n cap:Nat}{l:List α}{P:Program}{ops:Array Oper}{o:Oper}{a:Act}{K:Act->World->Prop}{Q:Exit->Act->World->Prop}{E:Prop}(hgd:o.guard=none) (s x:Operand) (t:TypeId)
  (ho:o.op=.call { callee:=.builtin .append,args:=#[s,x],argTypes:=#[t,t] }) (z:Value) (bytes:Nat) (ei:Ei P t e z r.size bytes) (hr:r.Ok) {wr:World}
  (hs:a.eval s=.slice A n cap) (h:MS B M e r wr A n cap l) (hb:Below wr.heap.size wr w) (hB:B<=wr.heap.size)
  (ad:Addr) (hx:a.eval x=.slice (some ad) 1 1) {f:List Nat} {cs:List Value} {y:α} (hy:r.own w f cs y) (hf:Fr wr.heap.size f) (hc:∀ j u,cs[j]?=some u->w.cell? (ad.add j)=some u)
  (hn:n+1<=M) (hM:M<=4294967296) (hby:(n+1)*bytes<=140737488355328)
  (hK:∀ A' cap' w',MS B M e r w' A' (n+1) cap' (l++[y])->Below B w w'->w.grownBy w' (A.map (·.block))->(A'.map (·.block)=A.map (·.block)\/A'.map (·.block)=some w.heap.size)->K (a.put o.dst (.slice A' (n+1) cap')) w') :
  if Region.wanted o (yielded ops a.tmps)=true then Oper.wp P o a w K Q else E:=by
 have hw:Region.wanted o (yielded ops a.tmps)=true:=by simp [Region.wanted,hgd]
 rw [if_pos hw];obtain⟨i,hi,h1,h2,h3⟩:=info_parts ei.hi;obtain⟨fp,hO,hfr⟩:=h;have hO':=hO.belowS hr hb;obtain⟨css,fps,h4,_,h6⟩:=hO'.ex;obtain⟨v',w',hrun,r1,r2,_,r4⟩:=run_append_own_at (P:=P) w 0 t o.type e i z r.size bytes ei.ht hi h1 h2 h3 ei.hz hr.pos (.slice A n cap) n css.flatten h4 ad 1 1 cs (by rw [hr.len (hr.toRep hy),Nat.one_mul]) hc (hr.one (hr.toRep hy)) (by unfold maxLen;omega) hby (Nat.zero_le _);obtain⟨A',cap',rfl⟩:=ownsRow_slice r1;rw [blk_own]at r2 r4;rw [blk_own]at r4;unfold Oper.wp execOp;simp only [ho,resolve,invoke,builtin,Sem.run_bind,Sem.run_pure,Result.andThen_ok,List.map_toArray,List.map_cons,List.map_nil,hs,hx,hrun]
 refine hK A' cap' w' (MS.app1 hr ⟨fp,hO,hfr⟩ hb hB hy hf hn (fun css' hcss=>?_) r2 r4) (MS.grown ⟨fp,hO,hfr⟩ hb hB r2) r2 r4
 have:css'=css.flatten:=by
  rcases (ownsRow_form h4).2 with ⟨rfl,rfl,_⟩|⟨g,rfl,_⟩
  ·have e1:=h4.1;have e2:=hcss.1;rw [Nat.zero_mul]at e1 e2;rw [List.eq_nil_of_length_eq_zero e2,List.eq_nil_of_length_eq_zero e1]
  ·refine List.ext_getElem? fun j=>?_
   by_cases hj:j<n*r.size
   ·rw [<- h4.cellAt j hj,<- hcss.cellAt j hj]
   ·rw [List.getElem?_eq_none (by rw [hcss.1];omega),List.getElem?_eq_none (by rw [h4.1];omega)]
 rw [this];exact r1
theorem stepCosts_none {m:ModelD}{q:QueryD}{p:PlanD}{z:List Int}(h:planInfo q p=none):stepCosts m q p z=[]:=by unfold stepCosts;rw [h]
theorem stepCosts_bad {m:ModelD}{q:QueryD}{p:PlanD}{z:List Int}(h:isSizes q z=false):stepCosts m q p z=[]:=by unfold stepCosts;rw [h];cases planInfo q p<;>rfl
theorem stepCosts_ok {m:ModelD}{q:QueryD}{p:PlanD}{z:List Int}{l:List StepInfoD}(h:planInfo q p=some l) (hz:isSizes q z=true):stepCosts m q p z=(p.fSteps.zip l).map (stepCost m z l):=by unfold stepCosts;rw [h];simp [hz]
theorem stepCosts_at {m:ModelD}{q:QueryD}{p:PlanD}{z:List Int}{l:List StepInfoD}(h:planInfo q p=some l) (hz:isSizes q z=true) {k:Nat}{x:PlanStepD}{y:StepInfoD}(hx:p.fSteps[k]?=some x) (hy:l[k]?=some y):(stepCosts m q p z)[k]?=some (costOf m z l x.fKind y):=by
 rw [stepCosts_ok h hz,List.getElem?_map,show(p.fSteps.zip l)[k]?=some (x,y) from List.getElem?_zip_eq_some.2 ⟨hx,hy⟩];rfl
theorem stepCosts_len {m:ModelD}{q:QueryD}{p:PlanD}{z:List Int}{l:List StepInfoD}(h:planInfo q p=some l) (hz:isSizes q z=true):(stepCosts m q p z).length=l.length:=by
 obtain⟨_,_,_,_,_,h2,_⟩:=planInfo_parts h;rw [stepCosts_ok h hz];simp;omega
theorem infoAt_nat {l:List StepInfoD}{k:Nat}{y:StepInfoD}(h:l[k]?=some y):infoAt l (k:Int)=y:=by unfold infoAt;rw [Int.toNat_natCast,h];rfl
theorem sStepCosts_c (csm:List Value) (m:ModelD) (csq:List Value) (q:QueryD) (csp:List Value) (p:PlanD) (Az:Option Addr) (nz cz:Nat) (z:List Int) (w:World) (hm:(rModel NB).rep w csm m) (hq:(rQuery NB).rep w csq q) (hp:(rPlan NB).rep w csp p) (hz:RS NB rInt w Az nz cz z) :
  Calls Tryz.prog 166 #[.agg csm.toArray,.agg csq.toArray,.agg csp.toArray,.slice Az nz cz] w (RetS 3 rInt (stepCosts m q p z) w):=by
 have rm:=hm;have lenm:=(rModel_ok NB).len hm;clear hm;have rq:=hq;obtain⟨Aq_e,nq_e,cq_e,rfl,hq_p5,hq_e⟩:=rQuery_rep.1 hq;clear hq;have rp:=hp;obtain⟨Ap_d5,np_d5,cp_d5,rfl,hp_d5⟩:=rPlan_rep.1 hp;clear hp;obtain⟨hB,bxm,bxq,bxp⟩:=op3 w csm 46 [.int .i64 q.fVariableCount,.slice Aq_e nq_e cq_e] 50 [.slice Ap_d5 np_d5 cp_d5] 76;have hnp:=hp_d5.bound;have hnz:=hz.bound;have HLp:=Lib.hid hp_d5.len;have lenm':csm.length=30:=lenm;clear lenm
 go_enter Tryz.func166,Tryz.ntmps166
 go_upto_region 1 with fail
 obtain⟨wb,hwb⟩:∃ W,W=((w.alloc (.cells csm.toArray 46)).alloc (.cells #[.int .i64 q.fVariableCount,.slice Aq_e nq_e cq_e] 50)).alloc (.cells #[.slice Ap_d5 np_d5 cp_d5] 76):=⟨_,rfl⟩;rw [<- hwb]at hB bxm bxq bxp ⊢;clear hwb
 go_upto_region 2 with fail
 have hO0:MS wb.heap.size NB 3 rInt (wb.alloc (.cells #[] 3)) (some ⟨wb.heap.size,0,none⟩) 0 0 []:=MS.empty _ (Nat.le_refl _);have hE:=(Below.refl wb.heap.size wb).alloc (Nat.le_refl _) (.cells #[] 3);obtain⟨wc,hwc⟩:∃ W,W=wb.alloc (.cells #[] 3):=⟨_,rfl⟩;have hsc:wc.heap.size=wb.heap.size+1:=by rw [hwc];simp
 rw [<- hwc]at hO0 hE ⊢;clear hwc;have hB1:=hB.trans (hE.mono hB.size);have kq_0:=(bxq.below hE) 0 _ rfl;have kq_1:=(bxq.below hE) 1 _ rfl;have kp_0:=(bxp.below hE) 0 _ rfl
 go_wp2_with fail
 refine(sPlanInfo_c _ q _ p _ ((rQuery_ok NB).keep rq (cells_below hB1)) ((rPlan_ok NB).keep rp (cells_below hB1))).mono ?_;rintro e we ⟨AI,nI,cI,rfl,hMI,hbe⟩;replace hO0:=hO0.below rInt_ok hbe;replace hE:=hE.trans (hbe.mono hE.size);replace hB1:=hB1.trans (hbe.mono hB1.size);clear hbe kq_0 kq_1 kp_0;cases hpi:planInfo q p with
 | none =>
  rw [hpi]at hMI;have HN:=Lib.hid hpi;clear hpi;dsimp only [Option.getD,Option.isSome]at hMI ⊢;go_wp2;go_ret;rw [stepCosts_none HN.out];exact⟨_,_,_,rfl,hO0.base hB.size,hB1⟩
 | some l =>
  rw [hpi]at hMI;dsimp only [Option.getD,Option.isSome]at hMI ⊢;have HPI:=Lib.hid hpi;clear hpi;have kq_0:=(bxq.below hE) 0 _ rfl;have kq_1:=(bxq.below hE) 1 _ rfl
  go_wp2_with fail
  refine(sIsSizeVector_c _ q _ _ _ z _ ((rQuery_ok NB).keep rq (cells_below hB1)) (hz.below rInt_ok hB1)).mono ?_;rintro e wf ⟨rfl,hbf⟩;replace hO0:=hO0.below rInt_ok hbf;replace hMI:=hMI.below (rStepInfo_ok NB) hbf;replace hE:=hE.trans (hbf.mono hE.size);replace hB1:=hB1.trans (hbf.mono hB1.size);clear hbf kq_0 kq_1;cases e1:isSizes q z
  ·have HN:=Lib.hid e1;clear e1
   go_wp2;go_ret;rw [stepCosts_bad HN.out];exact⟨_,_,_,rfl,hO0.base hB.size,hB1⟩
  have HZ:=Lib.hid e1;clear e1;have HLI:=Lib.hid hMI.len
  obtain⟨hI14,hIp⟩:nI<=14/\nI=np_d5:=by
   obtain⟨_,_,h3,_,_,h6,_⟩:=planInfo_parts HPI.out;have:=HLI.out;have:=HLp.out;omega
  have HIP:=Lib.hid hIp;clear hIp;have HSL:Hid ((stepCosts m q p z).length=nI):=by show _=_;rw [stepCosts_len HPI.out HZ.out];exact HLI.out
  have hdj0:∀ z∈blk (some (⟨wb.heap.size,0,none⟩:Addr)),z∉blk AI:=by
   intro x hx hx2;have h1:=(hMI.blkB (rStepInfo_ok NB) x hx2).1;have h2:=(mem_blk.1 hx);injection h2 with h2;simp only at h2;omega
  go_wp2
  go_loopw [9,12] (fun so i wr=>∃ (k:Nat) (AO:Option Addr) (cO:Nat),k<=nI/\i=.int .i64 k/\so=.slice AO k cO/\MS wb.heap.size NB 3 rInt wr AO k cO ((stepCosts m q p z).take k)/\MS wc.heap.size NB 243 (rStepInfo NB) wr AI nI cI l/\(∀ z∈blk AO,z∉blk AI)/\Below wb.heap.size wb wr) (fun _ i _=>nI - (intOf i).toNat)
  case atStart=>exact⟨0,_,0,Nat.zero_le _,rfl,rfl,hO0,hMI,hdj0,hE⟩
  case round =>
   clear hO0 hMI hE hB1 hdj0;obtain⟨k,AO,cO,hk,rfl,rfl,hO,hMI,hdj,hE⟩:=hrel;have HDJ:=Lib.hid hdj;clear hdj;have hB2:=hB.trans (hE.mono hB.size);by_cases hlt:k<nI
   ·have hkP:k<np_d5:=by have:=HIP.out;omega
    obtain⟨b,off,x,rfl,hc0,hc1,hc2,i0,i1,i2,hx⟩:=hp_d5.ePlanStep hkP;have HX:=Lib.hid hx.out;clear hx;obtain⟨bI,oI,y,rfl,hcy0,_,_,_,_,_,_,_,hy⟩:=(hMI.rs (rStepInfo_ok NB)).eStepInfo hlt;have HY:=Lib.hid hy.out;clear hy;clear hcy0;obtain⟨c,hc⟩:∃ c,c=costOf m z l x.fKind y:=⟨_,rfl⟩;have HC:Hid ((stepCosts m q p z)[k]?=some c):=by show _=_;rw [hc];exact stepCosts_at HPI.out HZ.out HX.out HY.out
    have hcI:I64 c:=by have:=(stepCosts_bd m q p z).2 c (mem_of_at HC.out);exact⟨by omega,by omega⟩
    have K1:Hid (∀ W,Below wr.heap.size wr W->Calls Tryz.prog 221 #[.agg csm.toArray,.int .i64 x.fKind,.slice (some ⟨bI,oI,none⟩) nI cI,.int .i64 (k:Int),.slice Az nz cz] W fun e w'=>e=.returned (.int .i64 c)/\Below W.heap.size W w'):=by
     show ∀ W,_->_;intro W hW;obtain⟨_,_,_,st,hRun,h6,_⟩:=planInfo_parts HPI.out;have hBW:=hB2.trans (hW.mono hB2.size);have:=sL24Step_c csm m x.fKind _ _ _ l k _ _ _ z W ((rModel_ok NB).keep rm (cells_below hBW)) ((hMI.rs (rStepInfo_ok NB)).below (rStepInfo_ok NB) hW) (hz.below rInt_ok hBW) q st HZ.out hRun (by omega) (by have:=HLI.out;omega) (planInfo_lr HPI.out) (by have:=HLI.out;omega);rw [infoAt_nat HY.out,<- hc]at this;exact this
    clear hc
    have HSS:Hid (∀ w',Below wb.heap.size wb w'->(w'.rangeAt w.heap.size 0 csm/\w'.cell? ⟨w.heap.size+1+1,0,none⟩=some (.slice (some ⟨b,off,none⟩) np_d5 cp_d5)/\w'.cell? ⟨b,off+k*3,none⟩=some (.int .i64 x.fKind))):=by
     show ∀ w',_->_;intro w' hb;have hz:=hB.trans (hb.mono hB.size);exact⟨(bxm.below hb).range,(bxp.below hb) 0 _ rfl,cells_below hz _ _ hc0⟩
    clear hc0 hc1 hc2;go_wp2;have hC0:=(Below.refl wr.heap.size wr).drew;refine hbg HSS.out hE.drew (fun hH=>?_);refine tq1 0 hH ?_;refine ldm 1 36 (fun w h=>h.1) Tryz.underlying46 (by rw [lenm'];exact sizeModel) hH ?_;simp only [putS];refine tq4 2 hH ?_;simp only [putS];refine tq4 6 hH ?_;simp only [putS];refine tq1 10 hH ?_;simp only [putS];refine rd 11 (some 46) fun K hK=>?_;clear hH;go_simp;refine(K1.out _ (Below.refl wr.heap.size wr).drew).mono ?_;rintro e w2 ⟨rfl,hb2⟩;have hC:Below wr.heap.size wr w2:=((Below.refl wr.heap.size wr).drew.trans (hb2.mono (by simp)));have hE2:=hE.trans (hC.mono hE.size)
    have hC3:=hC.alloc hC.size (.cells #[.int .i64 c] 3);have hE3:=hE2.alloc hE2.size (.cells #[.int .i64 c] 3)
    go_wp2_with fail
    refine hK.out _ _ (HSS.out _ hE2) (fun hH=>?_);clear hK K
    try simp only [putS]
    refine rd 12 (some 47) fun K hK=>?_;clear hH;go_simp;refine hK.out _ _ (HSS.out _ hE3) (fun hH=>?_);clear hK K
    try simp only [putS]
    refine rd 13 (some 48) fun K hK=>?_;clear hH;refine step_appB (by rfl) _ _ 30 (by rfl) _ 8 eiInt rInt_ok (by rfl) hO hC3 hE.size ⟨w2.heap.size,0,none⟩ (by rfl) (f:=[]) (cs:=[.int .i64 c]) (y:=c) ⟨rfl,rfl,hcI⟩ (Fr.nil _) (cells_new _ _ _) (by unfold NB;omega) (Nat.le_refl _) (by omega) ?_;intro AO2 cO2 w9 hO9 hb9 hg9 hA9;have hE9:=hE3.trans hb9;refine hK.out _ _ (HSS.out _ hE9) (fun hH=>?_);clear hK K
    try simp only [putS]
    refine tq1 14 hH ?_;simp only [putS];refine wpAnyH_done (by kernel_rfl) ?_ _;clear hH;clear HSS K1;go_wp2;go_roundw
    case rel =>
     have hMI3:=hMI.below (rStepInfo_ok NB) hC3;exact⟨k+1,AO2,cO2,by omega,by go_num,rfl,by rw [take_snoc HC.out];exact hO9,hMI3.keepG (rStepInfo_ok NB) (rStepInfo_nofp NB) hg9 HDJ.out,disj_app HDJ.out hA9 (fun z hz=>(hMI3.blkB (rStepInfo_ok NB) z hz).2),hE9⟩
    case measure=>simp [intOf];omega
   ·have HE:Hid ((stepCosts m q p z).take k=stepCosts m q p z):=by show _=_;exact take_all HSL.out hlt
    go_wp2;go_ret;exact⟨_,_,_,rfl,by have h:=hO.base hB.size;rw [HE.out]at h;exact h,hB2⟩
def RetN (l:List Int) (w:World) (e:Ending) (w':World):Prop:=∃ A n c,e=.returned (.slice A n c)/\MS w.heap.size NB 3 rInt w' A n c l/\Below w.heap.size w w'/\(l=[]->A=none/\n=0/\c=0)
theorem Bk.grownB {w w':World}{g:Nat}{t:TypeId}{cs:List Value}{A:Option Addr}(h:Bk w g t cs) (hg:w.grownBy w' (A.map (·.block))) (hn:g∉blk A):Bk w' g t cs :=
 (hg.block g h.lt (fun e=>hn (mem_blk.2 e.symm))).trans h
theorem iStepCosts_c (csm:List Value) (m:ModelD) (csq:List Value) (q:QueryD) (csp:List Value) (p:PlanD) (Az:Option Addr) (nz cz:Nat) (z:List Int) (w:World) (hm:(rModel NB).rep w csm m) (hq:(rQuery NB).rep w csq q) (hp:(rPlan NB).rep w csp p) (hz:RS NB rInt w Az nz cz z) :
  Calls Tryz.prog 226 #[.agg csm.toArray,.agg csq.toArray,.agg csp.toArray,.slice Az nz cz] w (RetN (stepCosts m q p z) w):=by
 have rm:=hm;have lenm:=(rModel_ok NB).len hm;clear hm;have rq:=hq;obtain⟨Aq_e,nq_e,cq_e,rfl,hq_p5,hq_e⟩:=rQuery_rep.1 hq;clear hq;have rp:=hp;obtain⟨Ap_d5,np_d5,cp_d5,rfl,hp_d5⟩:=rPlan_rep.1 hp;clear hp;obtain⟨hB,bxm,bxq,bxp⟩:=op3 w csm 46 [.int .i64 q.fVariableCount,.slice Aq_e nq_e cq_e] 50 [.slice Ap_d5 np_d5 cp_d5] 76;have hnp:=hp_d5.bound;have hnz:=hz.bound;have HLp:=Lib.hid hp_d5.len;have lenm':csm.length=30:=lenm;clear lenm
 go_enter Tryz.func226,Tryz.ntmps226
 have kq_0:=bxq 0 _ rfl;have kq_1:=bxq 1 _ rfl;have kp_0:=bxp 0 _ rfl
 go_wp2_with fail
 refine(iPlanInfo_c _ q _ p _ ((rQuery_ok NB).keep rq (cells_below hB)) ((rPlan_ok NB).keep rp (cells_below hB))).mono ?_;rintro e w1 ⟨AI,nI,cI,rfl,hMI,hb1⟩;replace hB:=hB.trans (hb1.mono hB.size);replace bxm:=bxm.below hb1;replace bxq:=bxq.below hb1;replace bxp:=bxp.below hb1;clear hb1 kq_0 kq_1 kp_0;cases hpi:planInfo q p with
 | none =>
  have HN:=Lib.hid hpi;clear hpi;dsimp only [Option.getD,Option.isSome]at hMI ⊢;go_wp2;go_ret;rw [stepCosts_none HN.out];exact⟨none,0,0,rfl,MS.nil _ (Nat.zero_le _),hB,fun _=>⟨rfl,rfl,rfl⟩⟩
 | some l =>
  rw [hpi]at hMI;dsimp only [Option.getD,Option.isSome]at hMI ⊢;have HPI:=Lib.hid hpi;clear hpi;have kq_0:=bxq 0 _ rfl;have kq_1:=bxq 1 _ rfl
  go_wp2_with fail
  refine(iIsSizeVector_c _ q _ _ _ z _ ((rQuery_ok NB).keep rq (cells_below hB)) (hz.below rInt_ok hB)).mono ?_;rintro e w2 ⟨rfl,hb2⟩;replace hB:=hB.trans (hb2.mono hB.size);replace bxm:=bxm.below hb2;replace bxq:=bxq.below hb2;replace bxp:=bxp.below hb2;replace hMI:=hMI.below (rStepInfo_ok NB) hb2;clear hb2 kq_0 kq_1;cases e1:isSizes q z
  ·have HN:=Lib.hid e1;clear e1
   go_wp2;go_ret;rw [stepCosts_bad HN.out];exact⟨none,0,0,rfl,MS.nil _ (Nat.zero_le _),hB,fun _=>⟨rfl,rfl,rfl⟩⟩
  have HZ:=Lib.hid e1;clear e1;have HLI:=Lib.hid hMI.len
  obtain⟨hI14,hIp,hp1⟩:nI<=14/\nI=np_d5/\1<=np_d5:=by
   obtain⟨_,h2,h3,_,_,h6,_⟩:=planInfo_parts HPI.out;have:=HLI.out;have:=HLp.out;omega
  have HIP:=Lib.hid hIp;clear hIp;have HSL:Hid ((stepCosts m q p z).length=np_d5):=by show _=_;rw [stepCosts_len HPI.out HZ.out];have:=HLI.out;have:=HIP.out;omega
  have hO0:=MS.empty (B:=w2.heap.size) (M:=NB) (e:=3) (r:=rInt) w2 (Nat.le_refl _);have hE0:=(Below.refl w2.heap.size w2).alloc (Nat.le_refl _) (.cells #[] 3);have kp_0:=(bxp.below hE0) 0 _ rfl;go_wp2;clear kp_0
  go_loopw [11,34] (fun so i wr=>∃ (k:Nat) (AO:Option Addr) (cO:Nat),k<=np_d5/\i=.int .i64 k/\so=.slice AO k cO/\MS w2.heap.size NB 3 rInt wr AO k cO ((stepCosts m q p z).take k)/\Below w2.heap.size w2 wr) (fun _ i _=>np_d5 - (intOf i).toNat)
  case atStart=>exact⟨0,_,0,Nat.zero_le _,rfl,rfl,hO0,hE0⟩
  case round =>
   clear hO0 hE0;obtain⟨k,AO,cO,hk,rfl,rfl,hO,hE⟩:=hrel;have hB2:=hB.trans (hE.mono hB.size);by_cases hlt:k<np_d5
   ·obtain⟨b,off,⟨xk,xa,xo⟩,rfl,hc0,hc1,hc2,i0,i1,i2,hx⟩:=hp_d5.ePlanStep hlt
    dsimp only at hc0 hc1 hc2 i0 i1 i2
    have hxk:1<=xk/\xk<=5:=by
     obtain⟨_,_,_,_,_,_,h7⟩:=planInfo_parts HPI.out;exact h7 _ (mem_of_at hx.out)
    obtain⟨kk,rfl⟩:∃ kk:Nat,xk=(kk:Int)+1:=⟨(xk - 1).toNat,by omega⟩;have hkk:kk<5:=by omega
    clear hxk;have HX:=Lib.hid hx.out;clear hx;obtain⟨o,A,n,c,Ho,hOA⟩:=modelAt rm hB bxm hkk;have HOP:Hid (opOf m ((kk:Int)+1)=o):=by show _=_;have:=Ho.out;rw [opOf_at m hkk]at this;injection this
    clear Ho;have hOA0:=hOA;replace hOA:=hOA.below hE;obtain⟨bI,oI,⟨ym,yo,yl,yr⟩,rfl,hy0,hy1,hy2,hy3,hi0',hi1',hi2',hi3',hy⟩:=(hMI.rs (rStepInfo_ok NB)).eStepInfo (k:=k) (by have:=HIP.out;omega);dsimp only at hy0 hy1 hy2 hy3 hi0' hi1' hi2' hi3';have hyA:=hy0
    obtain⟨st,hR⟩:∃ st,Run q.fAtoms.length l st:=by
     obtain⟨_,_,_,st,h,_,_⟩:=planInfo_parts HPI.out;exact⟨st,h⟩
    have hmk:=hR.mask _ (mem_of_at hy.out);have hkd:=hR.kids k _ hy.out;have hyr:=planInfo_lr HPI.out _ (mem_of_at hy.out);dsimp only at hmk hkd hyr;obtain⟨a,rfl⟩:∃ a:Nat,ym=a:=⟨ym.toNat,by omega⟩;obtain⟨za1,za2,za3,za4⟩:=sizeAt_at HZ.out (m:=(a:Int)) (by omega) hmk.2;rw [Int.toNat_natCast]at za1 za2;have hanz:a<nz:=by have:=hz.len;omega
    obtain⟨bZ,oZ,s,rfl,hcs,hIs,hxs⟩:=hz.ati hanz;have hcA:=hcs;have HS:Hid (sizeAt z (a:Int)=s):=by show _=_;have:=hxs.out;rw [za2]at this;injection this
    rw [HS.out]at za3 za4;clear za1 za2 hxs;obtain⟨v,hv⟩:∃ v,v=costOf m z l ((kk:Int)+1) ⟨a,yo,yl,yr⟩:=⟨_,rfl⟩;have HC:Hid ((stepCosts m q p z)[k]?=some v):=by show _=_;rw [hv];have h:=stepCosts_at (m:=m) HPI.out HZ.out HX.out hy.out;dsimp only at h;exact h
    have HV:=Lib.hid hv;clear hv;have hvI:I64 v:=by have:=(stepCosts_bd m q p z).2 v (mem_of_at HC.out);exact⟨by omega,by omega⟩
    have HBO:Hid (∀ x∈blk AO,x<wr.heap.size):=by show ∀ x∈blk AO,_;exact fun x hx=>(hO.blkB rInt_ok x hx).2
    have mj:IntKind.i64.wrap (kk:Int)=(kk:Int):=IntWalk.i64_in _ (by omega);have hkk5:(kk:Int)<5:=by omega
    have hkI:(k:Int)<(nI:Int):=by have:=HIP.out;omega
    replace hc0:=cells_below hB2 _ _ hc0;replace hc1:=cells_below hB2 _ _ hc1;replace hc2:=cells_below hB2 _ _ hc2
    go_upto_region 8 with fail
    have bkx:=Bk.new wr [.int .i64 ((kk:Int)+1),.int .i64 xa,.int .i64 xo] 173;have hAx:=(Below.refl wr.heap.size wr).alloc (Nat.le_refl _) (.cells #[.int .i64 ((kk:Int)+1),.int .i64 xa,.int .i64 xo] 173);obtain⟨wx,hwx⟩:∃ W,W=wr.alloc (.cells #[.int .i64 ((kk:Int)+1),.int .i64 xa,.int .i64 xo] 173):=⟨_,rfl⟩;rw [<- hwx]at hAx ⊢;replace bkx:Bk wx wr.heap.size 173 [.int .i64 ((kk:Int)+1),.int .i64 xa,.int .i64 xo]:=by rw [hwx];exact bkx
    clear hwx hc0 hc1 hc2;have hE3:=hE.trans (hAx.mono hE.size);have hB3:=hB2.trans (hAx.mono hB2.size);replace hOA:=hOA.below hAx;obtain⟨gx,hgx⟩:∃ g,g=wr.heap.size:=⟨_,rfl⟩;rw [<- hgx]at bkx ⊢;have HGX:=Lib.hid hgx;clear hgx;replace hy0:=cells_below hE3 _ _ hy0;replace hy2:=cells_below hE3 _ _ hy2;replace hy3:=cells_below hE3 _ _ hy3;replace hcs:=cells_below hB3 _ _ hcs;clear hy1
    have HSS:Hid (∀ w',(Below w2.heap.size w2 w'/\Bk w' gx 173 [.int .i64 ((kk:Int)+1),.int .i64 xa,.int .i64 xo])->(w'.cell? ⟨gx,0,none⟩=some (.int .i64 ((kk:Int)+1))/\w'.cell? ⟨w.heap.size,kk*6,none⟩=some (.int .i64 o.fFixed)/\w'.cell? ⟨w.heap.size,kk*6+1,none⟩=some (.int .i64 o.fPerLeft)/\w'.cell? ⟨w.heap.size,kk*6+2,none⟩=some (.int .i64 o.fPerRight)/\w'.cell? ⟨w.heap.size,kk*6+3,none⟩=some (.int .i64 o.fPerOutput)/\w'.cell? ⟨w.heap.size,kk*6+4,none⟩=some (.int .i64 o.fPerPair)/\w'.cell? ⟨w.heap.size,kk*6+5,none⟩=some (.slice A n c)/\w'.cell? ⟨bI,oI+k*4,none⟩=some (.int .i64 a)/\w'.cell? ⟨bZ,oZ+a,none⟩=some (.int .i64 s))):=by
     show ∀ w',_->_;intro w' hq;have h6:=(hOA0.below hq.1);exact⟨hq.2.bx 0 _ rfl,h6.c0,h6.c1,h6.c2,h6.c3,h6.c4,h6.c5,cells_below hq.1 _ _ hyA,cells_below (hB.trans (hq.1.mono hB.size)) _ _ hcA⟩
    by_cases hl0:yl<0
    ·have hr0:=hyr hl0
     clear hyr hkd;have HCO:Hid (v=opCostV o s 0 s):=by show _=_;rw [HV.out,<- HOP.out];exact costScan hl0 hr0 HS.out
     have K1:Hid (∀ W,Below wx.heap.size wx W->Calls Tryz.prog 247 #[.agg #[.int .i64 o.fFixed,.int .i64 o.fPerLeft,.int .i64 o.fPerRight,.int .i64 o.fPerOutput,.int .i64 o.fPerPair,.slice A n c],.int .i64 s,.int .i64 0,.int .i64 s] W fun e w'=>e=.returned (.int .i64 v)/\Below W.heap.size W w'):=by
      show ∀ W,_->_;intro W hW;have:=iOperatorCost_c _ o s 0 s W (hOA.below hW).rep;rw [<- HCO.out]at this;exact this
     go_wp2;refine hbg HSS.out ⟨hE3.drew,bkx.below (Below.refl _ _).drew⟩ (fun hH=>?_);refine tq1 0 hH ?_;refine tq2 2 hH ?_;refine tq1 4 hH ?_;simp only [putS];refine tq4 9 hH ?_;simp only [putS];refine tq4 13 hH ?_;simp only [putS];refine tq2 17 hH ?_;simp only [putS];refine rd 1 (some 84) fun K hK=>?_;clear hH;go_simp;refine(iOperators_c _ 0 _).mono ?_;rintro e w4 ⟨rfl,bxp4,hb4⟩;have hC4:Below wx.heap.size wx w4:=((Below.refl wx.heap.size wx).drew.trans (hb4.mono (by simp)));have kp4:w4.cell? ⟨wx.heap.size,kk,none⟩=some (.pointer (some ⟨w.heap.size,kk*6,none⟩)):=ptr_at6 bxp4 hkk
     go_wp2_with fail
     refine hK.out _ _ (HSS.out _ ⟨hE3.trans (hC4.mono hE3.size),bkx.below hC4⟩) (fun hH=>?_);clear hK K
     try simp only [putS]
     refine tq1 5 hH ?_;simp only [putS];refine rd 6 (some 89) fun K hK=>?_;clear hH;go_simp;refine hK.out _ _ (HSS.out _ ⟨hE3.trans (hC4.mono hE3.size),bkx.below hC4⟩) (fun hH=>?_);clear hK K
     try simp only [putS]
     refine tq2 7 hH ?_;simp only [putS];refine rd 19 (some 102) fun K hK=>?_;clear hH;go_simp;refine(K1.out _ hC4).mono ?_;rintro e w5 ⟨rfl,hb5⟩;have hC5:=hC4.trans (hb5.mono hC4.size);have hC6:=hC5.alloc hC5.size (.cells #[.int .i64 v] 3);have hE6:=hE3.trans (hC6.mono hE3.size);have hX6:=hAx.trans (hC6.mono hAx.size)
     go_wp2_with fail
     refine hK.out _ _ (HSS.out _ ⟨hE3.trans (hC5.mono hE3.size),bkx.below hC5⟩) (fun hH=>?_);clear hK K
     try simp only [putS]
     refine rd 20 (some 103) fun K hK=>?_;clear hH;go_simp;refine hK.out _ _ (HSS.out _ ⟨hE6,bkx.below hC6⟩) (fun hH=>?_);clear hK K
     try simp only [putS]
     refine rd 21 (some 104) fun K hK=>?_;clear hH;refine step_appB (by rfl) _ _ 30 (by rfl) _ 8 eiInt rInt_ok (by rfl) hO hX6 hE.size ⟨w5.heap.size,0,none⟩ (by rfl) (f:=[]) (cs:=[.int .i64 v]) (y:=v) ⟨rfl,rfl,hvI⟩ (Fr.nil _) (cells_new _ _ _) (by unfold NB;omega) (Nat.le_refl _) (by omega) ?_;intro AO2 cO2 w9 hO9 hb9 hg9 hA9;have hE9:=hE6.trans hb9;have hk9:=(bkx.below hC6).grownB hg9 (fun h=>by have:=HBO.out _ h;have:=HGX.out;omega);refine hK.out _ _ (HSS.out _ ⟨hE9,hk9⟩) (fun hH=>?_);clear hK K
     try simp only [putS]
     refine tq1 22 hH ?_;simp only [putS];refine wpAnyH_done (by kernel_rfl) ?_ _;clear hH;clear HSS K1;go_wp2;go_roundw
     case rel=>exact⟨k+1,AO2,cO2,by omega,by go_num,rfl,by rw [take_snoc HC.out];exact hO9,hE9⟩
     case measure=>simp [intOf];omega
    clear hyr;obtain⟨x1,rfl⟩:∃ x:Nat,yl=x:=⟨yl.toNat,by omega⟩;have hxx:x1<nI:=by have:=HLI.out;have:=HIP.out;omega
    obtain⟨b',o',⟨a1m,a1o,a1l,a1r⟩,e',hdx,_,_,_,_,_,_,_,hxy⟩:=(hMI.rs (rStepInfo_ok NB)).eStepInfo (k:=x1) hxx;injection e' with e';injection e' with e1 e2;subst e1;subst e2;dsimp only at hdx;have hmx:=hR.mask _ (mem_of_at hxy.out);dsimp only at hmx;obtain⟨a1,rfl⟩:∃ a:Nat,a1m=a:=⟨a1m.toNat,by omega⟩;obtain⟨zx1,zx2,zx3,zx4⟩:=sizeAt_at HZ.out (m:=(a1:Int)) (by omega) hmx.2;rw [Int.toNat_natCast]at zx1 zx2;have hax:a1<nz:=by have:=hz.len;omega
    obtain⟨b',o',s1,e',hex,hIx,hkx⟩:=hz.ati hax;injection e' with e';injection e' with e1 e2;subst e1;subst e2;have HSx:Hid (sizeAt z (a1:Int)=s1):=by show _=_;have:=hkx.out;rw [zx2]at this;injection this
    rw [HSx.out]at zx3 zx4;clear zx1 zx2 hkx;replace hdx:=cells_below hE3 _ _ hdx;replace hex:=cells_below hB3 _ _ hex;clear hl0;have hxxI:(x1:Int)<(nI:Int):=by omega
    by_cases hr0:yr<0
    ·clear hkd
     have HCO:Hid (v=opCostV o s1 0 s):=by show _=_;rw [HV.out,<- HOP.out];exact costSort rfl hr0 hxy.out HS.out HSx.out
     have K1:Hid (∀ W,Below wx.heap.size wx W->Calls Tryz.prog 247 #[.agg #[.int .i64 o.fFixed,.int .i64 o.fPerLeft,.int .i64 o.fPerRight,.int .i64 o.fPerOutput,.int .i64 o.fPerPair,.slice A n c],.int .i64 s1,.int .i64 0,.int .i64 s] W fun e w'=>e=.returned (.int .i64 v)/\Below W.heap.size W w'):=by
      show ∀ W,_->_;intro W hW;have:=iOperatorCost_c _ o s1 0 s W (hOA.below hW).rep;rw [<- HCO.out]at this;exact this
     go_wp2;refine hbg HSS.out ⟨hE3.drew,bkx.below (Below.refl _ _).drew⟩ (fun hH=>?_);refine tq1 0 hH ?_;refine tq2 2 hH ?_;refine tq1 4 hH ?_;simp only [putS];refine tq4 9 hH ?_;simp only [putS];refine tq4 13 hH ?_;simp only [putS];refine tq2 17 hH ?_;simp only [putS];refine rd 1 (some 84) fun K hK=>?_;clear hH;go_simp;refine(iOperators_c _ 0 _).mono ?_;rintro e w4 ⟨rfl,bxp4,hb4⟩;have hC4:Below wx.heap.size wx w4:=((Below.refl wx.heap.size wx).drew.trans (hb4.mono (by simp)));have kp4:w4.cell? ⟨wx.heap.size,kk,none⟩=some (.pointer (some ⟨w.heap.size,kk*6,none⟩)):=ptr_at6 bxp4 hkk
     go_wp2_with fail
     refine hK.out _ _ (HSS.out _ ⟨hE3.trans (hC4.mono hE3.size),bkx.below hC4⟩) (fun hH=>?_);clear hK K
     try simp only [putS]
     refine tq1 5 hH ?_;simp only [putS];refine rd 6 (some 89) fun K hK=>?_;clear hH;go_simp;refine hK.out _ _ (HSS.out _ ⟨hE3.trans (hC4.mono hE3.size),bkx.below hC4⟩) (fun hH=>?_);clear hK K
     try simp only [putS]
     refine tq2 7 hH ?_;simp only [putS];refine rd 19 (some 102) fun K hK=>?_;clear hH;go_simp;refine(K1.out _ hC4).mono ?_;rintro e w5 ⟨rfl,hb5⟩;have hC5:=hC4.trans (hb5.mono hC4.size);have hC6:=hC5.alloc hC5.size (.cells #[.int .i64 v] 3);have hE6:=hE3.trans (hC6.mono hE3.size);have hX6:=hAx.trans (hC6.mono hAx.size)
     go_wp2_with fail
     refine hK.out _ _ (HSS.out _ ⟨hE3.trans (hC5.mono hE3.size),bkx.below hC5⟩) (fun hH=>?_);clear hK K
     try simp only [putS]
     refine rd 20 (some 103) fun K hK=>?_;clear hH;go_simp;refine hK.out _ _ (HSS.out _ ⟨hE6,bkx.below hC6⟩) (fun hH=>?_);clear hK K
     try simp only [putS]
     refine rd 21 (some 104) fun K hK=>?_;clear hH;refine step_appB (by rfl) _ _ 30 (by rfl) _ 8 eiInt rInt_ok (by rfl) hO hX6 hE.size ⟨w5.heap.size,0,none⟩ (by rfl) (f:=[]) (cs:=[.int .i64 v]) (y:=v) ⟨rfl,rfl,hvI⟩ (Fr.nil _) (cells_new _ _ _) (by unfold NB;omega) (Nat.le_refl _) (by omega) ?_;intro AO2 cO2 w9 hO9 hb9 hg9 hA9;have hE9:=hE6.trans hb9;have hk9:=(bkx.below hC6).grownB hg9 (fun h=>by have:=HBO.out _ h;have:=HGX.out;omega);refine hK.out _ _ (HSS.out _ ⟨hE9,hk9⟩) (fun hH=>?_);clear hK K
     try simp only [putS]
     refine tq1 22 hH ?_;simp only [putS];refine wpAnyH_done (by kernel_rfl) ?_ _;clear hH;clear HSS K1;go_wp2;go_roundw
     case rel=>exact⟨k+1,AO2,cO2,by omega,by go_num,rfl,by rw [take_snoc HC.out];exact hO9,hE9⟩
     case measure=>simp [intOf];omega
    obtain⟨x2,rfl⟩:∃ x:Nat,yr=x:=⟨yr.toNat,by omega⟩;have hxx2:x2<nI:=by have:=HLI.out;have:=HIP.out;omega
    obtain⟨b',o',⟨a2m,a2o,a2l,a2r⟩,e',hdx2,_,_,_,_,_,_,_,hx2y⟩:=(hMI.rs (rStepInfo_ok NB)).eStepInfo (k:=x2) hxx2;injection e' with e';injection e' with e1 e2;subst e1;subst e2;dsimp only at hdx2;have hmx2:=hR.mask _ (mem_of_at hx2y.out);dsimp only at hmx2;obtain⟨a2,rfl⟩:∃ a:Nat,a2m=a:=⟨a2m.toNat,by omega⟩;obtain⟨zy1,zy2,zy3,zy4⟩:=sizeAt_at HZ.out (m:=(a2:Int)) (by omega) hmx2.2;rw [Int.toNat_natCast]at zy1 zy2;have hay:a2<nz:=by have:=hz.len;omega
    obtain⟨b',o',s2,e',hey,hIy,hky⟩:=hz.ati hay;injection e' with e';injection e' with e1 e2;subst e1;subst e2;have HSx2:Hid (sizeAt z (a2:Int)=s2):=by show _=_;have:=hky.out;rw [zy2]at this;injection this
    rw [HSx2.out]at zy3 zy4;clear zy1 zy2 hky hr0;replace hdx2:=cells_below hE3 _ _ hdx2;replace hey:=cells_below hB3 _ _ hey;have hxxI2:(x2:Int)<(nI:Int):=by omega
    have HCO:Hid (v=opCostV o s1 s2 s):=by show _=_;rw [HV.out,<- HOP.out];exact costJoin rfl rfl hxy.out hx2y.out HS.out HSx.out HSx2.out
    have K1:Hid (∀ W,Below wx.heap.size wx W->Calls Tryz.prog 247 #[.agg #[.int .i64 o.fFixed,.int .i64 o.fPerLeft,.int .i64 o.fPerRight,.int .i64 o.fPerOutput,.int .i64 o.fPerPair,.slice A n c],.int .i64 s1,.int .i64 s2,.int .i64 s] W fun e w'=>e=.returned (.int .i64 v)/\Below W.heap.size W w'):=by
     show ∀ W,_->_;intro W hW;have:=iOperatorCost_c _ o s1 s2 s W (hOA.below hW).rep;rw [<- HCO.out]at this;exact this
    go_wp2;refine hbg HSS.out ⟨hE3.drew,bkx.below (Below.refl _ _).drew⟩ (fun hH=>?_);refine tq1 0 hH ?_;refine tq2 2 hH ?_;refine tq1 4 hH ?_;simp only [putS];refine tq4 9 hH ?_;simp only [putS];refine tq4 13 hH ?_;simp only [putS];refine tq2 17 hH ?_;simp only [putS];refine rd 1 (some 84) fun K hK=>?_;clear hH;go_simp;refine(iOperators_c _ 0 _).mono ?_;rintro e w4 ⟨rfl,bxp4,hb4⟩;have hC4:Below wx.heap.size wx w4:=((Below.refl wx.heap.size wx).drew.trans (hb4.mono (by simp)));have kp4:w4.cell? ⟨wx.heap.size,kk,none⟩=some (.pointer (some ⟨w.heap.size,kk*6,none⟩)):=ptr_at6 bxp4 hkk
    go_wp2_with fail
    refine hK.out _ _ (HSS.out _ ⟨hE3.trans (hC4.mono hE3.size),bkx.below hC4⟩) (fun hH=>?_);clear hK K
    try simp only [putS]
    refine tq1 5 hH ?_;simp only [putS];refine rd 6 (some 89) fun K hK=>?_;clear hH;go_simp;refine hK.out _ _ (HSS.out _ ⟨hE3.trans (hC4.mono hE3.size),bkx.below hC4⟩) (fun hH=>?_);clear hK K
    try simp only [putS]
    refine tq2 7 hH ?_;simp only [putS];refine rd 19 (some 102) fun K hK=>?_;clear hH;go_simp;refine(K1.out _ hC4).mono ?_;rintro e w5 ⟨rfl,hb5⟩;have hC5:=hC4.trans (hb5.mono hC4.size);have hC6:=hC5.alloc hC5.size (.cells #[.int .i64 v] 3);have hE6:=hE3.trans (hC6.mono hE3.size);have hX6:=hAx.trans (hC6.mono hAx.size)
    go_wp2_with fail
    refine hK.out _ _ (HSS.out _ ⟨hE3.trans (hC5.mono hE3.size),bkx.below hC5⟩) (fun hH=>?_);clear hK K
    try simp only [putS]
    refine rd 20 (some 103) fun K hK=>?_;clear hH;go_simp;refine hK.out _ _ (HSS.out _ ⟨hE6,bkx.below hC6⟩) (fun hH=>?_);clear hK K
    try simp only [putS]
    refine rd 21 (some 104) fun K hK=>?_;clear hH;refine step_appB (by rfl) _ _ 30 (by rfl) _ 8 eiInt rInt_ok (by rfl) hO hX6 hE.size ⟨w5.heap.size,0,none⟩ (by rfl) (f:=[]) (cs:=[.int .i64 v]) (y:=v) ⟨rfl,rfl,hvI⟩ (Fr.nil _) (cells_new _ _ _) (by unfold NB;omega) (Nat.le_refl _) (by omega) ?_;intro AO2 cO2 w9 hO9 hb9 hg9 hA9;have hE9:=hE6.trans hb9;have hk9:=(bkx.below hC6).grownB hg9 (fun h=>by have:=HBO.out _ h;have:=HGX.out;omega);refine hK.out _ _ (HSS.out _ ⟨hE9,hk9⟩) (fun hH=>?_);clear hK K
    try simp only [putS]
    refine tq1 22 hH ?_;simp only [putS];refine wpAnyH_done (by kernel_rfl) ?_ _;clear hH;clear HSS K1;go_wp2;go_roundw
    case rel=>exact⟨k+1,AO2,cO2,by omega,by go_num,rfl,by rw [take_snoc HC.out];exact hO9,hE9⟩
    case measure=>simp [intOf];omega
   ·have HE:Hid ((stepCosts m q p z).take k=stepCosts m q p z):=by show _=_;exact take_all HSL.out hlt
    go_wp2;go_ret;exact⟨_,_,_,rfl,by have h:=hO.base hB.size;rw [HE.out]at h;exact h,hB2,fun h=>absurd HSL.out (by rw [h];simp;omega)⟩
theorem planCost_0 {m:ModelD}{q:QueryD}{p:PlanD}{z:List Int}(h:(stepCosts m q p z).length=0):planCost m q p z=-1:=by unfold planCost;rw [if_pos h]
theorem planCost_1 {m:ModelD}{q:QueryD}{p:PlanD}{z:List Int}(h:(stepCosts m q p z).length≠0):planCost m q p z=(stepCosts m q p z).sum:=by unfold planCost;rw [if_neg h]
theorem planCost_bd (m:ModelD) (q:QueryD) (p:PlanD) (z:List Int):-28000000000<=planCost m q p z/\planCost m q p z<=28000000000:=by
 unfold planCost;split
 ·omega
 ·have h:=stepCosts_bd m q p z
  have:=sum_take_bd h.2 h.1 (stepCosts m q p z).length
  rwa [List.take_length]at this
def planCostAt (m:ModelD) (q:QueryD) (p:PlanD) (l:List Int):Int:=planCost m q p (locSizes l)
theorem sPlanCost_c (csm:List Value) (m:ModelD) (csq:List Value) (q:QueryD) (csp:List Value) (p:PlanD) (Az:Option Addr) (nz cz:Nat) (z:List Int) (w:World) (hm:(rModel NB).rep w csm m) (hq:(rQuery NB).rep w csq q) (hp:(rPlan NB).rep w csp p) (hz:RS NB rInt w Az nz cz z) :
  Calls Tryz.prog 97 #[.agg csm.toArray,.agg csq.toArray,.agg csp.toArray,.slice Az nz cz] w fun e w'=>e=.returned (.int .i64 (planCost m q p z))/\Below w.heap.size w w':=by
 have rm:=hm;have lenm:=(rModel_ok NB).len hm;clear hm;have rq:=hq;obtain⟨Aq_e,nq_e,cq_e,rfl,hq_p5,hq_e⟩:=rQuery_rep.1 hq;clear hq;have rp:=hp;obtain⟨Ap_d5,np_d5,cp_d5,rfl,hp_d5⟩:=rPlan_rep.1 hp;clear hp;obtain⟨hB,bxm,bxq,bxp⟩:=op3 w csm 46 [.int .i64 q.fVariableCount,.slice Aq_e nq_e cq_e] 50 [.slice Ap_d5 np_d5 cp_d5] 76;have hnz:=hz.bound;have lenm':csm.length=30:=lenm;clear lenm
 go_enter Tryz.func97,Tryz.ntmps97
 have kq_0:=bxq 0 _ rfl;have kq_1:=bxq 1 _ rfl;have kp_0:=bxp 0 _ rfl
 go_wp2_with (refine wpList_load_mid rfl 46 _ rfl w.heap.size 0 rfl csm _ bxm.range Tryz.underlying46 rfl (by rw [lenm'];exact sizeModel) ?_)
 refine(sStepCosts_c _ m _ q _ p _ _ _ z _ ((rModel_ok NB).keep rm (cells_below hB)) ((rQuery_ok NB).keep rq (cells_below hB)) ((rPlan_ok NB).keep rp (cells_below hB)) (hz.below rInt_ok hB)).mono ?_;rintro e w1 ⟨A,n,c,rfl,hM,hb1⟩;replace hB:=hB.trans (hb1.mono hB.size);replace bxm:=bxm.below hb1;replace bxq:=bxq.below hb1;replace bxp:=bxp.below hb1;clear hb1 kq_0 kq_1 kp_0;obtain⟨hb14,hbd⟩:=stepCosts_bd m q p z;have hn:=hM.len;have HN:=Lib.hid hn;have hR:=hM.rs rInt_ok;clear hM;cases e1:((n:Int)==0)
 rotate_left
 ·have h0:(stepCosts m q p z).length=0:=by simp at e1;omega
  go_wp2;go_ret;exact⟨ret_int (a:=-1) (planCost_0 h0).symm,hB⟩
 have h0:(stepCosts m q p z).length≠0:=by simp at e1;omega
 have HP:=Lib.hid (planCost_1 h0);clear h0;have HBD:=Lib.hid (fun k=>sum_take_bd hbd hb14 k);have HB1:Hid (∀ x∈stepCosts m q p z,-2000000000<=x/\x<=2000000000):=Lib.hid hbd;clear hn hbd hb14;go_wp2;clear e1
 go_loop [10,11] (fun v i=>∃ (k:Nat) (s:Int),k<=n/\i=.int .i64 k/\v=.int .i64 s/\s=((stepCosts m q p z).take k).sum) (fun _ i=>n - (intOf i).toNat)
 case atStart=>exact⟨0,0,Nat.zero_le _,rfl,rfl,by simp⟩
 case round =>
  obtain⟨k,s,hk,rfl,rfl,hs⟩:=hrel;have hsb:=HBD.out k;rw [<- hs]at hsb;have HS:=Lib.hid hs;clear hs;have hnb:=hR.bound;by_cases hlt:k<n
  ·obtain⟨b,off,x,rfl,hc,hI,hxk⟩:=hR.ati hlt
   have hx:=HB1.out x (mem_of_at hxk.out);have HX:=Lib.hid (sum_snoc hxk.out);clear hxk;go_wp2;go_round
   case rel=>exact⟨k+1,s+x,by omega,by go_num,by go_num,by rw [HX.out,HS.out]⟩
   case measure=>simp [intOf];omega
  ·have HE:Hid (s=(stepCosts m q p z).sum):=by show _=_;rw [HS.out,take_all HN.out hlt]
   go_wp2;go_ret;exact⟨ret_int (by rw [HP.out,HE.out]),hB⟩
theorem iSum_c (Az:Option Addr) (nz cz:Nat) (z:List Int) (w:World) (hz:RS NB rInt w Az nz cz z) (h14:z.length<=14) (hbd:∀ x∈z,-2000000000<=x/\x<=2000000000) :
  Calls Tryz.prog 227 #[.slice Az nz cz] w fun e w'=>e=.returned (.int .i64 z.sum)/\Below w.heap.size w w':=by
 have hB:=Below.refl w.heap.size w;have hnz:=hz.bound;have HN:=Lib.hid hz.len;have HBD:=Lib.hid (fun k=>sum_take_bd hbd h14 k);have HB1:Hid (∀ x∈z,-2000000000<=x/\x<=2000000000):=Lib.hid hbd;clear hbd h14
 go_enter Tryz.func227,Tryz.ntmps227
 go_wp2
 go_loop [3,8] (fun v i=>∃ (k:Nat) (s:Int),k<=nz/\i=.int .i64 k/\v=.int .i64 s/\s=(z.take k).sum) (fun _ i=>nz - (intOf i).toNat)
 case atStart=>exact⟨0,0,Nat.zero_le _,rfl,rfl,by simp⟩
 case round =>
  obtain⟨k,s,hk,rfl,rfl,hs⟩:=hrel;have hsb:=HBD.out k;rw [<- hs]at hsb;have HS:=Lib.hid hs;clear hs;by_cases hlt:k<nz
  ·obtain⟨b,off,x,rfl,hc,hI,hxk⟩:=hz.ati hlt
   have hx:=HB1.out x (mem_of_at hxk.out);have HX:=Lib.hid (sum_snoc hxk.out);clear hxk;go_wp2;go_round
   case rel=>exact⟨k+1,s+x,by omega,by go_num,by go_num,by rw [HX.out,HS.out]⟩
   case measure=>simp [intOf];omega
  ·have HE:Hid (s=z.sum):=by show _=_;rw [HS.out,take_all HN.out hlt]
   go_wp2;go_ret;exact⟨ret_int HE.out,hB⟩
theorem iPlanCost_c (csm:List Value) (m:ModelD) (csq:List Value) (q:QueryD) (csp:List Value) (p:PlanD) (Az:Option Addr) (nz cz:Nat) (z:List Int) (w:World) (hm:(rModel NB).rep w csm m) (hq:(rQuery NB).rep w csq q) (hp:(rPlan NB).rep w csp p) (hz:RS NB rInt w Az nz cz z) :
  Calls Tryz.prog 176 #[.agg csm.toArray,.agg csq.toArray,.agg csp.toArray,.slice Az nz cz] w fun e w'=>e=.returned (.int .i64 (planCost m q p z))/\Below w.heap.size w w':=by
 have rm:=hm;have lenm:=(rModel_ok NB).len hm;clear hm;have rq:=hq;obtain⟨Aq_e,nq_e,cq_e,rfl,hq_p5,hq_e⟩:=rQuery_rep.1 hq;clear hq;have rp:=hp;obtain⟨Ap_d5,np_d5,cp_d5,rfl,hp_d5⟩:=rPlan_rep.1 hp;clear hp;obtain⟨hB,bxm,bxq,bxp⟩:=op3 w csm 46 [.int .i64 q.fVariableCount,.slice Aq_e nq_e cq_e] 50 [.slice Ap_d5 np_d5 cp_d5] 76;have hnz:=hz.bound;have lenm':csm.length=30:=lenm;clear lenm
 go_enter Tryz.func176,Tryz.ntmps176
 have kq_0:=bxq 0 _ rfl;have kq_1:=bxq 1 _ rfl;have kp_0:=bxp 0 _ rfl
 go_wp2_with (refine wpList_load_mid rfl 46 _ rfl w.heap.size 0 rfl csm _ bxm.range Tryz.underlying46 rfl (by rw [lenm'];exact sizeModel) ?_)
 refine(iStepCosts_c _ m _ q _ p _ _ _ z _ ((rModel_ok NB).keep rm (cells_below hB)) ((rQuery_ok NB).keep rq (cells_below hB)) ((rPlan_ok NB).keep rp (cells_below hB)) (hz.below rInt_ok hB)).mono ?_;rintro e w1 ⟨A,n,c,rfl,hM,hb1,h0⟩;replace hB:=hB.trans (hb1.mono hB.size);replace bxm:=bxm.below hb1;replace bxq:=bxq.below hb1;replace bxp:=bxp.below hb1;clear hb1 kq_0 kq_1 kp_0;obtain⟨hb14,hbd⟩:=stepCosts_bd m q p z;have hn:=hM.len;have hR:=hM.rs rInt_ok;clear hM;by_cases e1:stepCosts m q p z=[]
 ·obtain⟨rfl,rfl,rfl⟩:=h0 e1
  have HP:=Lib.hid (planCost_0 (m:=m) (q:=q) (p:=p) (z:=z) (by rw [e1];rfl));clear e1 h0 hbd hb14 hn hR;have hnil:∀ W,(binOp .eql 30 (.slice none 0 0) (.slice none 0 0)).run Tryz.prog W=.ok (.bool true) W:=fun W=>Lib.run_eql_slice_nil W _ _ _ _ _ _ _ Tryz.underlying30;go_wp2;go_ret;exact⟨ret_int (a:=-1) HP.out.symm,hB⟩
 have h1:(stepCosts m q p z).length≠0:=fun h=>e1 (List.eq_nil_of_length_eq_zero h);have HP:=Lib.hid (planCost_1 h1);obtain⟨b,off,x,rfl,_,_,_⟩:=hR.ati (k:=0) (by omega);clear h1 e1 h0 hn;have hnil:∀ W,(binOp .eql 30 (.slice (some ⟨b,off,none⟩) n c) (.slice none 0 0)).run Tryz.prog W=.ok (.bool false) W:=fun W=>Lib.run_eql_slice_nil W _ _ _ _ _ _ _ Tryz.underlying30
 go_wp2_with fail
 refine(iSum_c _ _ _ (stepCosts m q p z) _ hR hb14 hbd).mono ?_;rintro e w9 ⟨rfl,hb9⟩;go_wp2;go_ret;exact⟨ret_int HP.out.symm,hB.trans (hb9.mono hB.size)⟩
theorem sPlanCostAt_c (csm:List Value) (m:ModelD) (csq:List Value) (q:QueryD) (csp:List Value) (p:PlanD) (Az:Option Addr) (nz cz:Nat) (z:List Int) (w:World) (hm:(rModel NB).rep w csm m) (hq:(rQuery NB).rep w csq q) (hp:(rPlan NB).rep w csp p) (hz:RS NB rInt w Az nz cz z) :
  Calls Tryz.prog 37 #[.agg csm.toArray,.agg csq.toArray,.agg csp.toArray,.slice Az nz cz] w fun e w'=>e=.returned (.int .i64 (planCostAt m q p z))/\Below w.heap.size w w':=by
 have rm:=hm;have lenm:=(rModel_ok NB).len hm;clear hm;have rq:=hq;obtain⟨Aq_e,nq_e,cq_e,rfl,hq_p5,hq_e⟩:=rQuery_rep.1 hq;clear hq;have rp:=hp;obtain⟨Ap_d5,np_d5,cp_d5,rfl,hp_d5⟩:=rPlan_rep.1 hp;clear hp;obtain⟨hB,bxm,bxq,bxp⟩:=op3 w csm 46 [.int .i64 q.fVariableCount,.slice Aq_e nq_e cq_e] 50 [.slice Ap_d5 np_d5 cp_d5] 76;have hnz:=hz.bound;have lenm':csm.length=30:=lenm;clear lenm
 go_enter Tryz.func37,Tryz.ntmps37
 go_upto_region 1 with fail
 obtain⟨wb,hwb⟩:∃ W,W=((w.alloc (.cells csm.toArray 46)).alloc (.cells #[.int .i64 q.fVariableCount,.slice Aq_e nq_e cq_e] 50)).alloc (.cells #[.slice Ap_d5 np_d5 cp_d5] 76):=⟨_,rfl⟩;rw [<- hwb]at hB bxm bxq bxp ⊢;clear hwb
 have HSS:Hid (∀ w',Below wb.heap.size wb w'->(w'.rangeAt w.heap.size 0 csm/\w'.cell? ⟨w.heap.size+1,0,none⟩=some (.int .i64 q.fVariableCount)/\w'.cell? ⟨w.heap.size+1,1,none⟩=some (.slice Aq_e nq_e cq_e)/\w'.cell? ⟨w.heap.size+1+1,0,none⟩=some (.slice Ap_d5 np_d5 cp_d5))):=by
  show ∀ w',_->_;intro w' hb;exact⟨(bxm.below hb).range,(bxq.below hb) 0 _ rfl,(bxq.below hb) 1 _ rfl,(bxp.below hb) 0 _ rfl⟩
 have K1:Hid (∀ W,Below wb.heap.size wb W->Calls Tryz.prog 56 #[.slice Az nz cz] W (RetS 3 rInt (locSizes z) W)):=by
  show ∀ W,_->_;intro W hW;have hX:=hB.trans (hW.mono hB.size);exact sLocationSizes_c _ _ _ z W (hz.below rInt_ok hX)
 have K2:Hid (∀ W A n c,Below wb.heap.size wb W->RS NB rInt W A n c (locSizes z)->Calls Tryz.prog 97 #[.agg csm.toArray,.agg #[.int .i64 q.fVariableCount,.slice Aq_e nq_e cq_e],.agg #[.slice Ap_d5 np_d5 cp_d5],.slice A n c] W fun e w'=>e=.returned (.int .i64 (planCostAt m q p z))/\Below W.heap.size W w'):=by
  show ∀ W A n c,_->_->_;intro W A n c hW hR;have hX:=hB.trans (hW.mono hB.size);exact sPlanCost_c _ m _ q _ p _ _ _ (locSizes z) W ((rModel_ok NB).keep rm (cells_below hX)) ((rQuery_ok NB).keep rq (cells_below hX)) ((rPlan_ok NB).keep rp (cells_below hX)) hR
 refine hbg HSS.out (Below.refl _ _).drew (fun hH=>?_);refine ldm 0 9 (fun w h=>h.1) Tryz.underlying46 (by rw [lenm'];exact sizeModel) hH ?_;refine tq2 1 hH ?_;refine tq1 3 hH ?_;simp only [putS];refine rd 4 (some 13) fun K hK=>?_;clear hH;go_simp;refine(K1.out _ (Below.refl wb.heap.size wb).drew).mono ?_;rintro e w1 ⟨A,n,c,rfl,hM,hb1⟩;have hC1:Below wb.heap.size wb w1:=((Below.refl wb.heap.size wb).drew.trans (hb1.mono (by simp)))
 go_wp2_with fail
 refine hK.out _ _ (HSS.out _ hC1) (fun hH=>?_);clear hK K
 try simp only [putS]
 refine rd 5 (some 14) fun K hK=>?_;clear hH;go_simp;refine(K2.out _ _ _ _ hC1 (hM.rs rInt_ok)).mono ?_;rintro e w2 ⟨rfl,hb2⟩;have hC2:=hC1.trans (hb2.mono hC1.size)
 go_wp2_with fail
 refine hK.out _ _ (HSS.out _ hC2) (fun hH=>?_);clear hK K
 try simp only [putS]
 refine tq1 6 hH ?_;simp only [putS];refine wpAnyH_done (by kernel_rfl) ?_ _;clear hH;go_wp2;go_ret;exact⟨rfl,hB.trans (hC2.mono hB.size)⟩
end Go.Proofs.YtnlcfkpcmfljeaaGreat
