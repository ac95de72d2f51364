/-
  Pii
-/
import Derived.Test.YtpodldagcnfhlaaGreatPis
import Derived.Test.YtpodldagcnfhlaaGreatQt
namespace Go.Proofs.YtpodldagcnfhlaaGreat
open Go.RowKit
set_option linter.unusedVariables false
set_option linter.unusedSimpArgs false

set_option maxRecDepth 100000 in
set_option maxHeartbeats 1600000 in
theorem iPlanInfo_c (csq:List Value) (q:QueryD) (csp:List Value) (p:PlanD) (w:World) (hq:(rQuery NB).rep w csq q) (hp:(rPlan NB).rep w csp p) :
  Calls Tryz.prog 152 #[.agg csq.toArray,.agg csp.toArray] w (RetSB 150 (rStepInfo NB) ((planInfo q p).getD []) (.bool (planInfo q p).isSome) w):=by
 have rq:=hq
 obtain⟨AqAtoms,nqAtoms,cqAtoms,rfl,hqVariableCount,hqAtoms⟩:=rQuery_rep.1 hq
 clear hq
 have rp:=hp
 obtain⟨ApSteps,npSteps,cpSteps,rfl,hpSteps⟩:=rPlan_rep.1 hp
 clear hp
 have hB:Below w.heap.size w w:=Below.refl _ _
 have hAq:=(Below.refl (World.heap (w)).size (w)).alloc (Nat.le_refl _) (.cells #[.int .i64 q.fVariableCount,.slice AqAtoms nqAtoms cqAtoms] 29)
 replace hB:=hB.trans (hAq.mono hB.size)
 have bxq:=Bx.new (w) [.int .i64 q.fVariableCount,.slice AqAtoms nqAtoms cqAtoms] 29
 clear hAq
 have hAp:=(Below.refl (World.heap ((w).alloc (.cells #[.int .i64 q.fVariableCount,.slice AqAtoms nqAtoms cqAtoms] 29))).size ((w).alloc (.cells #[.int .i64 q.fVariableCount,.slice AqAtoms nqAtoms cqAtoms] 29))).alloc (Nat.le_refl _) (.cells #[.slice ApSteps npSteps cpSteps] 62)
 replace hB:=hB.trans (hAp.mono hB.size)
 replace bxq:=bxq.below hAp
 have bxp:=Bx.new ((w).alloc (.cells #[.int .i64 q.fVariableCount,.slice AqAtoms nqAtoms cqAtoms] 29)) [.slice ApSteps npSteps cpSteps] 62
 simp only [World.size_alloc]at bxp
 clear hAp
 have hnp:=hpSteps.bound
 have HLp:=Lib.hid hpSteps.len
 go_enter Tryz.func152,Tryz.ntmps152
 go_upto_region 1 with fail
 obtain⟨wb,hwb⟩:∃ W,W=(w.alloc (.cells #[.int .i64 q.fVariableCount,.slice AqAtoms nqAtoms cqAtoms] 29)).alloc (.cells #[.slice ApSteps npSteps cpSteps] 62):=⟨_,rfl⟩
 rw [<- hwb]at hB bxq bxp ⊢
 clear hwb
 have kq_0:=bxq 0 _ rfl
 have kq_1:=bxq 1 _ rfl
 have kp_0:=bxp 0 _ rfl
 go_wp2_with fail
 refine(iIsValidQuery_c _ q _ ((rQuery_ok NB).keep rq (cells_below hB))).mono ?_
 rintro e we ⟨rfl,hbe⟩
 replace hB:=hB.trans (hbe.mono hB.size)
 replace bxq:=bxq.below hbe
 replace bxp:=bxp.below hbe
 clear hbe kq_0 kq_1 kp_0
 have kp_0:=bxp 0 _ rfl
 cases e1:validQ q
 ·have HN:=Lib.hid (planInfo_inv (p:=p) e1)
  clear e1
  go_wp2
  go_ret2
  rw [HN.out]
  exact⟨_,_,_,rfl,MS.nil _ (Nat.zero_le _),hB⟩
 have HV:=Lib.hid e1;clear e1
 cases e2:inR (npSteps:Int) 1 14
 ·have HN:=Lib.hid (planInfo_len (q:=q) (p:=p) (by rw [HLp.out];exact e2))
  have K2:=Lib.hid (fun W=>within_v e2 W)
  clear e2
  go_wp2_with (go_at_call 55;refine(K2.out _).mono ?_;rintro e w' ⟨rfl,hww⟩;replace hww:=hww.symm;subst hww)
  go_ret2
  rw [HN.out]
  exact⟨_,_,_,rfl,MS.nil _ (Nat.zero_le _),hB⟩
 have K2:=Lib.hid (fun W=>within_v e2 W)
 have hp14:=(inR_t.1 e2).2
 have H2:=Lib.hid (show inR (p.fSteps.length:Int) 1 14=true by rw [HLp.out];exact e2)
 clear e2
 go_upto_region 3 with (go_at_call 55;refine(K2.out _).mono ?_;rintro e w' ⟨rfl,hww⟩;replace hww:=hww.symm;subst hww)
 have hMI0:MS we.heap.size NB 150 (rStepInfo NB) (we.alloc (.cells #[] 150)) (some ⟨we.heap.size,0,none⟩) 0 0 []:=MS.empty _ (Nat.le_refl _)
 have hA1:=(Below.refl we.heap.size we).alloc (Nat.le_refl _) (.cells #[] 150)
 obtain⟨wc,hwc⟩:∃ W,W=we.alloc (.cells #[] 150):=⟨_,rfl⟩
 have hsc:wc.heap.size=we.heap.size+1:=by rw [hwc];simp
 rw [<- hwc]at hMI0 hA1
 have hMS0:MS we.heap.size NB 3 rInt (wc.alloc (.cells #[] 3)) (some ⟨wc.heap.size,0,none⟩) 0 0 []:=MS.empty _ (by omega)
 have hA2:=(Below.refl wc.heap.size wc).alloc (Nat.le_refl _) (.cells #[] 3)
 replace hMI0:=hMI0.below (rStepInfo_ok NB) hA2
 rw [hsc]at hMS0
 have hE0:Below we.heap.size we (wc.alloc (.cells #[] 3)):=hA1.trans (hA2.mono hA1.size)
 clear kp_0
 have kp_0:=(bxp.below hE0) 0 _ rfl
 rw [hwc]at hMI0 hMS0 kp_0 hE0
 clear hA1 hA2 hsc hwc
 go_wp2
 clear kp_0
 go_loopw [6,7,27] (fun si ss i wr=>∃ (k:Nat) (AI AS:Option Addr) (cI nS cS:Nat) (l:List StepInfoD) (st:List Int),k<=npSteps/\i=.int .i64 k/\si=.slice AI k cI/\ss=.slice AS nS cS/\planRun q (p.fSteps.take k)=some (l,st)/\MS we.heap.size NB 150 (rStepInfo NB) wr AI k cI l/\MS we.heap.size NB 3 rInt wr AS nS cS st/\(∀ z∈blk AI,z∉blk AS)/\Below we.heap.size we wr) (fun _ _ i _=>npSteps - (intOf i).toNat)
 case atStart=>exact⟨0,_,_,0,0,0,[],[],Nat.zero_le _,rfl,rfl,rfl,rfl,hMI0,hMS0,by simp [blk],hE0⟩
 case round =>
  clear hMI0 hMS0 hE0
  obtain⟨k,AI,AS,cI,nS,cS,l,st,hk,rfl,rfl,rfl,hrun,hMI,hMS,hdj,hE⟩:=hrel
  have HRR:=Lib.hid hrun;clear hrun
  have HDJ:=Lib.hid hdj;clear hdj
  have hB2:=hB.trans (hE.mono hB.size)
  have HOK:=Lib.hid (planRun_ok HV.out HRR.out)
  have HRun:Hid (Run q.fAtoms.length l st):=HOK.out.1
  have HL14:Hid (l.length<=14):=by show _<=_;rw [hMI.len];omega
  by_cases hlt:k<npSteps
  ·obtain⟨b,off,x,rfl,hc0,hc1,hc2,i0,i1,i2,hx⟩:=hpSteps.ePlanStep hlt
   have HX:=Lib.hid hx.out;clear hx
   replace hc0:=cells_below hB2 _ _ hc0
   replace hc1:=cells_below hB2 _ _ hc1
   replace hc2:=cells_below hB2 _ _ hc2
   go_upto_region 8 with fail
   have bxx:=Bx.new wr [.int .i64 x.fKind,.int .i64 x.fAtom,.int .i64 x.fOrder] 153
   have hAx:=(Below.refl wr.heap.size wr).alloc (Nat.le_refl _) (.cells #[.int .i64 x.fKind,.int .i64 x.fAtom,.int .i64 x.fOrder] 153)
   obtain⟨wx,hwx⟩:∃ W,W=wr.alloc (.cells #[.int .i64 x.fKind,.int .i64 x.fAtom,.int .i64 x.fOrder] 153):=⟨_,rfl⟩
   rw [<- hwx]at hAx ⊢
   replace bxx:Bx wx wr.heap.size [.int .i64 x.fKind,.int .i64 x.fAtom,.int .i64 x.fOrder]:=by rw [hwx];exact bxx
   clear hwx hc0 hc1 hc2
   have hE3:=hE.trans (hAx.mono hE.size)
   have hB3:=hB2.trans (hAx.mono hB2.size)
   have hMI2:=hMI.below (rStepInfo_ok NB) hAx
   have hMS2:=hMS.below rInt_ok hAx
   have kq_0:=(bxq.below hE3) 0 _ rfl
   have kq_1:=(bxq.below hE3) 1 _ rfl
   have kx_0:=bxx 0 _ rfl
   have kx_1:=bxx 1 _ rfl
   have kx_2:=bxx 2 _ rfl
   have RX:Hid ((rPlanStep NB).rep wx [.int .i64 x.fKind,.int .i64 x.fAtom,.int .i64 x.fOrder] x):=by show _;exact rPlanStep_rep.2 ⟨rfl,i0,i1,i2⟩
   go_wp2_with fail
   refine(iStepInfo_c _ q _ x _ _ _ l _ _ _ st _ ((rQuery_ok NB).keep rq (cells_below hB3)) RX.out (hMI2.rs (rStepInfo_ok NB)) (hMS2.rs rInt_ok) HV.out HRun.out HL14.out).mono ?_
   rintro e wc ⟨y,ok,rfl,hok,hyz,hbc⟩
   have HOKK:=Lib.hid hok;clear hok
   have HYZ:=Lib.hid hyz;clear hyz
   have hE4:=hE3.trans (hbc.mono hE3.size)
   have hB4:=hB3.trans (hbc.mono hB3.size)
   have hMI3:=hMI2.below (rStepInfo_ok NB) hbc
   have hMS3:=hMS2.below rInt_ok hbc
   have HIW:Hid (∀ z∈blk AI,z<wc.heap.size):=by show ∀ z∈blk AI,_;exact fun z hz=>(hMI3.blkB (rStepInfo_ok NB) z hz).2
   clear kq_0 kq_1 kx_0 kx_1 kx_2 hMI2 hMS2 hMI hMS hE3 hB3 hAx hbc bxx
   cases hs:stepInfo q x l st with
   | none =>
    have HN:=Lib.hid (planInfo_none (p:=p) (planStep_no HX.out HRR.out hs))
    obtain rfl:ok=false:=by rw [HOKK.out,hs];rfl
    clear hs
    go_wp2
    go_ret2
    rw [HN.out]
    exact⟨_,_,_,rfl,MS.nil _ (Nat.zero_le _),hB4.alloc hB4.size _⟩
   | some s =>
    obtain⟨z,j⟩:=s
    obtain rfl:ok=true:=by rw [HOKK.out,hs];rfl
    obtain⟨e5,hio⟩:=HYZ.out z j hs
    subst e5
    have HIO:Hid (I64 y.fOrder):=hio
    clear hio HYZ HOKK
    have HS:=Lib.hid hs
    have HRN:=Lib.hid (planStep_yes HX.out HRR.out hs)
    have HPP:=Lib.hid (stepPops HRun.out hs)
    have hok:=stepInfo_ok HV.out HRun.out hs
    have hpk:=pow_le16 (validQ_parts HV.out).2.2.2.1
    have hy0:=hok.1.1
    have hy1:y.fMask<16:=by have:=hok.1.2;omega
    have hyl:=hok.2.1
    have hyr:=hok.2.2.1
    have hjs:Hid (j<=nS):=by show _<=_;have:=hok.2.2.2.1;rw [hMS3.len]at this;exact this
    have hl14:l.length<=14:=HL14.out
    have hnS14:nS<=14:=by have:=HOK.out.1.len;have:=hMS3.len;omega
    clear hs hok hpk
    have bkX:=Bk.new wc [.int .i64 y.fMask,.int .i64 y.fOrder,.int .i64 y.fLeft,.int .i64 y.fRight] 150
    have hAy:=(Below.refl wc.heap.size wc).alloc (Nat.le_refl _) (.cells #[.int .i64 y.fMask,.int .i64 y.fOrder,.int .i64 y.fLeft,.int .i64 y.fRight] 150)
    go_upto_region 11 with fail
    obtain⟨wd,hwd⟩:∃ W,W=wc.alloc (.cells #[.int .i64 y.fMask,.int .i64 y.fOrder,.int .i64 y.fLeft,.int .i64 y.fRight] 150):=⟨_,rfl⟩
    rw [<- hwd]at bkX hAy ⊢
    clear hwd
    replace hMI3:=hMI3.below (rStepInfo_ok NB) hAy
    replace hMS3:=hMS3.below rInt_ok hAy
    replace hE4:=hE4.trans (hAy.mono hE4.size)
    clear hAy hB4
    have hszB:=hE4.size
    have c0:=bkX.bx 0 _ rfl
    have c1:=bkX.bx 1 _ rfl
    have c2:=bkX.bx 2 _ rfl
    have c3:=bkX.bx 3 _ rfl
    go_upto_region 12 with (at_builtin;refine wpList_appB (r:=rStepInfo NB) rfl _ _ 126 rfl _ 32 eiStepInfo (rStepInfo_ok NB) rfl hMI3 ((Below.refl _ _).alloc (Nat.le_refl _) _) hszB ⟨wd.heap.size,0,none⟩ rfl [] [.int .i64 y.fMask,.int .i64 y.fOrder,.int .i64 y.fLeft,.int .i64 y.fRight] y (rStepInfo_own.2 ⟨rfl,rfl,⟨by omega,by omega⟩,HIO.out,⟨by omega,by omega⟩,⟨by omega,by omega⟩⟩) (Fr.nil _) (cells_new _ _ _) (by unfold NB;omega) (Nat.le_refl _) (by omega) ?_;intro AI2 cI2 w1 hMI4 hb1 hg1 hA1)
    have hAl:=(Below.refl wd.heap.size wd).alloc (Nat.le_refl _) (.cells #[.int .i64 y.fMask,.int .i64 y.fOrder,.int .i64 y.fLeft,.int .i64 y.fRight] 150)
    have hMS3a:=hMS3.below rInt_ok hAl
    have hMS4:=hMS3a.keepG rInt_ok rInt_nofp hg1 HDJ.out
    have HDJ2:=Lib.hid (disj_app HDJ.out hA1 (fun z hz=>(hMS3a.blkB rInt_ok z hz).2))
    have hE1:=(hE4.trans (hAl.mono hE4.size)).trans hb1
    have bkX1:Bk w1 wc.heap.size 150 [.int .i64 y.fMask,.int .i64 y.fOrder,.int .i64 y.fLeft,.int .i64 y.fRight]:=(hg1.block _ (by have:=bkX.lt;simp;omega) (fun e=>by have:=HIW.out _ (mem_blk.2 e.symm);omega)).trans (bkX.below hAl)
    clear c0 c1 c2 c3 hMS3a hAl hb1 hg1 hA1 hMI3 hMS3 hszB bkX hE4 HDJ
    have hsz4:=hE1.size
    have c2:=bkX1.bx 2 _ rfl
    have c3:=bkX1.bx 3 _ rfl
    by_cases r0:0<=y.fRight
    ·replace HPP:Hid (j=2):=by show j=2;rw [HPP.out,if_pos r0]
     have hj2:2<=nS:=by have h1:=hjs.out;have h2:=HPP.out;omega
     obtain⟨m,hm⟩:∃ m,m+2=nS:=⟨nS - 2,by omega⟩
     have hmc:m<=cS:=by have:=(hMS4.rs rInt_ok).nc;omega
     have hMT:=hMS4.takeI (k:=m) (by omega)
     have HRN2:Hid (planRun q (p.fSteps.take (k+1))=some (l++[y],st.take m++[(k:Int)])):=by
      have h1:=hMS4.len
      have h2:=hMI4.len
      rw [List.length_append,List.length_singleton]at h2
      show _=_
      rw [HRN.out,show st.length - j=m by rw [HPP.out];omega,show l.length=k by omega]
     have mj:IntKind.i64.wrap ((nS:Int) - 2)=(m:Int):=by rw [IntWalk.i64_in _ (by omega)];omega
     have hmI:(m:Int)<=(nS:Int):=by omega
     clear hm
     have hm14:m<=14:=by omega
     go_wp2_with (at_builtin;refine wpList_appB (r:=rInt) rfl _ _ 32 rfl _ 8 eiInt rInt_ok rfl hMT ((Below.refl _ _).alloc (Nat.le_refl _) _) hsz4 ⟨w1.heap.size,0,none⟩ rfl [] [.int .i64 k] (k:Int) ⟨rfl,rfl,⟨by omega,by omega⟩⟩ (Fr.nil _) (cells_new _ _ _) (by unfold NB;omega) (Nat.le_refl _) (by omega) ?_;intro AU cU w3 hMU hbU hgU hAU)
     clear mj
     have hAl2:=(Below.refl w1.heap.size w1).alloc (Nat.le_refl _) (.cells #[.int .i64 k] 3)
     have hMI5a:=hMI4.below (rStepInfo_ok NB) hAl2
     have hMI5:=hMI5a.keepG (rStepInfo_ok NB) (rStepInfo_nofp NB) hgU (fun z hz hz2=>HDJ2.out z hz2 hz)
     have HDJ3:=Lib.hid (disj_app (fun z hz hz2=>HDJ2.out z hz2 hz) hAU (fun z hz=>(hMI5a.blkB (rStepInfo_ok NB) z hz).2))
     have hE5:=(hE1.trans (hAl2.mono hE1.size)).trans hbU
     go_roundw
     case rel=>exact⟨k+1,AI2,AU,cI2,m+1,cU,_,_,by omega,by go_num,rfl,rfl,HRN2.out,hMI5,hMU,(fun z hz hz2=>HDJ3.out z hz2 hz),hE5⟩
     case measure=>simp [intOf];omega
    by_cases l0:0<=y.fLeft
    ·replace HPP:Hid (j=1):=by show j=1;rw [HPP.out,if_neg r0,if_pos l0]
     have hj2:1<=nS:=by have h1:=hjs.out;have h2:=HPP.out;omega
     obtain⟨m,hm⟩:∃ m,m+1=nS:=⟨nS - 1,by omega⟩
     have hmc:m<=cS:=by have:=(hMS4.rs rInt_ok).nc;omega
     have hMT:=hMS4.takeI (k:=m) (by omega)
     have HRN2:Hid (planRun q (p.fSteps.take (k+1))=some (l++[y],st.take m++[(k:Int)])):=by
      have h1:=hMS4.len
      have h2:=hMI4.len
      rw [List.length_append,List.length_singleton]at h2
      show _=_
      rw [HRN.out,show st.length - j=m by rw [HPP.out];omega,show l.length=k by omega]
     have mj:IntKind.i64.wrap ((nS:Int) - 1)=(m:Int):=by rw [IntWalk.i64_in _ (by omega)];omega
     have hmI:(m:Int)<=(nS:Int):=by omega
     clear hm
     have hm14:m<=14:=by omega
     go_wp2_with (at_builtin;refine wpList_appB (r:=rInt) rfl _ _ 32 rfl _ 8 eiInt rInt_ok rfl hMT ((Below.refl _ _).alloc (Nat.le_refl _) _) hsz4 ⟨w1.heap.size,0,none⟩ rfl [] [.int .i64 k] (k:Int) ⟨rfl,rfl,⟨by omega,by omega⟩⟩ (Fr.nil _) (cells_new _ _ _) (by unfold NB;omega) (Nat.le_refl _) (by omega) ?_;intro AU cU w3 hMU hbU hgU hAU)
     clear mj
     have hAl2:=(Below.refl w1.heap.size w1).alloc (Nat.le_refl _) (.cells #[.int .i64 k] 3)
     have hMI5a:=hMI4.below (rStepInfo_ok NB) hAl2
     have hMI5:=hMI5a.keepG (rStepInfo_ok NB) (rStepInfo_nofp NB) hgU (fun z hz hz2=>HDJ2.out z hz2 hz)
     have HDJ3:=Lib.hid (disj_app (fun z hz hz2=>HDJ2.out z hz2 hz) hAU (fun z hz=>(hMI5a.blkB (rStepInfo_ok NB) z hz).2))
     have hE5:=(hE1.trans (hAl2.mono hE1.size)).trans hbU
     go_roundw
     case rel=>exact⟨k+1,AI2,AU,cI2,m+1,cU,_,_,by omega,by go_num,rfl,rfl,HRN2.out,hMI5,hMU,(fun z hz hz2=>HDJ3.out z hz2 hz),hE5⟩
     case measure=>simp [intOf];omega
    ·replace HPP:Hid (j=0):=by show j=0;rw [HPP.out,if_neg r0,if_neg l0]
     obtain⟨m,hm⟩:∃ m,m+0=nS:=⟨nS - 0,by omega⟩
     have hmc:m<=cS:=by have:=(hMS4.rs rInt_ok).nc;omega
     have hMT:=hMS4.takeI (k:=m) (by omega)
     have HRN2:Hid (planRun q (p.fSteps.take (k+1))=some (l++[y],st.take m++[(k:Int)])):=by
      have h1:=hMS4.len
      have h2:=hMI4.len
      rw [List.length_append,List.length_singleton]at h2
      show _=_
      rw [HRN.out,show st.length - j=m by rw [HPP.out];omega,show l.length=k by omega]
     obtain rfl:m=nS:=by omega
     clear hm
     have hm14:m<=14:=by omega
     go_wp2_with (at_builtin;refine wpList_appB (r:=rInt) rfl _ _ 32 rfl _ 8 eiInt rInt_ok rfl hMT ((Below.refl _ _).alloc (Nat.le_refl _) _) hsz4 ⟨w1.heap.size,0,none⟩ rfl [] [.int .i64 k] (k:Int) ⟨rfl,rfl,⟨by omega,by omega⟩⟩ (Fr.nil _) (cells_new _ _ _) (by unfold NB;omega) (Nat.le_refl _) (by omega) ?_;intro AU cU w3 hMU hbU hgU hAU)
     have hAl2:=(Below.refl w1.heap.size w1).alloc (Nat.le_refl _) (.cells #[.int .i64 k] 3)
     have hMI5a:=hMI4.below (rStepInfo_ok NB) hAl2
     have hMI5:=hMI5a.keepG (rStepInfo_ok NB) (rStepInfo_nofp NB) hgU (fun z hz hz2=>HDJ2.out z hz2 hz)
     have HDJ3:=Lib.hid (disj_app (fun z hz hz2=>HDJ2.out z hz2 hz) hAU (fun z hz=>(hMI5a.blkB (rStepInfo_ok NB) z hz).2))
     have hE5:=(hE1.trans (hAl2.mono hE1.size)).trans hbU
     go_roundw
     case rel=>exact⟨k+1,AI2,AU,cI2,m+1,cU,_,_,by omega,by go_num,rfl,rfl,HRN2.out,hMI5,hMU,(fun z hz hz2=>HDJ3.out z hz2 hz),hE5⟩
     case measure=>simp [intOf];omega
  ·have HPL:Hid (planRun q p.fSteps=some (l,st)):=by
    show _=_
    have:=HRR.out
    rwa [take_all hpSteps.len hlt]at this
   have HPE:=Lib.hid (planInfo_end HV.out H2.out HPL.out)
   have HSL:=Lib.hid hMS.len
   by_cases hn1:nS=1
   ·have nb:((nS:Int) != 1)=false:=by simp [hn1]
    have HN:Hid (planInfo q p=some l):=by show _=_;rw [HPE.out,if_pos (HSL.out.trans hn1)]
    clear hn1
    go_wp2
    go_ret2
    rw [HN.out]
    exact⟨_,_,_,rfl,hMI.base hB.size,hB2⟩
   ·have nb:((nS:Int) != 1)=true:=by simp;omega
    have HN:Hid (planInfo q p=none):=by show _=_;rw [HPE.out,if_neg (fun h=>hn1 (HSL.out.symm.trans h))]
    clear hn1
    go_wp2
    go_ret2
    rw [HN.out]
    exact⟨_,_,_,rfl,MS.nil _ (Nat.zero_le _),hB2⟩
end Go.Proofs.YtpodldagcnfhlaaGreat
