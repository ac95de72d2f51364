/-
  Pis
-/
import Derived.Test.YtnlcfkpcmfljeaaGreatQs
import Derived.Test.YtnlcfkpcmfljeaaGreatEqLib
set_option linter.unusedSimpArgs false
set_option linter.unusedVariables false
set_option maxHeartbeats 1600000
set_option maxRecDepth 100000
namespace Go.Proofs.YtnlcfkpcmfljeaaGreat
open Go.RowKit
def Rp.NoFp {α:Type} (r:Rp α):Prop:=∀ {w:World} {f:List Nat} {cs:List Value} {x:α},r.own w f cs x->f=[]
theorem rInt_nofp:rInt.NoFp:=fun h=>h.1
theorem rStepInfo_nofp (M:Nat):(rStepInfo M).NoFp:=fun h=>(rStepInfo_own.1 h).2.1
theorem OS.fpA {α:Type}{r:Rp α}{M:Nat}{e:TypeId}{w:World}{fp:List Nat}{A:Option Addr}{n cap:Nat}{l:List α}(hF:r.NoFp) (h:OS M e r w fp A n cap l):fp=blk A:=by
 obtain⟨css,fps,h1,rfl,h3⟩:=h.ex
 have:fps.flatten=[]:=by
  rw [List.flatten_eq_nil_iff];intro f hf;obtain⟨i,hi,rfl⟩:=List.getElem_of_mem hf;obtain⟨f',c,g1,_,g3⟩:=h3.get (List.getElem?_eq_getElem (l:=l) (i:=i) (by rw [<- h3.lens.1];exact hi));rw [List.getElem?_eq_getElem hi]at g1;injection g1 with g1;rw [g1];exact hF g3
 rw [this,List.append_nil]
theorem MS.keepA {α:Type}{r:Rp α}{B M:Nat}{e:TypeId}{w w':World}{A:Option Addr}{n cap:Nat}{l:List α}(hr:r.Ok) (hF:r.NoFp) (h:MS B M e r w A n cap l) (hk:∀ k∈blk A,w'.heap[k]?=w.heap[k]?):MS B M e r w' A n cap l:=by
 obtain⟨fp,o,f⟩:=h;have e:=o.fpA hF;subst e;exact⟨_,o.okeep hr hk,f⟩
theorem MS.blkB {α:Type}{r:Rp α}{B M:Nat}{e:TypeId}{w:World}{A:Option Addr}{n cap:Nat}{l:List α}(hr:r.Ok) (h:MS B M e r w A n cap l):∀ k∈blk A,B<=k/\k<w.heap.size:=by
 obtain⟨fp,o,f⟩:=h;obtain⟨css,fps,h1,rfl,h3⟩:=o.ex;intro k hk;exact⟨f.ge k (List.mem_append_left _ hk),o.lt hr k (List.mem_append_left _ hk)⟩
theorem MS.keepG {α:Type}{r:Rp α}{B M:Nat}{e:TypeId}{w w':World}{A AX:Option Addr}{n cap:Nat}{l:List α}(hr:r.Ok) (hF:r.NoFp) (h:MS B M e r w A n cap l) (hg:w.grownBy w' (AX.map (·.block))) (hd:∀ z∈blk AX,z∉blk A):MS B M e r w' A n cap l :=
 h.keepA hr hF fun k hk=>hg.block k (h.blkB hr k hk).2 fun e=>hd k (mem_blk.2 e.symm) hk
theorem MS.takeI {B M:Nat}{e:TypeId}{w:World}{A:Option Addr}{n cap:Nat}{l:List Int}(h:MS B M e rInt w A n cap l) {k:Nat}(hk:k<=n):MS B M e rInt w A k cap (l.take k):=by
 obtain⟨fp,o,f⟩:=h;have hl:=o.len;obtain⟨rfl,h2,h3,h4⟩:=osInt.1 o;refine⟨_,osInt.2 ⟨rfl,by omega,⟨by simp;omega,?_⟩,fun x hx=>h4 x (List.mem_of_mem_take hx)⟩,f⟩;rcases h3.2 with ⟨h5,h6⟩|⟨g,c,cur,h5,h6,h7,h8,h9,h10,h11⟩
 ·left
  injection h5 with a b c;exact⟨by rw [a,c,show k=0 by omega],by omega⟩
 ·right
  injection h5 with a b c;subst a;subst c;refine⟨g,cap,cur,rfl,h6,h7,by omega,h9,h10,?_⟩;rw [List.map_take,<- h11,List.take_take,Nat.mul_one,Nat.mul_one,Nat.min_eq_left hk]
theorem eiStepInfo:Ei Tryz.prog 237 243 (.agg #[.int .i64 0,.int .i64 0,.int .i64 0,.int .i64 0]) (rStepInfo NB).size 32:=⟨by kernel_rfl,by kernel_rfl,rfl⟩
theorem disj_app {A A' B:Option Addr}{g:Nat}(hd:∀ z∈blk A,z∉blk B) (hA:A'.map (·.block)=A.map (·.block)\/A'.map (·.block)=some g) (hB:∀ z∈blk B,z<g):∀ z∈blk A',z∉blk B:=by
 intro z hz hz2;rcases hA with e|e
 ·exact hd z (mem_blk.2 (e▸mem_blk.1 hz)) hz2
 ·have:=mem_blk.1 hz;rw [e]at this;injection this with this;have:=hB z hz2;omega
theorem planStep_no {q:QueryD}{p:List PlanStepD}{k:Nat}{x:PlanStepD}{l:List StepInfoD}{st:List Int}(hx:p[k]?=some x) (hr:planRun q (p.take k)=some (l,st)) (hs:stepInfo q x l st=none):planRun q p=none :=
 planRun_none (k:=k+1) (by rw [planRun_snoc hx,hr];simp only [planStep,hs])
theorem planStep_yes {q:QueryD}{p:List PlanStepD}{k:Nat}{x:PlanStepD}{l:List StepInfoD}{st:List Int}{y:StepInfoD}{j:Nat}(hx:p[k]?=some x) (hr:planRun q (p.take k)=some (l,st)) (hs:stepInfo q x l st=some (y,j)):planRun q (p.take (k+1))=some (l++[y],st.take (st.length - j)++[(l.length:Int)]):=by
 rw [planRun_snoc hx,hr];simp only [planStep,hs]
theorem planInfo_inv {q:QueryD}{p:PlanD}(h:validQ q=false):planInfo q p=none:=by simp [planInfo,h]
theorem planInfo_len {q:QueryD}{p:PlanD}(h:inR (p.fSteps.length:Int) 1 14=false):planInfo q p=none:=by simp [planInfo,h]
theorem planInfo_none {q:QueryD}{p:PlanD}(h:planRun q p.fSteps=none):planInfo q p=none:=by
 unfold planInfo;split
 ·rw [h]
 ·rfl
theorem planInfo_end {q:QueryD}{p:PlanD}{l:List StepInfoD}{st:List Int}(h1:validQ q=true) (h2:inR (p.fSteps.length:Int) 1 14=true) (h:planRun q p.fSteps=some (l,st)):planInfo q p=if st.length=1 then some l else none:=by
 unfold planInfo;rw [h1,h2,h];rfl
theorem RS.stepO {w:World}{A:Option Addr}{n cap:Nat}{l:List StepInfoD}(h:RS NB (rStepInfo NB) w A n cap l) {y:StepInfoD}(hy:y∈l):I64 y.fOrder:=by
 obtain⟨k,hk⟩:=List.getElem?_of_mem hy;obtain⟨b,off,x,_,_,_,_,_,_,i1,_,_,hx⟩:=h.eStepInfo (k:=k) (by have:=lt_of_at hk;rw [h.len]at this;exact this);have hx:=hx.out;rw [hk]at hx;injection hx with hx;rw [hx];exact i1
theorem stepInfo_order {w:World}{A:Option Addr}{n cap:Nat}{q:QueryD}{x:PlanStepD}{l:List StepInfoD}{st:List Int}{y:StepInfoD}{k:Nat}{Aq:Option Addr}{nq cq:Nat}(hR:Run q.fAtoms.length l st) (hl:RS NB (rStepInfo NB) w A n cap l) (hx:I64 x.fOrder) (hq:RS NB (rAtom NB) w Aq nq cq q.fAtoms) (h:stepInfo q x l st=some (y,k)):I64 y.fOrder:=by
 have hi:∀ m:Nat,1<=m->m<=st.length->I64 (infoAt l (topAt st m)).fOrder:=fun m h1 h2=>by
  obtain⟨j,_,_,e⟩:=hR.top h1 h2;exact hl.stepO (mem_of_at e)
 unfold stepInfo at h;split at h
 ·split at h
  ·injection h with h;injection h with h1 h2;subst h1
   simp only [firstVar];split
   ·rename_i a ha
    obtain⟨b,off,a',AV,nV,cV,_,_,_,_,hRV,ha'⟩:=hq.eAtom (k:=x.fAtom.toNat) (by have:=lt_of_at ha;rw [hq.len]at this;exact this);have e:=ha'.out;rw [ha]at e;injection e with e;subst e;cases hv:a.fVars[0]? with
    | none=>simp [I64]
    | some v=>simp only [Option.getD_some];exact hRV.rng v (mem_of_at hv)
   ·simp [I64]
  ·cases h
 split at h
 ·cases h
 split at h
 ·split at h
  ·injection h with h;injection h with h1 h2;subst h1;exact hx
  ·cases h
 split at h
 ·rename_i hc
  simp only [Bool.and_eq_true,decide_eq_true_eq]at hc;simp only at h;split at h
  ·split at h
   ·injection h with h;injection h with h1 h2;subst h1;exact hx
   ·cases h
  ·split at h
   ·injection h with h;injection h with h1 h2;subst h1
    simp only;split
    ·exact hi 2 (by omega) (by omega)
    ·simp [I64]
   ·cases h
 ·cases h
theorem sL23Step_n {csq:List Value}{q:QueryD}{csx:List Value}{x:PlanStepD}{Al:Option Addr}{nl cl:Nat}{l:List StepInfoD}{Ast:Option Addr}{nst cst:Nat}{st:List Int}{w:World}(h:stepInfo q x l st=none) (hq:(rQuery NB).rep w csq q) (hx:(rPlanStep NB).rep w csx x) (hl:RS NB (rStepInfo NB) w Al nl cl l) (hst:RS NB rInt w Ast nst cst st) (hv:validQ q=true) (hR:Run q.fAtoms.length l st) (hn14:l.length<=14) :
  Calls Tryz.prog 244 #[.agg csq.toArray,.agg csx.toArray,.slice Al nl cl,.slice Ast nst cst] w fun e w'=>e=.returned (.tuple #[.agg #[.int .i64 0,.int .i64 0,.int .i64 0,.int .i64 0],.int .i64 (-1)])/\Below w.heap.size w w':=by
 have:=sL23Step_c csq q csx x Al nl cl l Ast nst cst st w hq hx hl hst hv hR hn14;rw [h]at this;exact this
theorem sL23Step_y {csq:List Value}{q:QueryD}{csx:List Value}{x:PlanStepD}{Al:Option Addr}{nl cl:Nat}{l:List StepInfoD}{Ast:Option Addr}{nst cst:Nat}{st:List Int}{w:World}{y:StepInfoD}{k:Nat}(h:stepInfo q x l st=some (y,k)) (hq:(rQuery NB).rep w csq q) (hx:(rPlanStep NB).rep w csx x) (hl:RS NB (rStepInfo NB) w Al nl cl l) (hst:RS NB rInt w Ast nst cst st) (hv:validQ q=true) (hR:Run q.fAtoms.length l st) (hn14:l.length<=14) :
  Calls Tryz.prog 244 #[.agg csq.toArray,.agg csx.toArray,.slice Al nl cl,.slice Ast nst cst] w fun e w'=>e=.returned (.tuple #[.agg #[.int .i64 y.fMask,.int .i64 y.fOrder,.int .i64 y.fLeft,.int .i64 y.fRight],.int .i64 k])/\Below w.heap.size w w':=by
 have:=sL23Step_c csq q csx x Al nl cl l Ast nst cst st w hq hx hl hst hv hR hn14;rw [h]at this;exact this
theorem sPlanInfo_c (csq:List Value) (q:QueryD) (csp:List Value) (p:PlanD) (w:World) (hq:(rQuery NB).rep w csq q) (hp:(rPlan NB).rep w csp p) :
  Calls Tryz.prog 219 #[.agg csq.toArray,.agg csp.toArray] w (RetSB 243 (rStepInfo NB) ((planInfo q p).getD []) (.bool (planInfo q p).isSome) w):=by
 have rq:=hq;obtain⟨Aq_e,nq_e,cq_e,rfl,hq_p5,hq_e⟩:=rQuery_rep.1 hq;clear hq;have rp:=hp;obtain⟨Ap_d5,np_d5,cp_d5,rfl,hp_d5⟩:=rPlan_rep.1 hp;clear hp;obtain⟨hB,bxq,bxp⟩:=op2 w [.int .i64 q.fVariableCount,.slice Aq_e nq_e cq_e] 50 [.slice Ap_d5 np_d5 cp_d5] 76;have hnp:=hp_d5.bound;have HLp:=Lib.hid hp_d5.len
 go_enter Tryz.func219,Tryz.ntmps219
 go_upto_region 1 with fail
 obtain⟨wb,hwb⟩:∃ W,W=(w.alloc (.cells #[.int .i64 q.fVariableCount,.slice Aq_e nq_e cq_e] 50)).alloc (.cells #[.slice Ap_d5 np_d5 cp_d5] 76):=⟨_,rfl⟩;rw [<- hwb]at hB bxq bxp ⊢;clear hwb
 go_upto_region 3 with fail
 have hMI0:MS wb.heap.size NB 243 (rStepInfo NB) (wb.alloc (.cells #[] 243)) (some ⟨wb.heap.size,0,none⟩) 0 0 []:=MS.empty _ (Nat.le_refl _);have hA1:=(Below.refl wb.heap.size wb).alloc (Nat.le_refl _) (.cells #[] 243);obtain⟨wc,hwc⟩:∃ W,W=wb.alloc (.cells #[] 243):=⟨_,rfl⟩;have hsc:wc.heap.size=wb.heap.size+1:=by rw [hwc];simp
 rw [<- hwc]at hMI0 hA1;have hMS0:MS wb.heap.size NB 3 rInt (wc.alloc (.cells #[] 3)) (some ⟨wc.heap.size,0,none⟩) 0 0 []:=MS.empty _ (by omega);have hA2:=(Below.refl wc.heap.size wc).alloc (Nat.le_refl _) (.cells #[] 3);replace hMI0:=hMI0.below (rStepInfo_ok NB) hA2;rw [hsc]at hMS0;obtain⟨wd,hwd⟩:∃ W,W=wc.alloc (.cells #[] 3):=⟨_,rfl⟩;rw [<- hwd]at hMI0 hMS0 hA2;rw [<- hwc,<- hwd];have hE:Below wb.heap.size wb wd:=hA1.trans (hA2.mono hA1.size);clear hwc hwd hA1 hA2 hsc;have kq_0:=(bxq.below hE) 0 _ rfl;have kq_1:=(bxq.below hE) 1 _ rfl;have kp_0:=(bxp.below hE) 0 _ rfl;have hB1:=hB.trans (hE.mono hB.size)
 go_wp2_with fail
 refine(sIsValidQuery_c _ q _ ((rQuery_ok NB).keep rq (cells_below hB1))).mono ?_;rintro e we ⟨rfl,hbe⟩;replace hMI0:=hMI0.below (rStepInfo_ok NB) hbe;replace hMS0:=hMS0.below rInt_ok hbe;replace hE:=hE.trans (hbe.mono hE.size);replace hB1:=hB1.trans (hbe.mono hB1.size);clear hbe kq_0 kq_1 kp_0;have kp_0:=(bxp.below hE) 0 _ rfl;cases e1:validQ q
 ·have HN:=Lib.hid (planInfo_inv (p:=p) e1)
  clear e1;go_wp2;go_ret2;rw [HN.out];exact⟨_,_,_,rfl,hMI0.base hB.size,hB1⟩
 have HV:=Lib.hid e1;clear e1;cases e2:inR (np_d5:Int) 1 14
 ·have HN:=Lib.hid (planInfo_len (q:=q) (p:=p) (by rw [HLp.out];exact e2))
  have K2:=Lib.hid (fun W=>l1In_v e2 W);clear e2
  go_wp2_with (go_at_call 51;refine(K2.out _).mono ?_;rintro e w' ⟨rfl,hww⟩;replace hww:=hww.symm;subst hww)
  go_ret2;rw [HN.out];exact⟨_,_,_,rfl,hMI0.base hB.size,hB1⟩
 have K2:=Lib.hid (fun W=>l1In_v e2 W);have hp14:=(inR_t.1 e2).2;have H2:=Lib.hid (show inR (p.fSteps.length:Int) 1 14=true by rw [HLp.out];exact e2);clear e2
 go_wp2_with (go_at_call 51;refine(K2.out _).mono ?_;rintro e w' ⟨rfl,hww⟩;replace hww:=hww.symm;subst hww)
 clear kp_0
 go_loopw [6,7,8] (fun si ss i wr=>∃ (k:Nat) (AI AS:Option Addr) (cI nS cS:Nat) (l:List StepInfoD) (st:List Int),k<=np_d5/\i=.int .i64 k/\si=.slice AI k cI/\ss=.slice AS nS cS/\planRun q (p.fSteps.take k)=some (l,st)/\MS wb.heap.size NB 243 (rStepInfo NB) wr AI k cI l/\MS wb.heap.size NB 3 rInt wr AS nS cS st/\(∀ z∈blk AI,z∉blk AS)/\Below wb.heap.size wb wr) (fun _ _ i _=>np_d5 - (intOf i).toNat)
 case atStart=>exact⟨0,_,_,0,0,0,[],[],Nat.zero_le _,rfl,rfl,rfl,rfl,hMI0,hMS0,by simp [blk],hE⟩
 case round =>
  clear hMI0 hMS0 hE hB1;obtain⟨k,AI,AS,cI,nS,cS,l,st,hk,rfl,rfl,rfl,hrun,hMI,hMS,hdj,hE⟩:=hrel;have HRR:=Lib.hid hrun;clear hrun;have HDJ:=Lib.hid hdj;clear hdj;have hB2:=hB.trans (hE.mono hB.size);have HOK:=Lib.hid (planRun_ok HV.out HRR.out);have HRun:Hid (Run q.fAtoms.length l st):=HOK.out.1;have HL14:Hid (l.length<=14):=by show _<=_;rw [hMI.len];omega
  have kp_0:=(bxp.below hE) 0 _ rfl;by_cases hlt:k<np_d5
  ·obtain⟨b,off,x,rfl,hc0,hc1,hc2,i0,i1,i2,hx⟩:=hp_d5.ePlanStep hlt
   have HX:=Lib.hid hx.out;clear hx
   have RQ:Hid (∀ W,Below w.heap.size w W->(rQuery NB).rep W [.int .i64 q.fVariableCount,.slice Aq_e nq_e cq_e] q):=by
    show ∀ W,_->_;intro W hW;exact((rQuery_ok NB).keep rq (cells_below hW))
   have RX:Hid (∀ W,Below w.heap.size w W->(rPlanStep NB).rep W [.int .i64 x.fKind,.int .i64 x.fAtom,.int .i64 x.fOrder] x):=by
    show ∀ W,_->_;intro W hW;exact rPlanStep_rep.2 ⟨rfl,i0,i1,i2⟩
   have HSS:Hid (∀ w',Below wr.heap.size wr w'->(w'.cell? ⟨w.heap.size,0,none⟩=some (.int .i64 q.fVariableCount)/\w'.cell? ⟨w.heap.size,1,none⟩=some (.slice Aq_e nq_e cq_e)/\w'.cell? ⟨w.heap.size+1,0,none⟩=some (.slice (some ⟨b,off,none⟩) np_d5 cp_d5)/\w'.cell? ⟨b,off+k*3,none⟩=some (.int .i64 x.fKind)/\w'.cell? ⟨b,off+k*3+1,none⟩=some (.int .i64 x.fAtom)/\w'.cell? ⟨b,off+k*3+2,none⟩=some (.int .i64 x.fOrder))):=by
    show ∀ w',_->_;intro w' hb;have hz:=hB2.trans (hb.mono hB2.size);exact⟨((bxq.below hE).below hb) 0 _ rfl,((bxq.below hE).below hb) 1 _ rfl,((bxp.below hE).below hb) 0 _ rfl,cells_below hz _ _ hc0,cells_below hz _ _ hc1,cells_below hz _ _ hc2⟩
   clear hc0 hc1 hc2;cases hs:stepInfo q x l st with
   | none =>
    have HS:=Lib.hid hs;have HN:=Lib.hid (planInfo_none (p:=p) (planStep_no HX.out HRR.out hs));clear hs;go_wp2;refine hbg HSS.out (Below.refl _ _).drew (fun hH=>?_);refine tq4 0 hH ?_;simp only [putS];refine tq4 4 hH ?_;simp only [putS];refine rd2 8 (some 40) 12 (some 9) (fun K hK=>?_) fun K hK=>?_
    all_goals clear hH
    ·go_simp
     refine(sL23Step_n HS.out (RQ.out _ (hB2.trans ((Below.refl wr.heap.size wr).drew.mono hB2.size))) (RX.out _ (hB2.trans ((Below.refl wr.heap.size wr).drew.mono hB2.size))) (hMI.rs (rStepInfo_ok NB) |>.below (rStepInfo_ok NB) (Below.refl wr.heap.size wr).drew) (hMS.rs rInt_ok |>.below rInt_ok (Below.refl wr.heap.size wr).drew) HV.out HRun.out HL14.out).mono ?_;rintro e wc ⟨rfl,hbc⟩;have hC:Below wr.heap.size wr wc:=Below.trans (Below.refl wr.heap.size wr).drew hbc
     go_wp2_with fail
     refine hK.out _ _ (HSS.out _ hC) (fun hH=>?_);clear hK K
     try simp only [putS]
     refine tq2 9 hH ?_;refine tq1 11 hH ?_;simp only [putS];have hC2:Below wr.heap.size wr (wc.alloc (.cells #[.int .i64 0,.int .i64 0,.int .i64 0,.int .i64 0] 243)):=hC.alloc hC.size _;refine rd 12 (some 9) fun K hK=>?_;clear hH;go_simp;refine hK.out _ _ (HSS.out _ (hC.alloc hC.size _)) (fun hH=>?_);clear hK K
     try simp only [putS]
     refine rd 13 none fun K hK=>?_;clear hH;go_simp;refine hK.out _ _ (HSS.out _ hC2) (fun hH=>?_);clear hK K
     try simp only [putS]
     refine tq1 14 hH ?_;simp only [putS];refine wpAnyH_done (by kernel_rfl) ?_ _;clear hH;have bkX:=Bk.new wc [.int .i64 0,.int .i64 0,.int .i64 0,.int .i64 0] 243;obtain⟨wd,hwd⟩:∃ W,W=wc.alloc (.cells #[.int .i64 0,.int .i64 0,.int .i64 0,.int .i64 0] 243):=⟨_,rfl⟩;rw [<- hwd]at bkX hC2 ⊢;clear hwd hbc;obtain⟨gx,hgx⟩:∃ g,g=wc.heap.size:=⟨_,rfl⟩;rw [<- hgx]at bkX ⊢;clear hgx hC;have k10:decide ((-1:Int)<0)=true:=by decide
     go_wp2;go_ret2;rw [HN.out];exact⟨_,_,_,rfl,MS.empty _ (hB2.trans (hC2.mono hB2.size)).size,(hB2.trans (hC2.mono hB2.size)).alloc (hB2.trans (hC2.mono hB2.size)).size _⟩
    ·go_simp
     refine hK.out _ _ (HSS.out _ ((Below.refl wr.heap.size wr).alloc (Nat.le_refl _) (.cells #[.int .i64 0,.int .i64 0,.int .i64 0,.int .i64 0] 243)).drew) (fun hH=>?_);clear hK K
     try simp only [putS]
     refine rd 8 (some 40) fun K hK=>?_;clear hH;go_simp;refine(sL23Step_n HS.out (RQ.out _ (hB2.trans (((Below.refl wr.heap.size wr).alloc (Nat.le_refl _) (.cells #[.int .i64 0,.int .i64 0,.int .i64 0,.int .i64 0] 243)).drew.mono hB2.size))) (RX.out _ (hB2.trans (((Below.refl wr.heap.size wr).alloc (Nat.le_refl _) (.cells #[.int .i64 0,.int .i64 0,.int .i64 0,.int .i64 0] 243)).drew.mono hB2.size))) (hMI.rs (rStepInfo_ok NB) |>.below (rStepInfo_ok NB) ((Below.refl wr.heap.size wr).alloc (Nat.le_refl _) (.cells #[.int .i64 0,.int .i64 0,.int .i64 0,.int .i64 0] 243)).drew) (hMS.rs rInt_ok |>.below rInt_ok ((Below.refl wr.heap.size wr).alloc (Nat.le_refl _) (.cells #[.int .i64 0,.int .i64 0,.int .i64 0,.int .i64 0] 243)).drew) HV.out HRun.out HL14.out).mono ?_
     rintro e wc ⟨rfl,hbc⟩;have hC:Below wr.heap.size wr wc:=Below.trans ((Below.refl wr.heap.size wr).alloc (Nat.le_refl _) (.cells #[.int .i64 0,.int .i64 0,.int .i64 0,.int .i64 0] 243)).drew (hbc.mono (by simp))
     go_wp2_with fail
     refine hK.out _ _ (HSS.out _ hC) (fun hH=>?_);clear hK K
     try simp only [putS]
     refine tq2 9 hH ?_;refine tq1 11 hH ?_;simp only [putS];have bkX:=Bk.below (w:=(wr.alloc (.cells #[.int .i64 0,.int .i64 0,.int .i64 0,.int .i64 0] 243)).drew) (Bk.new wr [.int .i64 0,.int .i64 0,.int .i64 0,.int .i64 0] 243) hbc;have c0:=bkX.bx 0 _ rfl;have e0:=bkX.frozen 0;have c1:=bkX.bx 1 _ rfl;have e1:=bkX.frozen 1;have c2:=bkX.bx 2 _ rfl;have e2:=bkX.frozen 2;have c3:=bkX.bx 3 _ rfl;have e3:=bkX.frozen 3;have hC2:=((((hC.setCell (p:=⟨wr.heap.size,0,none⟩) (Nat.le_refl _) (.int .i64 0)).setCell (p:=⟨wr.heap.size,1,none⟩) (Nat.le_refl _) (.int .i64 0)).setCell (p:=⟨wr.heap.size,2,none⟩) (Nat.le_refl _) (.int .i64 0)).setCell (p:=⟨wr.heap.size,3,none⟩) (Nat.le_refl _) (.int .i64 0))
     refine rd 13 none fun K hK=>?_;clear hH;go_simp;refine hK.out _ _ (HSS.out _ hC2) (fun hH=>?_);clear hK K
     try simp only [putS]
     refine tq1 14 hH ?_;simp only [putS];refine wpAnyH_done (by kernel_rfl) ?_ _;clear hH;replace bkX:=((((bkX.set 0 (.int .i64 0)).set 1 (.int .i64 0)).set 2 (.int .i64 0)).set 3 (.int .i64 0));obtain⟨wd,hwd⟩:∃ W,W=((((wc.setCell ⟨wr.heap.size,0,none⟩ (.int .i64 0)).setCell ⟨wr.heap.size,1,none⟩ (.int .i64 0)).setCell ⟨wr.heap.size,2,none⟩ (.int .i64 0)).setCell ⟨wr.heap.size,3,none⟩ (.int .i64 0)):=⟨_,rfl⟩;rw [<- hwd]at bkX hC2 ⊢;clear hwd hbc c0 e0 c1 e1 c2 e2 c3 e3;obtain⟨gx,hgx⟩:∃ g,g=wr.heap.size:=⟨_,rfl⟩;rw [<- hgx]at bkX ⊢;clear hgx hC;have k10:decide ((-1:Int)<0)=true:=by decide
     go_wp2;go_ret2;rw [HN.out];exact⟨_,_,_,rfl,MS.empty _ (hB2.trans (hC2.mono hB2.size)).size,(hB2.trans (hC2.mono hB2.size)).alloc (hB2.trans (hC2.mono hB2.size)).size _⟩
   | some s =>
    obtain⟨y,j⟩:=s;have HS:=Lib.hid hs;have HRN:=Lib.hid (planStep_yes HX.out HRR.out hs);have HIO:Hid (I64 y.fOrder):=stepInfo_order HRun.out (hMI.rs (rStepInfo_ok NB)) i2 (hq_e.below (rAtom_ok NB) hB2) hs;have hok:=stepInfo_ok HV.out HRun.out hs;have hpk:=pow_le16 (validQ_parts HV.out).2.2.2.1;have hy0:=hok.1.1;have hy1:y.fMask<16:=by have:=hok.1.2;omega
    have hyl:=hok.2.1;have hyr:=hok.2.2.1;have hj:j<=st.length:=hok.2.2.2.1;have hl14:l.length<=14:=HL14.out;rw [hMS.len]at hj;clear hs hok hpk;go_wp2;refine hbg HSS.out (Below.refl _ _).drew (fun hH=>?_);refine tq4 0 hH ?_;simp only [putS];refine tq4 4 hH ?_;simp only [putS];refine rd2 8 (some 40) 12 (some 9) (fun K hK=>?_) fun K hK=>?_
    all_goals clear hH
    ·go_simp
     refine(sL23Step_y HS.out (RQ.out _ (hB2.trans ((Below.refl wr.heap.size wr).drew.mono hB2.size))) (RX.out _ (hB2.trans ((Below.refl wr.heap.size wr).drew.mono hB2.size))) (hMI.rs (rStepInfo_ok NB) |>.below (rStepInfo_ok NB) (Below.refl wr.heap.size wr).drew) (hMS.rs rInt_ok |>.below rInt_ok (Below.refl wr.heap.size wr).drew) HV.out HRun.out HL14.out).mono ?_;rintro e wc ⟨rfl,hbc⟩;have hC:Below wr.heap.size wr wc:=Below.trans (Below.refl wr.heap.size wr).drew hbc
     go_wp2_with fail
     refine hK.out _ _ (HSS.out _ hC) (fun hH=>?_);clear hK K
     try simp only [putS]
     refine tq2 9 hH ?_;refine tq1 11 hH ?_;simp only [putS];have hC2:Below wr.heap.size wr (wc.alloc (.cells #[.int .i64 y.fMask,.int .i64 y.fOrder,.int .i64 y.fLeft,.int .i64 y.fRight] 243)):=hC.alloc hC.size _;refine rd 12 (some 9) fun K hK=>?_;clear hH;go_simp;refine hK.out _ _ (HSS.out _ (hC.alloc hC.size _)) (fun hH=>?_);clear hK K
     try simp only [putS]
     refine rd 13 none fun K hK=>?_;clear hH;go_simp;refine hK.out _ _ (HSS.out _ hC2) (fun hH=>?_);clear hK K
     try simp only [putS]
     refine tq1 14 hH ?_;simp only [putS];refine wpAnyH_done (by kernel_rfl) ?_ _;clear hH;have bkX:=Bk.new wc [.int .i64 y.fMask,.int .i64 y.fOrder,.int .i64 y.fLeft,.int .i64 y.fRight] 243;obtain⟨wd,hwd⟩:∃ W,W=wc.alloc (.cells #[.int .i64 y.fMask,.int .i64 y.fOrder,.int .i64 y.fLeft,.int .i64 y.fRight] 243):=⟨_,rfl⟩;rw [<- hwd]at bkX hC2 ⊢;clear hwd hbc;obtain⟨gx,hgx⟩:∃ g,g=wc.heap.size:=⟨_,rfl⟩;rw [<- hgx]at bkX ⊢;clear hgx hC;have hB3:=hB2.trans (hC2.mono hB2.size);have hE3:=hE.trans (hC2.mono hE.size);have hMI2:=hMI.below (rStepInfo_ok NB) hC2;have hMS2:=hMS.below rInt_ok hC2;have hszB:=hE3.size
     have c0:=bkX.bx 0 _ rfl;have c1:=bkX.bx 1 _ rfl;have c2:=bkX.bx 2 _ rfl;have c3:=bkX.bx 3 _ rfl
     go_upto_region 12 with (at_builtin;go_loud (refine wpList_appB (r:=rStepInfo NB) rfl _ _ 237 rfl _ 32 eiStepInfo (rStepInfo_ok NB) rfl hMI2 (bal) hszB ⟨wd.heap.size,0,none⟩ rfl [] [.int .i64 y.fMask,.int .i64 y.fOrder,.int .i64 y.fLeft,.int .i64 y.fRight] y (rStepInfo_own.2 ⟨rfl,rfl,⟨by omega,by omega⟩,HIO.out,⟨by omega,by omega⟩,⟨by omega,by omega⟩⟩) (Fr.nil _) (cells_new _ _ _) (by unfold NB;omega) (Nat.le_refl _) (by omega) ?_;intro AI2 cI2 w1 hMI3 hb1 hg1 hA1))
     have hAl:=(Below.refl wd.heap.size wd).alloc (Nat.le_refl _) (.cells #[.int .i64 y.fMask,.int .i64 y.fOrder,.int .i64 y.fLeft,.int .i64 y.fRight] 243);have hMS2a:=hMS2.below rInt_ok hAl;have hMS3:=hMS2a.keepG rInt_ok rInt_nofp hg1 HDJ.out;have HDJ2:=Lib.hid (disj_app HDJ.out hA1 (fun z hz=>(hMS2a.blkB rInt_ok z hz).2));have hE1:=(hE3.trans (hAl.mono hE3.size)).trans hb1;clear c0 c1 c2 c3 hMS2a hAl hb1 hg1 hA1 hMI2 hMS2 hszB bkX hC2 hMI hMS hE hB2 hB3 hE3 HDJ;have hnS14:nS<=14:=by have:=HOK.out.1.len;have:=hMS3.len;have:=HL14.out;omega
     obtain⟨m,hm⟩:∃ m,m+j=nS:=⟨nS - j,by omega⟩;have mj:IntKind.i64.wrap ((nS:Int) - (j:Int))=(m:Int):=by rw [IntWalk.i64_in _ (by omega)];omega
     have hmc:m<=cS:=by have:=(hMS3.rs rInt_ok).nc;omega
     have hMT:=(hMS3.takeI (k:=m) (by omega)).rs rInt_ok
     have HRN2:Hid (planRun q (p.fSteps.take (k+1))=some (l++[y],st.take m++[(k:Int)])):=by
      have h1:=hMS3.len;have h2:=hMI3.len;rw [List.length_append,List.length_singleton]at h2;show _=_;rw [HRN.out,show st.length - j=m by omega,show l.length=k by omega]
     have hAe:=(Below.refl w1.heap.size w1).alloc (Nat.le_refl _) (.cells #[] 3);have hMTe:=hMT.below rInt_ok hAe;have hm14:m<=14:=by have:=HOK.out.1.len;have:=hMS3.len;have:=HL14.out;omega
     have hmI:(m:Int)<=(nS:Int):=by omega
     clear hm hMT
     go_wp2_with (first|(at_builtin;refine wpList_appe (M:=NB) (r:=rInt) rfl _ _ 30 rfl _ 8 eiInt rInt_ok rInt_flat (g:=w1.heap.size) rfl (heap_alloc_new w1 _) rfl hMTe (by unfold NB;omega) (Nat.le_refl _) (by omega) ?_;intro AT cT w2 hoT hkT hbT;have hMT2:MS w1.heap.size NB 3 rInt w2 AT m cT (st.take m):=⟨_,hoT,⟨by cases AT<;>simp [blk],fun z hz=>by rcases hkT z hz with e|e<;>(subst e;simp)⟩⟩;have hbT2:=(hAe.trans (hbT.mono hAe.size));have hsT:=hbT2.size)|(at_builtin;refine wpList_appB (r:=rInt) rfl _ _ 30 rfl _ 8 eiInt rInt_ok rfl hMT2 (bal) hsT ⟨w2.heap.size,0,none⟩ rfl [] [.int .i64 k] (k:Int) ⟨rfl,rfl,⟨by omega,by omega⟩⟩ (Fr.nil _) (cells_new _ _ _) (by unfold NB;omega) (Nat.le_refl _) (by omega) ?_;intro AU cU w3 hMU hbU hgU hAU))
     have hbU2:=(hbT2.alloc hbT2.size (.cells #[.int .i64 k] 3)).trans hbU
     have HDJ3:Hid (∀ z∈blk AI2,z∉blk AU):=by
      show ∀ z∈blk AI2,_;intro z hz hz2;have h1:=(hMI3.blkB (rStepInfo_ok NB) z hz).2;have h2:=(hMU.blkB rInt_ok z hz2).1;omega
     have hwb:=hE1.size;clear mj;go_roundw
     case rel=>exact⟨k+1,AI2,AU,cI2,m+1,cU,_,_,by omega,by go_num,rfl,rfl,HRN2.out,hMI3.below (rStepInfo_ok NB) hbU2,hMU.base hwb,HDJ3.out,hE1.trans (hbU2.mono hwb)⟩
     case measure=>simp [intOf];omega
    ·go_simp
     refine hK.out _ _ (HSS.out _ ((Below.refl wr.heap.size wr).alloc (Nat.le_refl _) (.cells #[.int .i64 0,.int .i64 0,.int .i64 0,.int .i64 0] 243)).drew) (fun hH=>?_);clear hK K
     try simp only [putS]
     refine rd 8 (some 40) fun K hK=>?_;clear hH;go_simp;refine(sL23Step_y HS.out (RQ.out _ (hB2.trans (((Below.refl wr.heap.size wr).alloc (Nat.le_refl _) (.cells #[.int .i64 0,.int .i64 0,.int .i64 0,.int .i64 0] 243)).drew.mono hB2.size))) (RX.out _ (hB2.trans (((Below.refl wr.heap.size wr).alloc (Nat.le_refl _) (.cells #[.int .i64 0,.int .i64 0,.int .i64 0,.int .i64 0] 243)).drew.mono hB2.size))) (hMI.rs (rStepInfo_ok NB) |>.below (rStepInfo_ok NB) ((Below.refl wr.heap.size wr).alloc (Nat.le_refl _) (.cells #[.int .i64 0,.int .i64 0,.int .i64 0,.int .i64 0] 243)).drew) (hMS.rs rInt_ok |>.below rInt_ok ((Below.refl wr.heap.size wr).alloc (Nat.le_refl _) (.cells #[.int .i64 0,.int .i64 0,.int .i64 0,.int .i64 0] 243)).drew) HV.out HRun.out HL14.out).mono ?_
     rintro e wc ⟨rfl,hbc⟩;have hC:Below wr.heap.size wr wc:=Below.trans ((Below.refl wr.heap.size wr).alloc (Nat.le_refl _) (.cells #[.int .i64 0,.int .i64 0,.int .i64 0,.int .i64 0] 243)).drew (hbc.mono (by simp))
     go_wp2_with fail
     refine hK.out _ _ (HSS.out _ hC) (fun hH=>?_);clear hK K
     try simp only [putS]
     refine tq2 9 hH ?_;refine tq1 11 hH ?_;simp only [putS];have bkX:=Bk.below (w:=(wr.alloc (.cells #[.int .i64 0,.int .i64 0,.int .i64 0,.int .i64 0] 243)).drew) (Bk.new wr [.int .i64 0,.int .i64 0,.int .i64 0,.int .i64 0] 243) hbc;have c0:=bkX.bx 0 _ rfl;have e0:=bkX.frozen 0;have c1:=bkX.bx 1 _ rfl;have e1:=bkX.frozen 1;have c2:=bkX.bx 2 _ rfl;have e2:=bkX.frozen 2;have c3:=bkX.bx 3 _ rfl;have e3:=bkX.frozen 3;have hC2:=((((hC.setCell (p:=⟨wr.heap.size,0,none⟩) (Nat.le_refl _) (.int .i64 y.fMask)).setCell (p:=⟨wr.heap.size,1,none⟩) (Nat.le_refl _) (.int .i64 y.fOrder)).setCell (p:=⟨wr.heap.size,2,none⟩) (Nat.le_refl _) (.int .i64 y.fLeft)).setCell (p:=⟨wr.heap.size,3,none⟩) (Nat.le_refl _) (.int .i64 y.fRight))
     refine rd 13 none fun K hK=>?_;clear hH;go_simp;refine hK.out _ _ (HSS.out _ hC2) (fun hH=>?_);clear hK K
     try simp only [putS]
     refine tq1 14 hH ?_;simp only [putS];refine wpAnyH_done (by kernel_rfl) ?_ _;clear hH;replace bkX:=((((bkX.set 0 (.int .i64 y.fMask)).set 1 (.int .i64 y.fOrder)).set 2 (.int .i64 y.fLeft)).set 3 (.int .i64 y.fRight));obtain⟨wd,hwd⟩:∃ W,W=((((wc.setCell ⟨wr.heap.size,0,none⟩ (.int .i64 y.fMask)).setCell ⟨wr.heap.size,1,none⟩ (.int .i64 y.fOrder)).setCell ⟨wr.heap.size,2,none⟩ (.int .i64 y.fLeft)).setCell ⟨wr.heap.size,3,none⟩ (.int .i64 y.fRight)):=⟨_,rfl⟩;rw [<- hwd]at bkX hC2 ⊢;clear hwd hbc c0 e0 c1 e1 c2 e2 c3 e3;obtain⟨gx,hgx⟩:∃ g,g=wr.heap.size:=⟨_,rfl⟩;rw [<- hgx]at bkX ⊢;clear hgx hC
     have hB3:=hB2.trans (hC2.mono hB2.size);have hE3:=hE.trans (hC2.mono hE.size);have hMI2:=hMI.below (rStepInfo_ok NB) hC2;have hMS2:=hMS.below rInt_ok hC2;have hszB:=hE3.size;have c0:=bkX.bx 0 _ rfl;have c1:=bkX.bx 1 _ rfl;have c2:=bkX.bx 2 _ rfl;have c3:=bkX.bx 3 _ rfl
     go_upto_region 12 with (at_builtin;go_loud (refine wpList_appB (r:=rStepInfo NB) rfl _ _ 237 rfl _ 32 eiStepInfo (rStepInfo_ok NB) rfl hMI2 (bal) hszB ⟨wd.heap.size,0,none⟩ rfl [] [.int .i64 y.fMask,.int .i64 y.fOrder,.int .i64 y.fLeft,.int .i64 y.fRight] y (rStepInfo_own.2 ⟨rfl,rfl,⟨by omega,by omega⟩,HIO.out,⟨by omega,by omega⟩,⟨by omega,by omega⟩⟩) (Fr.nil _) (cells_new _ _ _) (by unfold NB;omega) (Nat.le_refl _) (by omega) ?_;intro AI2 cI2 w1 hMI3 hb1 hg1 hA1))
     have hAl:=(Below.refl wd.heap.size wd).alloc (Nat.le_refl _) (.cells #[.int .i64 y.fMask,.int .i64 y.fOrder,.int .i64 y.fLeft,.int .i64 y.fRight] 243);have hMS2a:=hMS2.below rInt_ok hAl;have hMS3:=hMS2a.keepG rInt_ok rInt_nofp hg1 HDJ.out;have HDJ2:=Lib.hid (disj_app HDJ.out hA1 (fun z hz=>(hMS2a.blkB rInt_ok z hz).2));have hE1:=(hE3.trans (hAl.mono hE3.size)).trans hb1;clear c0 c1 c2 c3 hMS2a hAl hb1 hg1 hA1 hMI2 hMS2 hszB bkX hC2 hMI hMS hE hB2 hB3 hE3 HDJ;have hnS14:nS<=14:=by have:=HOK.out.1.len;have:=hMS3.len;have:=HL14.out;omega
     obtain⟨m,hm⟩:∃ m,m+j=nS:=⟨nS - j,by omega⟩;have mj:IntKind.i64.wrap ((nS:Int) - (j:Int))=(m:Int):=by rw [IntWalk.i64_in _ (by omega)];omega
     have hmc:m<=cS:=by have:=(hMS3.rs rInt_ok).nc;omega
     have hMT:=(hMS3.takeI (k:=m) (by omega)).rs rInt_ok
     have HRN2:Hid (planRun q (p.fSteps.take (k+1))=some (l++[y],st.take m++[(k:Int)])):=by
      have h1:=hMS3.len;have h2:=hMI3.len;rw [List.length_append,List.length_singleton]at h2;show _=_;rw [HRN.out,show st.length - j=m by omega,show l.length=k by omega]
     have hAe:=(Below.refl w1.heap.size w1).alloc (Nat.le_refl _) (.cells #[] 3);have hMTe:=hMT.below rInt_ok hAe;have hm14:m<=14:=by have:=HOK.out.1.len;have:=hMS3.len;have:=HL14.out;omega
     have hmI:(m:Int)<=(nS:Int):=by omega
     clear hm hMT
     go_wp2_with (first|(at_builtin;refine wpList_appe (M:=NB) (r:=rInt) rfl _ _ 30 rfl _ 8 eiInt rInt_ok rInt_flat (g:=w1.heap.size) rfl (heap_alloc_new w1 _) rfl hMTe (by unfold NB;omega) (Nat.le_refl _) (by omega) ?_;intro AT cT w2 hoT hkT hbT;have hMT2:MS w1.heap.size NB 3 rInt w2 AT m cT (st.take m):=⟨_,hoT,⟨by cases AT<;>simp [blk],fun z hz=>by rcases hkT z hz with e|e<;>(subst e;simp)⟩⟩;have hbT2:=(hAe.trans (hbT.mono hAe.size));have hsT:=hbT2.size)|(at_builtin;refine wpList_appB (r:=rInt) rfl _ _ 30 rfl _ 8 eiInt rInt_ok rfl hMT2 (bal) hsT ⟨w2.heap.size,0,none⟩ rfl [] [.int .i64 k] (k:Int) ⟨rfl,rfl,⟨by omega,by omega⟩⟩ (Fr.nil _) (cells_new _ _ _) (by unfold NB;omega) (Nat.le_refl _) (by omega) ?_;intro AU cU w3 hMU hbU hgU hAU))
     have hbU2:=(hbT2.alloc hbT2.size (.cells #[.int .i64 k] 3)).trans hbU
     have HDJ3:Hid (∀ z∈blk AI2,z∉blk AU):=by
      show ∀ z∈blk AI2,_;intro z hz hz2;have h1:=(hMI3.blkB (rStepInfo_ok NB) z hz).2;have h2:=(hMU.blkB rInt_ok z hz2).1;omega
     have hwb:=hE1.size;clear mj;go_roundw
     case rel=>exact⟨k+1,AI2,AU,cI2,m+1,cU,_,_,by omega,by go_num,rfl,rfl,HRN2.out,hMI3.below (rStepInfo_ok NB) hbU2,hMU.base hwb,HDJ3.out,hE1.trans (hbU2.mono hwb)⟩
     case measure=>simp [intOf];omega
  ·have HPL:Hid (planRun q p.fSteps=some (l,st)):=by
    show _=_;have:=HRR.out
    rwa [take_all hp_d5.len hlt]at this
   have HPE:=Lib.hid (planInfo_end HV.out H2.out HPL.out);have HSL:=Lib.hid hMS.len;by_cases hn1:nS=1
   ·have nb:((nS:Int) != 1)=false:=by simp [hn1]
    have HN:Hid (planInfo q p=some l):=by show _=_;rw [HPE.out,if_pos (HSL.out.trans hn1)]
    clear hn1;go_wp2;go_ret2;rw [HN.out];exact⟨_,_,_,rfl,hMI.base hB.size,hB2⟩
   ·have nb:((nS:Int) != 1)=true:=by simp;omega
    have HN:Hid (planInfo q p=none):=by show _=_;rw [HPE.out,if_neg (fun h=>hn1 (HSL.out.symm.trans h))]
    clear hn1;go_wp2;go_ret2;rw [HN.out];exact⟨_,_,_,rfl,MS.empty _ hB2.size,hB2.alloc hB2.size _⟩
end Go.Proofs.YtnlcfkpcmfljeaaGreat
