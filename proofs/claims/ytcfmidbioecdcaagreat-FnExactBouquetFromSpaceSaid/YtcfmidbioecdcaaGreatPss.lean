/-
  Pss
-/
import Derived.Test.YtcfmidbioecdcaaGreatKeep
import Derived.Test.YtcfmidbioecdcaaGreatPis
import Derived.Test.YtcfmidbioecdcaaGreatPcp
import Derived.Test.YtcfmidbioecdcaaGreatPst
namespace Go.Proofs.YtcfmidbioecdcaaGreat
open Go.RowKit
set_option linter.unusedVariables false
set_option linter.unusedSimpArgs false
/-- append of one owned element at a region's step, with the word where the new row lies -/
theorem step_appB {α:Type}{r:Rp α}{B M:Nat}{e:TypeId}{w:World}{A:Option Addr}{n cap:Nat}{l:List α}{P:Program}{ops:Array Oper}{o:Oper}{a:Act}{K:Act->World->Prop}{Q:Exit->Act->World->Prop}{E:Prop}(hgd:o.guard=none) (s x:Operand) (t:TypeId)
  (ho:o.op=.call { callee:=.builtin .append,args:=#[s,x],argTypes:=#[t,t] }) (z:Value) (bytes:Nat) (ei:Ei P t e z r.size bytes) (hr:r.Ok) {wr:World}
  (hs:a.eval s=.slice A n cap) (h:MS B M e r wr A n cap l) (hb:Below wr.heap.size wr w) (hB:B<=wr.heap.size)
  (ad:Addr) (hx:a.eval x=.slice (some ad) 1 1) {f:List Nat} {cs:List Value} {y:α} (hy:r.own w f cs y) (hf:Fr wr.heap.size f) (hc:∀ j u,cs[j]?=some u->w.cell? (ad.add j)=some u)
  (hn:n+1<=M) (hM:M<=4294967296) (hby:(n+1)*bytes<=140737488355328)
  (hK:∀ A' cap' w',MS B M e r w' A' (n+1) cap' (l++[y])->Below B w w'->w.grownBy w' (A.map (·.block))->(A'.map (·.block)=A.map (·.block)\/A'.map (·.block)=some w.heap.size)->K (a.put o.dst (.slice A' (n+1) cap')) w') :
  if Region.wanted o (yielded ops a.tmps)=true then Oper.wp P o a w K Q else E:=by
 have hw:Region.wanted o (yielded ops a.tmps)=true:=by simp [Region.wanted,hgd]
 rw [if_pos hw]
 obtain⟨i,hi,h1,h2,h3⟩:=info_parts ei.hi
 obtain⟨fp,hO,hfr⟩:=h
 have hO':=hO.belowS hr hb
 obtain⟨css,fps,h4,_,h6⟩:=hO'.ex
 obtain⟨v',w',hrun,r1,r2,_,r4⟩:=run_append_own_at (P:=P) w 0 t o.type e i z r.size bytes ei.ht hi h1 h2 h3 ei.hz hr.pos (.slice A n cap) n css.flatten h4 ad 1 1 cs (by rw [hr.len (hr.toRep hy),Nat.one_mul]) hc (hr.one (hr.toRep hy)) (by unfold maxLen;omega) hby (Nat.zero_le _)
 obtain⟨A',cap',rfl⟩:=ownsRow_slice r1
 rw [blk_own]at r2 r4
 rw [blk_own]at r4
 unfold Oper.wp execOp
 simp only [ho,resolve,invoke,builtin,Sem.run_bind,Sem.run_pure,Result.andThen_ok,List.map_toArray,List.map_cons,List.map_nil,hs,hx,hrun]
 refine hK A' cap' w' (MS.app1 hr ⟨fp,hO,hfr⟩ hb hB hy hf hn (fun css' hcss=>?_) r2 r4) (MS.grown ⟨fp,hO,hfr⟩ hb hB r2) r2 r4
 have:css'=css.flatten:=by
  rcases (ownsRow_form h4).2 with ⟨rfl,rfl,_⟩|⟨g,rfl,_⟩
  ·have e1:=h4.1;have e2:=hcss.1;rw [Nat.zero_mul]at e1 e2;rw [List.eq_nil_of_length_eq_zero e2,List.eq_nil_of_length_eq_zero e1]
  ·refine List.ext_getElem? fun j=>?_
   by_cases hj:j<n*r.size
   ·rw [<- h4.cellAt j hj,<- hcss.cellAt j hj]
   ·rw [List.getElem?_eq_none (by rw [hcss.1];omega),List.getElem?_eq_none (by rw [h4.1];omega)]
 rw [this];exact r1
theorem stepCosts_none {m:ModelD}{q:QueryD}{p:PlanD}{z:List Int}(h:planInfo q p=none):stepCosts m q p z=[]:=by unfold stepCosts;rw [h]
theorem stepCosts_bad {m:ModelD}{q:QueryD}{p:PlanD}{z:List Int}(h:isSizes q z=false):stepCosts m q p z=[]:=by unfold stepCosts;rw [h];cases planInfo q p<;>rfl
theorem stepCosts_ok {m:ModelD}{q:QueryD}{p:PlanD}{z:List Int}{l:List StepInfoD}(h:planInfo q p=some l) (hz:isSizes q z=true):stepCosts m q p z=(p.fSteps.zip l).map (stepCost m z l):=by unfold stepCosts;rw [h];simp [hz]
theorem stepCosts_at {m:ModelD}{q:QueryD}{p:PlanD}{z:List Int}{l:List StepInfoD}(h:planInfo q p=some l) (hz:isSizes q z=true) {k:Nat}{x:PlanStepD}{y:StepInfoD}(hx:p.fSteps[k]?=some x) (hy:l[k]?=some y):(stepCosts m q p z)[k]?=some (costOf m z l x.fKind y):=by
 rw [stepCosts_ok h hz,List.getElem?_map,show(p.fSteps.zip l)[k]?=some (x,y) from List.getElem?_zip_eq_some.2 ⟨hx,hy⟩];rfl
theorem stepCosts_len {m:ModelD}{q:QueryD}{p:PlanD}{z:List Int}{l:List StepInfoD}(h:planInfo q p=some l) (hz:isSizes q z=true):(stepCosts m q p z).length=l.length:=by
 obtain⟨_,_,_,_,_,h2,_⟩:=planInfo_parts h
 rw [stepCosts_ok h hz];simp;omega
theorem infoAt_nat {l:List StepInfoD}{k:Nat}{y:StepInfoD}(h:l[k]?=some y):infoAt l (k:Int)=y:=by unfold infoAt;rw [Int.toNat_natCast,h];rfl
set_option maxRecDepth 100000 in
set_option maxHeartbeats 1600000 in
theorem sStepCosts_c (csm:List Value) (m:ModelD) (csq:List Value) (q:QueryD) (csp:List Value) (p:PlanD) (Az:Option Addr) (nz cz:Nat) (z:List Int) (w:World) (hm:(rModel NB).rep w csm m) (hq:(rQuery NB).rep w csq q) (hp:(rPlan NB).rep w csp p) (hz:RS NB rInt w Az nz cz z) :
  Calls Tryz.prog 187 #[.agg csm.toArray,.agg csq.toArray,.agg csp.toArray,.slice Az nz cz] w (RetS 3 rInt (stepCosts m q p z) w):=by
 have rm:=hm
 have lenm:=(rModel_ok NB).len hm
 clear hm
 have rq:=hq
 obtain⟨AqAtoms,nqAtoms,cqAtoms,rfl,hqVariableCount,hqAtoms⟩:=rQuery_rep.1 hq
 clear hq
 have rp:=hp
 obtain⟨ApSteps,npSteps,cpSteps,rfl,hpSteps⟩:=rPlan_rep.1 hp
 clear hp
 have hB:Below w.heap.size w w:=Below.refl _ _
 have hAm:=(Below.refl (World.heap (w)).size (w)).alloc (Nat.le_refl _) (.cells csm.toArray 50)
 replace hB:=hB.trans (hAm.mono hB.size)
 have bxm:=Bx.new (w) csm 50
 clear hAm
 have hAq:=(Below.refl (World.heap ((w).alloc (.cells csm.toArray 50))).size ((w).alloc (.cells csm.toArray 50))).alloc (Nat.le_refl _) (.cells #[.int .i64 q.fVariableCount,.slice AqAtoms nqAtoms cqAtoms] 54)
 replace hB:=hB.trans (hAq.mono hB.size)
 replace bxm:=bxm.below hAq
 have bxq:=Bx.new ((w).alloc (.cells csm.toArray 50)) [.int .i64 q.fVariableCount,.slice AqAtoms nqAtoms cqAtoms] 54
 simp only [World.size_alloc]at bxq
 clear hAq
 have hAp:=(Below.refl (World.heap (((w).alloc (.cells csm.toArray 50)).alloc (.cells #[.int .i64 q.fVariableCount,.slice AqAtoms nqAtoms cqAtoms] 54))).size (((w).alloc (.cells csm.toArray 50)).alloc (.cells #[.int .i64 q.fVariableCount,.slice AqAtoms nqAtoms cqAtoms] 54))).alloc (Nat.le_refl _) (.cells #[.slice ApSteps npSteps cpSteps] 114)
 replace hB:=hB.trans (hAp.mono hB.size)
 replace bxm:=bxm.below hAp
 replace bxq:=bxq.below hAp
 have bxp:=Bx.new (((w).alloc (.cells csm.toArray 50)).alloc (.cells #[.int .i64 q.fVariableCount,.slice AqAtoms nqAtoms cqAtoms] 54)) [.slice ApSteps npSteps cpSteps] 114
 simp only [World.size_alloc]at bxp
 clear hAp
 have hnp:=hpSteps.bound
 have hnz:=hz.bound
 have HLp:=Lib.hid hpSteps.len
 have lenm':csm.length=30:=lenm
 clear lenm
 go_enter Tryz.func187,Tryz.ntmps187
 go_upto_region 1 with fail
 obtain⟨wb,hwb⟩:∃ W,W=((w.alloc (.cells csm.toArray 50)).alloc (.cells #[.int .i64 q.fVariableCount,.slice AqAtoms nqAtoms cqAtoms] 54)).alloc (.cells #[.slice ApSteps npSteps cpSteps] 114):=⟨_,rfl⟩
 rw [<- hwb]at hB bxm bxq bxp ⊢
 clear hwb
 go_upto_region 2 with fail
 have hO0:MS wb.heap.size NB 3 rInt (wb.alloc (.cells #[] 3)) (some ⟨wb.heap.size,0,none⟩) 0 0 []:=MS.empty _ (Nat.le_refl _)
 have hE:=(Below.refl wb.heap.size wb).alloc (Nat.le_refl _) (.cells #[] 3)
 obtain⟨wc,hwc⟩:∃ W,W=wb.alloc (.cells #[] 3):=⟨_,rfl⟩
 have hsc:wc.heap.size=wb.heap.size+1:=by rw [hwc];simp
 rw [<- hwc]at hO0 hE ⊢
 clear hwc
 have hB1:=hB.trans (hE.mono hB.size)
 have kq_0:=(bxq.below hE) 0 _ rfl
 have kq_1:=(bxq.below hE) 1 _ rfl
 have kp_0:=(bxp.below hE) 0 _ rfl
 go_wp2_with fail
 refine(sPlanInfo_c _ q _ p _ ((rQuery_ok NB).keep rq (cells_below hB1)) ((rPlan_ok NB).keep rp (cells_below hB1))).mono ?_
 rintro e we ⟨AI,nI,cI,rfl,hMI,hbe⟩
 replace hO0:=hO0.below rInt_ok hbe
 replace hE:=hE.trans (hbe.mono hE.size)
 replace hB1:=hB1.trans (hbe.mono hB1.size)
 clear hbe kq_0 kq_1 kp_0
 cases hpi:planInfo q p with
 | none =>
  rw [hpi]at hMI
  have HN:=Lib.hid hpi;clear hpi
  dsimp only [Option.getD,Option.isSome]at hMI ⊢
  go_wp2
  go_ret
  rw [stepCosts_none HN.out]
  exact⟨_,_,_,rfl,hO0.base hB.size,hB1⟩
 | some l =>
  rw [hpi]at hMI
  dsimp only [Option.getD,Option.isSome]at hMI ⊢
  have HPI:=Lib.hid hpi;clear hpi
  have kq_0:=(bxq.below hE) 0 _ rfl
  have kq_1:=(bxq.below hE) 1 _ rfl
  go_wp2_with fail
  refine(sIsSizeVector_c _ q _ _ _ z _ ((rQuery_ok NB).keep rq (cells_below hB1)) (hz.below rInt_ok hB1)).mono ?_
  rintro e wf ⟨rfl,hbf⟩
  replace hO0:=hO0.below rInt_ok hbf
  replace hMI:=hMI.below (rStepInfo_ok NB) hbf
  replace hE:=hE.trans (hbf.mono hE.size)
  replace hB1:=hB1.trans (hbf.mono hB1.size)
  clear hbf kq_0 kq_1
  cases e1:isSizes q z
  ·have HN:=Lib.hid e1;clear e1
   go_wp2
   go_ret
   rw [stepCosts_bad HN.out]
   exact⟨_,_,_,rfl,hO0.base hB.size,hB1⟩
  have HZ:=Lib.hid e1;clear e1
  have HLI:=Lib.hid hMI.len
  obtain⟨hI14,hIp⟩:nI<=14/\nI=npSteps:=by
   obtain⟨_,_,h3,_,_,h6,_⟩:=planInfo_parts HPI.out
   have:=HLI.out;have:=HLp.out;omega
  have HIP:=Lib.hid hIp;clear hIp
  have HSL:Hid ((stepCosts m q p z).length=nI):=by show _=_;rw [stepCosts_len HPI.out HZ.out];exact HLI.out
  have hdj0:∀ z∈blk (some (⟨wb.heap.size,0,none⟩:Addr)),z∉blk AI:=by
   intro x hx hx2
   have h1:=(hMI.blkB (rStepInfo_ok NB) x hx2).1
   have h2:=(mem_blk.1 hx)
   injection h2 with h2
   simp only at h2
   omega
  go_wp2
  go_loopw [9,12] (fun so i wr=>∃ (k:Nat) (AO:Option Addr) (cO:Nat),k<=nI/\i=.int .i64 k/\so=.slice AO k cO/\MS wb.heap.size NB 3 rInt wr AO k cO ((stepCosts m q p z).take k)/\MS wc.heap.size NB 153 (rStepInfo NB) wr AI nI cI l/\(∀ z∈blk AO,z∉blk AI)/\Below wb.heap.size wb wr) (fun _ i _=>nI - (intOf i).toNat)
  case atStart=>exact⟨0,_,0,Nat.zero_le _,rfl,rfl,hO0,hMI,hdj0,hE⟩
  case round =>
   clear hO0 hMI hE hB1 hdj0
   obtain⟨k,AO,cO,hk,rfl,rfl,hO,hMI,hdj,hE⟩:=hrel
   have HDJ:=Lib.hid hdj;clear hdj
   have hB2:=hB.trans (hE.mono hB.size)
   by_cases hlt:k<nI
   ·have hkP:k<npSteps:=by have:=HIP.out;omega
    obtain⟨b,off,x,rfl,hc0,hc1,hc2,i0,i1,i2,hx⟩:=hpSteps.ePlanStep hkP
    have HX:=Lib.hid hx.out;clear hx
    obtain⟨bI,oI,y,rfl,hcy0,_,_,_,_,_,_,_,hy⟩:=(hMI.rs (rStepInfo_ok NB)).eStepInfo hlt
    have HY:=Lib.hid hy.out;clear hy
    clear hcy0
    obtain⟨c,hc⟩:∃ c,c=costOf m z l x.fKind y:=⟨_,rfl⟩
    have HC:Hid ((stepCosts m q p z)[k]?=some c):=by show _=_;rw [hc];exact stepCosts_at HPI.out HZ.out HX.out HY.out
    have hcI:I64 c:=by have:=(stepCosts_bd m q p z).2 c (mem_of_at HC.out);exact⟨by omega,by omega⟩
    have K1:Hid (∀ W,Below wr.heap.size wr W->Calls Tryz.prog 192 #[.agg csm.toArray,.int .i64 x.fKind,.slice (some ⟨bI,oI,none⟩) nI cI,.int .i64 (k:Int),.slice Az nz cz] W fun e w'=>e=.returned (.int .i64 c)/\Below W.heap.size W w'):=by
     show ∀ W,_->_
     intro W hW
     obtain⟨_,_,_,st,hRun,h6,_⟩:=planInfo_parts HPI.out
     have hBW:=hB2.trans (hW.mono hB2.size)
     have:=sL24Step_c csm m x.fKind _ _ _ l k _ _ _ z W ((rModel_ok NB).keep rm (cells_below hBW)) ((hMI.rs (rStepInfo_ok NB)).below (rStepInfo_ok NB) hW) (hz.below rInt_ok hBW) q st HZ.out hRun (by omega) (by have:=HLI.out;omega) (planInfo_lr HPI.out) (by have:=HLI.out;omega)
     rw [infoAt_nat HY.out,<- hc]at this
     exact this
    clear hc
    have HSS:Hid (∀ w',Below wb.heap.size wb w'->(w'.rangeAt w.heap.size 0 csm/\w'.cell? ⟨w.heap.size+1+1,0,none⟩=some (.slice (some ⟨b,off,none⟩) npSteps cpSteps)/\w'.cell? ⟨b,off+k*3,none⟩=some (.int .i64 x.fKind))):=by
     show ∀ w',_->_
     intro w' hb
     have hz:=hB.trans (hb.mono hB.size)
     exact⟨(bxm.below hb).range,(bxp.below hb) 0 _ rfl,cells_below hz _ _ hc0⟩
    clear hc0 hc1 hc2
    go_wp2
    have hC0:=(Below.refl wr.heap.size wr).drew
    refine hbg HSS.out hE.drew (fun hHeld=>?_)
    refine tka 0 35 hHeld ?_;simp only [putS]
    refine' wpAnyH_take (i:=1) (oi:=⟨some 36,_,_,_,_,_⟩) (v:=_) rfl (by kernel_rfl) (by kernel_rfl) (by kernel_rfl) (fun _ _ _ h=>h) (yieldsIf_load_mid (by rfl) _ _ rfl _ _ rfl _ _ (fun w h=>h.1) Tryz.underlying50 rfl (by rw [lenm'];exact sizeModel)) hHeld ?_
    simp only [putS]
    refine tka 2 37 hHeld ?_;simp only [putS]
    refine tka 3 38 hHeld ?_;simp only [putS]
    refine tka 4 39 hHeld ?_;simp only [putS]
    refine tka 5 40 hHeld ?_;simp only [putS]
    refine tka 6 41 hHeld ?_;simp only [putS]
    refine tka 7 42 hHeld ?_;simp only [putS]
    refine tka 8 43 hHeld ?_;simp only [putS]
    refine tka 9 44 hHeld ?_;simp only [putS]
    refine tka 10 45 hHeld ?_;simp only [putS]
    refine rd 11 (some 46) fun K hK=>?_
    clear hHeld
    go_simp
    refine(K1.out _ (Below.refl wr.heap.size wr).drew).mono ?_
    rintro e w2 ⟨rfl,hb2⟩
    have hC:Below wr.heap.size wr w2:=((Below.refl wr.heap.size wr).drew.trans (hb2.mono (by simp)))
    have hE2:=hE.trans (hC.mono hE.size)
    have hC3:=hC.alloc hC.size (.cells #[.int .i64 c] 3)
    have hE3:=hE2.alloc hE2.size (.cells #[.int .i64 c] 3)
    go_wp2_with fail
    refine hK.out _ _ (HSS.out _ hE2) (fun hHeld=>?_)
    clear hK K
    try simp only [putS]
    refine rd 12 (some 47) fun K hK=>?_
    clear hHeld
    go_simp
    refine hK.out _ _ (HSS.out _ hE3) (fun hHeld=>?_)
    clear hK K
    try simp only [putS]
    refine rd 13 (some 48) fun K hK=>?_
    clear hHeld
    refine step_appB (by rfl) _ _ 30 (by rfl) _ 8 eiInt rInt_ok (by rfl) hO hC3 hE.size ⟨w2.heap.size,0,none⟩ (by rfl) (f:=[]) (cs:=[.int .i64 c]) (y:=c) ⟨rfl,rfl,hcI⟩ (Fr.nil _) (cells_new _ _ _) (by unfold NB;omega) (Nat.le_refl _) (by omega) ?_
    intro AO2 cO2 w9 hO9 hb9 hg9 hA9
    have hE9:=hE3.trans hb9
    refine hK.out _ _ (HSS.out _ hE9) (fun hHeld=>?_)
    clear hK K
    try simp only [putS]
    refine tka 14 9 hHeld ?_;simp only [putS]
    refine wpAnyH_done (by kernel_rfl) ?_ _
    clear hHeld
    clear HSS K1
    go_wp2
    go_roundw
    case rel =>
     have hMI3:=hMI.below (rStepInfo_ok NB) hC3
     exact⟨k+1,AO2,cO2,by omega,by go_num,rfl,by rw [take_snoc HC.out];exact hO9,hMI3.keepG (rStepInfo_ok NB) (rStepInfo_nofp NB) hg9 HDJ.out,disj_app HDJ.out hA9 (fun z hz=>(hMI3.blkB (rStepInfo_ok NB) z hz).2),hE9⟩
    case measure=>simp [intOf];omega
   ·have HE:Hid ((stepCosts m q p z).take k=stepCosts m q p z):=by show _=_;exact take_all HSL.out hlt
    go_wp2
    go_ret
    exact⟨_,_,_,rfl,by have h:=hO.base hB.size;rw [HE.out]at h;exact h,hB2⟩
end Go.Proofs.YtcfmidbioecdcaaGreat
