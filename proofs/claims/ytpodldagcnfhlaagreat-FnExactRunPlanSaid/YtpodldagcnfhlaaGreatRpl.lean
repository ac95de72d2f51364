/-
  Rpl
-/
import Derived.Test.YtpodldagcnfhlaaGreatKeep
import Derived.Test.YtpodldagcnfhlaaGreatMarkB
import Derived.Test.YtpodldagcnfhlaaGreatStw
import Derived.Test.YtpodldagcnfhlaaGreatExi
import Derived.Test.YtpodldagcnfhlaaGreatExs
namespace Go.Proofs.YtpodldagcnfhlaaGreat
open Go.RowKit
set_option linter.unusedVariables false
set_option linter.unusedSimpArgs false
theorem ExR.plan {d:DatabaseD}{q:QueryD}{p:PlanD}{b:Bool}{li:List StepInfoD}{L:List StreamD}(h:ExR d q p b li L):(b=false/\runPlan d q p=(⟨[],[]⟩,false))\/(b=true/\1<=L.length/\runPlan d q p=(strAt L ((L.length:Int) - 1),true)):=by
 unfold ExR at h;unfold runPlan
 cases hx:execD d q p with
 | none=>rw [hx]at h;exact .inl ⟨h.1,rfl⟩
 | some z =>
  obtain⟨l,M⟩:=z;rw [hx]at h
  obtain⟨E,h1,_⟩:=execD_some hx
  exact .inr ⟨h.1,by rw [h.2.2,E.lL];exact h1,by rw [h.2.2]⟩
/-- an owned stream out of owned streams -/
theorem MS.elemS {B:Nat}{w:World}{A:Option Addr}{n cap:Nat}{l:List StreamD}(h:MS B NB 35 (rStream NB) w A n cap l) {k:Nat}(hk:k<n) :
  ∃ g A1 n1 c1 A2 n2 c2 s f,A=some ⟨g,0,none⟩/\w.cell? ⟨g,k*2,none⟩=some (.slice A1 n1 c1)/\w.cell? ⟨g,k*2+1,none⟩=some (.slice A2 n2 c2)/\(rStream NB).own w f [.slice A1 n1 c1,.slice A2 n2 c2] s/\Fr B f/\Hid (l[k]?=some s):=by
 obtain⟨fp,o,fr⟩:=h
 obtain⟨g,f,c,x,xs,e,hx,ho,hnd,_,_,hsub,hel,_⟩:=o.elem (rStream_ok NB) fr.nd hk
 obtain⟨A1,n1,c1,A2,n2,c2,_,_,rfl,_⟩:=rStream_own.1 ho
 refine⟨g,A1,n1,c1,A2,n2,c2,x,f,e,?_,?_,ho,⟨hnd,fun k hk=>fr.ge k (hsub k hk)⟩,hx⟩
 ·exact hel.cell hk (t:=0) rfl
 ·exact hel.cell hk (t:=1) rfl
/-- the stream stored in the result's box -/
theorem rpl_fin {w W:World}{B g:Nat}{A1 A2:Option Addr}{n1 c1 n2 c2:Nat}{f:List Nat}{s:StreamD}(ho:(rStream NB).own W f [.slice A1 n1 c1,.slice A2 n2 c2] s) (hf:Fr B f) (hg:g<B) (hw:w.heap.size<=g) (hB:Below w.heap.size w W) (u v:Value) :
  ∃ fp,(rStream NB).own (set2 W g u v) fp [.slice A1 n1 c1,.slice A2 n2 c2] s/\Fr w.heap.size fp/\Below w.heap.size w (set2 W g u v):=by
 have hs:∀ k,k≠g->(set2 W g u v).heap[k]?=W.heap[k]?:=fun k hk=>(heap_setCell_other _ ⟨g,1,none⟩ k _ (fun e=>hk e)).trans (heap_setCell_other _ ⟨g,0,none⟩ k _ (fun e=>hk e))
 exact⟨f,(rStream_ok NB).okeep ho (fun k hk=>hs k (by have:=hf.ge k hk;omega)),hf.mono (by omega),bls2 hB hw _ _⟩
set_option maxRecDepth 100000 in
set_option maxHeartbeats 1600000 in
theorem iRunPlan_c (csd:List Value) (d:DatabaseD) (csq:List Value) (q:QueryD) (csp:List Value) (p:PlanD) (w:World) (hd:(rDatabase NB).rep w csd d) (hq:(rQuery NB).rep w csq q) (hp:(rPlan NB).rep w csp p) :
  Calls Tryz.prog 36 #[.agg csd.toArray,.agg csq.toArray,.agg csp.toArray] w (RetVB (rStream NB) (runPlan d q p).1 (.bool (runPlan d q p).2) w):=by
 have rd:=hd
 obtain⟨AdTables,ndTables,cdTables,rfl,hdTables⟩:=rDatabase_rep.1 hd
 clear hd
 have rq:=hq
 obtain⟨AqAtoms,nqAtoms,cqAtoms,rfl,hqVariableCount,hqAtoms⟩:=rQuery_rep.1 hq
 clear hq
 have rp:=hp
 obtain⟨ApSteps,npSteps,cpSteps,rfl,hpSteps⟩:=rPlan_rep.1 hp
 clear hp
 have hB:Below w.heap.size w w:=Below.refl _ _
 have hAd:=(Below.refl (World.heap (w)).size (w)).alloc (Nat.le_refl _) (.cells #[.slice AdTables ndTables cdTables] 26)
 replace hB:=hB.trans (hAd.mono hB.size)
 have bxd:=Bx.new (w) [.slice AdTables ndTables cdTables] 26
 clear hAd
 have hAq:=(Below.refl (World.heap ((w).alloc (.cells #[.slice AdTables ndTables cdTables] 26))).size ((w).alloc (.cells #[.slice AdTables ndTables cdTables] 26))).alloc (Nat.le_refl _) (.cells #[.int .i64 q.fVariableCount,.slice AqAtoms nqAtoms cqAtoms] 29)
 replace hB:=hB.trans (hAq.mono hB.size)
 replace bxd:=bxd.below hAq
 have bxq:=Bx.new ((w).alloc (.cells #[.slice AdTables ndTables cdTables] 26)) [.int .i64 q.fVariableCount,.slice AqAtoms nqAtoms cqAtoms] 29
 simp only [World.size_alloc]at bxq
 clear hAq
 have hAp:=(Below.refl (World.heap (((w).alloc (.cells #[.slice AdTables ndTables cdTables] 26)).alloc (.cells #[.int .i64 q.fVariableCount,.slice AqAtoms nqAtoms cqAtoms] 29))).size (((w).alloc (.cells #[.slice AdTables ndTables cdTables] 26)).alloc (.cells #[.int .i64 q.fVariableCount,.slice AqAtoms nqAtoms cqAtoms] 29))).alloc (Nat.le_refl _) (.cells #[.slice ApSteps npSteps cpSteps] 62)
 replace hB:=hB.trans (hAp.mono hB.size)
 replace bxd:=bxd.below hAp
 replace bxq:=bxq.below hAp
 have bxp:=Bx.new (((w).alloc (.cells #[.slice AdTables ndTables cdTables] 26)).alloc (.cells #[.int .i64 q.fVariableCount,.slice AqAtoms nqAtoms cqAtoms] 29)) [.slice ApSteps npSteps cpSteps] 62
 simp only [World.size_alloc]at bxp
 clear hAp
 obtain⟨wa,hwa⟩:∃ W,W=((w.alloc (.cells #[.slice AdTables ndTables cdTables] 26)).alloc (.cells #[.int .i64 q.fVariableCount,.slice AqAtoms nqAtoms cqAtoms] 29)).alloc (.cells #[.slice ApSteps npSteps cpSteps] 62):=⟨_,rfl⟩
 rw [<- hwa]at hB bxd bxq bxp
 have hsa:wa.heap.size=w.heap.size+1+1+1:=by rw [hwa];simp
 have kR:=Bk.new wa [.slice none 0 0,.slice none 0 0] 35
 have hb0:=(Below.refl wa.heap.size wa).alloc (Nat.le_refl _) (.cells #[.slice none 0 0,.slice none 0 0] 35)
 replace hB:=hB.trans (hb0.mono hB.size)
 replace bxd:=bxd.below hb0
 replace bxq:=bxq.below hb0
 replace bxp:=bxp.below hb0
 clear hb0
 obtain⟨wb,hwb⟩:∃ W,W=wa.alloc (.cells #[.slice none 0 0,.slice none 0 0] 35):=⟨_,rfl⟩
 rw [<- hwb]at hB bxd bxq bxp kR
 have hsR:wa.heap.size<wb.heap.size:=kR.lt
 go_enter Tryz.func36,Tryz.ntmps36
 go_upto_region 1 with fail
 rw [<- hwa,<- hwb,<- hsa]
 clear hwa hwb
 have kd_0:=bxd 0 _ rfl
 have kq_0:=bxq 0 _ rfl
 have kq_1:=bxq 1 _ rfl
 have kp_0:=bxp 0 _ rfl
 go_wp2_with fail
 refine(iExecuted_c _ d _ q _ p _ ((rDatabase_ok NB).keep rd (cells_below hB)) ((rQuery_ok NB).keep rq (cells_below hB)) ((rPlan_ok NB).keep rp (cells_below hB))).mono ?_
 rintro e w1 ⟨AI,nI,cI,li,AL,nL,cL,L,b,rfl,hx,hI,hM,hb1⟩
 replace hB:=hB.trans (hb1.mono hB.size)
 replace bxd:=bxd.below hb1
 replace bxq:=bxq.below hb1
 replace bxp:=bxp.below hb1
 replace kR:=kR.below hb1
 clear hb1 kd_0 kq_0 kq_1 kp_0
 clear hI
 have HX:=Lib.hid hx.plan;clear hx
 obtain⟨r0,f0,r1,f1⟩:=kR.r2
 have hwg:w.heap.size<=wa.heap.size:=by omega
 clear hsa
 rcases HX.out with ⟨rfl,hp⟩|⟨rfl,h1,hp⟩
 ·have HS:=Lib.hid hp;clear hp
  clear HX
  go_wp2
  have q:=kR.s2
  refine bodyPost_ret (v:=_) (by simp [results,Tryz.results36,go_sem,q];rfl) rfl ?_
  rw [HS.out]
  exact zStm_r _ w (bls2 hB hwg _ _)
 clear HX
 have hln:=hM.len
 obtain⟨m,hm⟩:∃ m,m+1=nL:=⟨nL - 1,by omega⟩
 have hnL:=hM.nb
 obtain⟨g,A1,n1,c1,A2,n2,c2,s,f,rfl,l0,l1,ho,hf,hs⟩:=hM.elemS (k:=m) (by omega)
 have HS:Hid (runPlan d q p=(s,true)):=by
  show _=_
  rw [hp,hln,show((nL:Int) - 1)=(m:Int) by omega,strAt_at hs.out]
 have mj:IntKind.i64.wrap ((nL:Int) - 1)=(m:Int):=by unfold NB at hnL;rw [IntWalk.i64_in _ (by omega)];omega
 have hmn:m<nL:=by omega
 have hfR:Fr wb.heap.size f:=hf
 clear hp h1 hln hm hs hM hf
 go_wp2
 have q:=kR.s2
 refine bodyPost_ret (v:=_) (by simp [results,Tryz.results36,go_sem,q];rfl) rfl ?_
 rw [HS.out]
 obtain⟨fp,e1,e2,e3⟩:=rpl_fin ho hfR hsR hwg hB (.slice A1 n1 c1) (.slice A2 n2 c2)
 exact⟨_,fp,rfl,e1,e2,e3⟩
set_option maxRecDepth 100000 in
set_option maxHeartbeats 1600000 in
theorem sRunPlan_c (csd:List Value) (d:DatabaseD) (csq:List Value) (q:QueryD) (csp:List Value) (p:PlanD) (w:World) (hd:(rDatabase NB).rep w csd d) (hq:(rQuery NB).rep w csq q) (hp:(rPlan NB).rep w csp p) :
  Calls Tryz.prog 35 #[.agg csd.toArray,.agg csq.toArray,.agg csp.toArray] w (RetVB (rStream NB) (runPlan d q p).1 (.bool (runPlan d q p).2) w):=by
 have rd:=hd
 obtain⟨AdTables,ndTables,cdTables,rfl,hdTables⟩:=rDatabase_rep.1 hd
 clear hd
 have rq:=hq
 obtain⟨AqAtoms,nqAtoms,cqAtoms,rfl,hqVariableCount,hqAtoms⟩:=rQuery_rep.1 hq
 clear hq
 have rp:=hp
 obtain⟨ApSteps,npSteps,cpSteps,rfl,hpSteps⟩:=rPlan_rep.1 hp
 clear hp
 have hB:Below w.heap.size w w:=Below.refl _ _
 have hAd:=(Below.refl (World.heap (w)).size (w)).alloc (Nat.le_refl _) (.cells #[.slice AdTables ndTables cdTables] 26)
 replace hB:=hB.trans (hAd.mono hB.size)
 have bxd:=Bx.new (w) [.slice AdTables ndTables cdTables] 26
 clear hAd
 have hAq:=(Below.refl (World.heap ((w).alloc (.cells #[.slice AdTables ndTables cdTables] 26))).size ((w).alloc (.cells #[.slice AdTables ndTables cdTables] 26))).alloc (Nat.le_refl _) (.cells #[.int .i64 q.fVariableCount,.slice AqAtoms nqAtoms cqAtoms] 29)
 replace hB:=hB.trans (hAq.mono hB.size)
 replace bxd:=bxd.below hAq
 have bxq:=Bx.new ((w).alloc (.cells #[.slice AdTables ndTables cdTables] 26)) [.int .i64 q.fVariableCount,.slice AqAtoms nqAtoms cqAtoms] 29
 simp only [World.size_alloc]at bxq
 clear hAq
 have hAp:=(Below.refl (World.heap (((w).alloc (.cells #[.slice AdTables ndTables cdTables] 26)).alloc (.cells #[.int .i64 q.fVariableCount,.slice AqAtoms nqAtoms cqAtoms] 29))).size (((w).alloc (.cells #[.slice AdTables ndTables cdTables] 26)).alloc (.cells #[.int .i64 q.fVariableCount,.slice AqAtoms nqAtoms cqAtoms] 29))).alloc (Nat.le_refl _) (.cells #[.slice ApSteps npSteps cpSteps] 62)
 replace hB:=hB.trans (hAp.mono hB.size)
 replace bxd:=bxd.below hAp
 replace bxq:=bxq.below hAp
 have bxp:=Bx.new (((w).alloc (.cells #[.slice AdTables ndTables cdTables] 26)).alloc (.cells #[.int .i64 q.fVariableCount,.slice AqAtoms nqAtoms cqAtoms] 29)) [.slice ApSteps npSteps cpSteps] 62
 simp only [World.size_alloc]at bxp
 clear hAp
 obtain⟨wa,hwa⟩:∃ W,W=((w.alloc (.cells #[.slice AdTables ndTables cdTables] 26)).alloc (.cells #[.int .i64 q.fVariableCount,.slice AqAtoms nqAtoms cqAtoms] 29)).alloc (.cells #[.slice ApSteps npSteps cpSteps] 62):=⟨_,rfl⟩
 rw [<- hwa]at hB bxd bxq bxp
 have hsa:wa.heap.size=w.heap.size+1+1+1:=by rw [hwa];simp
 have kR:=Bk.new wa [.slice none 0 0,.slice none 0 0] 35
 have hb0:=(Below.refl wa.heap.size wa).alloc (Nat.le_refl _) (.cells #[.slice none 0 0,.slice none 0 0] 35)
 replace hB:=hB.trans (hb0.mono hB.size)
 replace bxd:=bxd.below hb0
 replace bxq:=bxq.below hb0
 replace bxp:=bxp.below hb0
 clear hb0
 obtain⟨wb,hwb⟩:∃ W,W=wa.alloc (.cells #[.slice none 0 0,.slice none 0 0] 35):=⟨_,rfl⟩
 rw [<- hwb]at hB bxd bxq bxp kR
 have hsR:wa.heap.size<wb.heap.size:=kR.lt
 go_enter Tryz.func35,Tryz.ntmps35
 go_upto_region 1 with fail
 rw [<- hwa,<- hwb,<- hsa]
 clear hwa hwb
 have kd_0:=bxd 0 _ rfl
 have kq_0:=bxq 0 _ rfl
 have kq_1:=bxq 1 _ rfl
 have kp_0:=bxp 0 _ rfl
 go_wp2_with fail
 refine(sStreams_c _ d _ q _ p _ ((rDatabase_ok NB).keep rd (cells_below hB)) ((rQuery_ok NB).keep rq (cells_below hB)) ((rPlan_ok NB).keep rp (cells_below hB))).mono ?_
 rintro e w1 ⟨AI,nI,cI,li,AL,nL,cL,L,b,rfl,hx,hI,hM,hb1⟩
 replace hB:=hB.trans (hb1.mono hB.size)
 replace bxd:=bxd.below hb1
 replace bxq:=bxq.below hb1
 replace bxp:=bxp.below hb1
 replace kR:=kR.below hb1
 clear hb1 kd_0 kq_0 kq_1 kp_0
 clear hI
 have HX:=Lib.hid hx.plan;clear hx
 obtain⟨r0,f0,r1,f1⟩:=kR.r2
 have hwg:w.heap.size<=wa.heap.size:=by omega
 clear hsa
 rcases HX.out with ⟨rfl,hp⟩|⟨rfl,h1,hp⟩
 ·have HS:=Lib.hid hp;clear hp
  clear HX
  go_wp2
  have q:=kR.s2
  refine bodyPost_ret (v:=_) (by simp [results,Tryz.results35,go_sem,q];rfl) rfl ?_
  rw [HS.out]
  exact zStm_r _ w (bls2 hB hwg _ _)
 clear HX
 have hln:=hM.len
 obtain⟨m,hm⟩:∃ m,m+1=nL:=⟨nL - 1,by omega⟩
 have hnL:=hM.nb
 obtain⟨g,A1,n1,c1,A2,n2,c2,s,f,rfl,l0,l1,ho,hf,hs⟩:=hM.elemS (k:=m) (by omega)
 have HS:Hid (runPlan d q p=(s,true)):=by
  show _=_
  rw [hp,hln,show((nL:Int) - 1)=(m:Int) by omega,strAt_at hs.out]
 have mj:IntKind.i64.wrap ((nL:Int) - 1)=(m:Int):=by unfold NB at hnL;rw [IntWalk.i64_in _ (by omega)];omega
 have hmn:m<nL:=by omega
 have hfR:Fr wb.heap.size f:=hf
 clear hp h1 hln hm hs hM hf
 go_wp2
 have q:=kR.s2
 refine bodyPost_ret (v:=_) (by simp [results,Tryz.results35,go_sem,q];rfl) rfl ?_
 rw [HS.out]
 obtain⟨fp,e1,e2,e3⟩:=rpl_fin ho hfR hsR hwg hB (.slice A1 n1 c1) (.slice A2 n2 c2)
 exact⟨_,fp,rfl,e1,e2,e3⟩
end Go.Proofs.YtpodldagcnfhlaaGreat
