/-
  Acc
-/
import Derived.Test.YtpodldagcnfhlaaGreatKeep
import Derived.Test.YtpodldagcnfhlaaGreatAct
import Derived.Test.YtpodldagcnfhlaaGreatRsz
namespace Go.Proofs.YtpodldagcnfhlaaGreat
open Go.RowKit
set_option linter.unusedVariables false
set_option linter.unusedSimpArgs false
theorem ExR.cost {d:DatabaseD}{q:QueryD}{p:PlanD}{b:Bool}{li:List StepInfoD}{L:List StreamD}(h:ExR d q p b li L) (m:ModelD) :
  (b=false/\actualCost m d q p=-1)\/(b=true/\Exec d q p.fSteps li L/\p.fSteps.length<=14/\actualCost m d q p=actSum m p.fSteps li (sizesL L) p.fSteps.length):=by
 unfold ExR at h;unfold actualCost
 cases hx:execD d q p with
 | none=>rw [hx]at h;exact .inl ⟨h.1,rfl⟩
 | some z =>
  obtain⟨l,M⟩:=z;rw [hx]at h
  obtain⟨h1,h2,h3⟩:=h
  subst h2;subst h3
  obtain⟨E,_,h4,_⟩:=execD_some hx
  exact .inr ⟨h1,E,h4,rfl⟩
/-- a step of a plan that is carried out: what its cost wants -/
structure StpK (p:List PlanStepD) (li:List StepInfoD) (k:Nat) (x:PlanStepD) (y:StepInfoD):Prop where
 hx:p[k]?=some x
 hy:li[k]?=some y
 kd:1<=x.fKind/\x.fKind<=5
 hl:y.fLeft<k
 hr:y.fRight<k
 lr:y.fLeft<0->y.fRight<0
 jn:3<=x.fKind↔0<=y.fRight
theorem Exec.stp {d:DatabaseD}{q:QueryD}{p:List PlanStepD}{li:List StepInfoD}{L:List StreamD}(E:Exec d q p li L) {k:Nat}(hk:k<p.length):∃ x y,StpK p li k x y:=by
 have hkl:k<li.length:=by rw [E.li];exact hk
 have hx:p[k]?=some p[k]:=List.getElem?_eq_getElem hk
 have hy:li[k]?=some li[k]:=List.getElem?_eq_getElem hkl
 obtain⟨hs,_⟩:=E.step k _ _ hx hy
 refine⟨p[k],li[k],?_⟩
 generalize p[k]=x at hx hs ⊢
 generalize li[k]=y at hy hs ⊢
 cases hs with
 | scan h j a hj ha e=>subst e;exact⟨hx,hy,by omega,by show(-1:Int)<k;omega,by show(-1:Int)<k;omega,fun _=>by show(-1:Int)<0;omega,by show _↔0<=(-1:Int);omega⟩
 | sort h j z hz hv e =>
  have:=lt_of_at hz
  rw [List.length_take]at this
  subst e;exact⟨hx,hy,by omega,by show(j:Int)<k;omega,by show(-1:Int)<k;omega,fun _=>by show(-1:Int)<0;omega,by show _↔0<=(-1:Int);omega⟩
 | join h i j a b ha hb _ _ hi hj _ _ _ =>
  have h1:=lt_of_at ha
  have h2:=lt_of_at hb
  rw [List.length_take]at h1 h2
  exact⟨hx,hy,by omega,by omega,by omega,fun _=>by omega,by omega⟩
theorem StpK.at_ {p:List PlanStepD}{li:List StepInfoD}{k:Nat}{x:PlanStepD}{y:StepInfoD}(h:StpK p li k x y) (m:ModelD) (n:List Int):actAt m p li n k=actCost m x y n k:=by unfold actAt;rw [h.hx,h.hy]
theorem Exec.small {d:DatabaseD}{q:QueryD}{p:List PlanStepD}{li:List StepInfoD}{L:List StreamD}(E:Exec d q p li L):∀ s∈L,s.fRows.length<=4096:=fun s hs=>by
 obtain⟨i,hi,e⟩:=List.getElem_of_mem hs
 exact E.size (i:=i) (by rw [List.getElem?_eq_getElem hi,e])
theorem Exec.smallN {d:DatabaseD}{q:QueryD}{p:List PlanStepD}{li:List StepInfoD}{L:List StreamD}(E:Exec d q p li L):∀ z∈sizesL L,0<=z/\z<=4096:=fun z hz=>by
 unfold sizesL at hz
 obtain⟨s,hs,rfl⟩:=List.mem_map.1 hz
 have:=E.small s hs
 omega
theorem cost_cases (m:ModelD) (d:DatabaseD) (q:QueryD) (p:PlanD):(runSizes d q p=[]/\actualCost m d q p=-1)\/∃ l L,planInfo q p=some l/\Exec d q p.fSteps l L/\runSizes d q p=sizesL L/\1<=p.fSteps.length/\p.fSteps.length<=14/\actualCost m d q p=actSum m p.fSteps l (sizesL L) p.fSteps.length:=by
 unfold runSizes actualCost
 cases hx:execD d q p with
 | none=>exact .inl ⟨rfl,rfl⟩
 | some z =>
  obtain⟨l,L⟩:=z
  obtain⟨E,h1,h2,h3,_⟩:=execD_some hx
  exact .inr ⟨l,L,h3,E,rfl,h1,h2,rfl⟩
set_option maxRecDepth 100000 in
set_option maxHeartbeats 1600000 in
theorem iActualCost_c (csm:List Value) (m:ModelD) (csd:List Value) (d:DatabaseD) (csq:List Value) (q:QueryD) (csp:List Value) (p:PlanD) (w:World) (hm:(rModel NB).rep w csm m) (hd:(rDatabase NB).rep w csd d) (hq:(rQuery NB).rep w csq q) (hp:(rPlan NB).rep w csp p) :
  Calls Tryz.prog 43 #[.agg csm.toArray,.agg csd.toArray,.agg csq.toArray,.agg csp.toArray] w fun e w'=>e=.returned (.int .i64 (actualCost m d q p))/\Below w.heap.size w w':=by
 have rm:=hm
 have lenm:=(rModel_ok NB).len hm
 clear hm
 have rd:=hd
 obtain⟨AdTables,ndTables,cdTables,rfl,hdTables⟩:=rDatabase_rep.1 hd
 clear hd
 have rq:=hq
 obtain⟨AqAtoms,nqAtoms,cqAtoms,rfl,hqVariableCount,hqAtoms⟩:=rQuery_rep.1 hq
 clear hq
 have rp:=hp
 obtain⟨ApSteps,npSteps,cpSteps,rfl,hpSteps⟩:=rPlan_rep.1 hp
 clear hp
 have hB:Below w.heap.size w w:=Below.refl _ _
 have hAm:=(Below.refl (World.heap (w)).size (w)).alloc (Nat.le_refl _) (.cells csm.toArray 86)
 replace hB:=hB.trans (hAm.mono hB.size)
 have bxm:=Bx.new (w) csm 86
 clear hAm
 have hAd:=(Below.refl (World.heap ((w).alloc (.cells csm.toArray 86))).size ((w).alloc (.cells csm.toArray 86))).alloc (Nat.le_refl _) (.cells #[.slice AdTables ndTables cdTables] 26)
 replace hB:=hB.trans (hAd.mono hB.size)
 replace bxm:=bxm.below hAd
 have bxd:=Bx.new ((w).alloc (.cells csm.toArray 86)) [.slice AdTables ndTables cdTables] 26
 simp only [World.size_alloc]at bxd
 clear hAd
 have hAq:=(Below.refl (World.heap (((w).alloc (.cells csm.toArray 86)).alloc (.cells #[.slice AdTables ndTables cdTables] 26))).size (((w).alloc (.cells csm.toArray 86)).alloc (.cells #[.slice AdTables ndTables cdTables] 26))).alloc (Nat.le_refl _) (.cells #[.int .i64 q.fVariableCount,.slice AqAtoms nqAtoms cqAtoms] 29)
 replace hB:=hB.trans (hAq.mono hB.size)
 replace bxm:=bxm.below hAq
 replace bxd:=bxd.below hAq
 have bxq:=Bx.new (((w).alloc (.cells csm.toArray 86)).alloc (.cells #[.slice AdTables ndTables cdTables] 26)) [.int .i64 q.fVariableCount,.slice AqAtoms nqAtoms cqAtoms] 29
 simp only [World.size_alloc]at bxq
 clear hAq
 have hAp:=(Below.refl (World.heap ((((w).alloc (.cells csm.toArray 86)).alloc (.cells #[.slice AdTables ndTables cdTables] 26)).alloc (.cells #[.int .i64 q.fVariableCount,.slice AqAtoms nqAtoms cqAtoms] 29))).size ((((w).alloc (.cells csm.toArray 86)).alloc (.cells #[.slice AdTables ndTables cdTables] 26)).alloc (.cells #[.int .i64 q.fVariableCount,.slice AqAtoms nqAtoms cqAtoms] 29))).alloc (Nat.le_refl _) (.cells #[.slice ApSteps npSteps cpSteps] 62)
 replace hB:=hB.trans (hAp.mono hB.size)
 replace bxm:=bxm.below hAp
 replace bxd:=bxd.below hAp
 replace bxq:=bxq.below hAp
 have bxp:=Bx.new ((((w).alloc (.cells csm.toArray 86)).alloc (.cells #[.slice AdTables ndTables cdTables] 26)).alloc (.cells #[.int .i64 q.fVariableCount,.slice AqAtoms nqAtoms cqAtoms] 29)) [.slice ApSteps npSteps cpSteps] 62
 simp only [World.size_alloc]at bxp
 clear hAp
 have lenm':csm.length=30:=lenm
 clear lenm
 have HLp:=Lib.hid hpSteps.len
 have kd_0:=bxd 0 _ rfl
 have kq_0:=bxq 0 _ rfl
 have kq_1:=bxq 1 _ rfl
 have kp_0:=bxp 0 _ rfl
 go_enter Tryz.func43,Tryz.ntmps43
 go_wp2_with fail
 refine(iExecuted_c _ d _ q _ p _ ((rDatabase_ok NB).keep rd (cells_below hB)) ((rQuery_ok NB).keep rq (cells_below hB)) ((rPlan_ok NB).keep rp (cells_below hB))).mono ?_
 rintro e w1 ⟨AI,nI,cI,li,AL,nL,cL,L,b,rfl,hx,hI,hM,hb1⟩
 replace hB:=hB.trans (hb1.mono hB.size)
 replace bxm:=bxm.below hb1
 replace bxd:=bxd.below hb1
 replace bxq:=bxq.below hb1
 replace bxp:=bxp.below hb1
 clear hb1 kd_0 kq_0 kq_1 kp_0
 rcases hx.cost m with ⟨rfl,hc⟩|⟨rfl,hE,h14,hc⟩
 ·have HC:=Lib.hid hc;clear hc hx
  go_wp2
  go_ret
  exact⟨ret_int (a:=-1) HC.out.symm,hB⟩
 have HC:=Lib.hid hc
 have HE:=Lib.hid hE
 have hnL:nL=npSteps:=by rw [<- hM.len,hE.lL,HLp.out]
 rw [HLp.out]at h14
 clear hc hx hE
 subst hnL
 go_wp2
 go_loopw [12,26] (fun nv i wr=>∃ (k:Nat) (z:Int),k<=nL/\i=.int .i64 k/\nv=.int .i64 z/\Hid (z=actSum m p.fSteps li (sizesL L) k)/\Below w1.heap.size w1 wr) (fun _ i _=>nL - (intOf i).toNat)
 case atStart=>exact⟨0,0,Nat.zero_le _,rfl,rfl,by show _=_;rfl,Below.refl _ _⟩
 case round =>
  obtain⟨k,z,hk,rfl,rfl,HZ,hE⟩:=hrel
  have hB2:=hB.trans (hE.mono hB.size)
  have hzb:=actSum_bd m p.fSteps li (sizesL L) k
  rw [<- HZ.out]at hzb
  by_cases hlt:k<nL
  ·obtain⟨x,y,hs⟩:=HE.out.stp (k:=k) (by rw [HLp.out];exact hlt)
   have hvb:=actAt_bd m p.fSteps li (sizesL L) k
   have HN:=Lib.hid (actSum_snoc m p.fSteps li (sizesL L) k)
   rw [hs.at_]at hvb HN
   have K:=Lib.hid (iActualStep_c csm m _ p _ _ _ li _ _ _ L (k:Int) wr ((rModel_ok NB).keep rm (cells_below hB2)) ((rPlan_ok NB).keep rp (cells_below hB2)) ((hI.rs (rStepInfo_ok NB)).below (rStepInfo_ok NB) hE) ((hM.rs (rStream_ok NB)).below (rStream_ok NB) hE) rfl hs.hx hs.hy hs.kd hlt HE.out.small (by have:=hs.hl;omega) (by have:=hs.hr;omega) hs.lr)
   obtain⟨v,hv⟩:∃ v,v=actCost m x y (sizesL L) k:=⟨_,rfl⟩
   rw [<- hv]at hvb HN K
   clear hv hs
   have rv:IntKind.i64.wrap (z+v)=z+v:=IntWalk.i64_in _ (by omega)
   have kp_0:=(bxp.below hE) 0 _ rfl
   clear hvb hzb
   go_wp2_with (first|(refine wpList_load_mid rfl 86 _ rfl w.heap.size 0 rfl csm _ (bxm.below hE).range Tryz.underlying86 rfl (by rw [lenm'];exact sizeModel) ?_)|(go_at_call 98;refine K.out.mono ?_;rintro e w3 ⟨rfl,hb3⟩))
   go_roundw
   case rel=>exact⟨k+1,z+v,hlt,by go_num,rfl,by show _=_;rw [HN.out,HZ.out],hE.trans (hb3.mono hE.size)⟩
   case measure=>simp [intOf];omega
  ·obtain rfl:k=nL:=by omega
   go_wp2
   go_ret
   exact⟨ret_int (by rw [HC.out,HLp.out];exact HZ.out),hB2⟩
set_option maxRecDepth 100000 in
set_option maxHeartbeats 1600000 in
theorem sActualCost_c (csm:List Value) (m:ModelD) (csd:List Value) (d:DatabaseD) (csq:List Value) (q:QueryD) (csp:List Value) (p:PlanD) (w:World) (hm:(rModel NB).rep w csm m) (hd:(rDatabase NB).rep w csd d) (hq:(rQuery NB).rep w csq q) (hp:(rPlan NB).rep w csp p) :
  Calls Tryz.prog 41 #[.agg csm.toArray,.agg csd.toArray,.agg csq.toArray,.agg csp.toArray] w fun e w'=>e=.returned (.int .i64 (actualCost m d q p))/\Below w.heap.size w w':=by
 have rm:=hm
 have lenm:=(rModel_ok NB).len hm
 clear hm
 have rd:=hd
 obtain⟨AdTables,ndTables,cdTables,rfl,hdTables⟩:=rDatabase_rep.1 hd
 clear hd
 have rq:=hq
 obtain⟨AqAtoms,nqAtoms,cqAtoms,rfl,hqVariableCount,hqAtoms⟩:=rQuery_rep.1 hq
 clear hq
 have rp:=hp
 obtain⟨ApSteps,npSteps,cpSteps,rfl,hpSteps⟩:=rPlan_rep.1 hp
 clear hp
 have hB:Below w.heap.size w w:=Below.refl _ _
 have hAm:=(Below.refl (World.heap (w)).size (w)).alloc (Nat.le_refl _) (.cells csm.toArray 86)
 replace hB:=hB.trans (hAm.mono hB.size)
 have bxm:=Bx.new (w) csm 86
 clear hAm
 have hAd:=(Below.refl (World.heap ((w).alloc (.cells csm.toArray 86))).size ((w).alloc (.cells csm.toArray 86))).alloc (Nat.le_refl _) (.cells #[.slice AdTables ndTables cdTables] 26)
 replace hB:=hB.trans (hAd.mono hB.size)
 replace bxm:=bxm.below hAd
 have bxd:=Bx.new ((w).alloc (.cells csm.toArray 86)) [.slice AdTables ndTables cdTables] 26
 simp only [World.size_alloc]at bxd
 clear hAd
 have hAq:=(Below.refl (World.heap (((w).alloc (.cells csm.toArray 86)).alloc (.cells #[.slice AdTables ndTables cdTables] 26))).size (((w).alloc (.cells csm.toArray 86)).alloc (.cells #[.slice AdTables ndTables cdTables] 26))).alloc (Nat.le_refl _) (.cells #[.int .i64 q.fVariableCount,.slice AqAtoms nqAtoms cqAtoms] 29)
 replace hB:=hB.trans (hAq.mono hB.size)
 replace bxm:=bxm.below hAq
 replace bxd:=bxd.below hAq
 have bxq:=Bx.new (((w).alloc (.cells csm.toArray 86)).alloc (.cells #[.slice AdTables ndTables cdTables] 26)) [.int .i64 q.fVariableCount,.slice AqAtoms nqAtoms cqAtoms] 29
 simp only [World.size_alloc]at bxq
 clear hAq
 have hAp:=(Below.refl (World.heap ((((w).alloc (.cells csm.toArray 86)).alloc (.cells #[.slice AdTables ndTables cdTables] 26)).alloc (.cells #[.int .i64 q.fVariableCount,.slice AqAtoms nqAtoms cqAtoms] 29))).size ((((w).alloc (.cells csm.toArray 86)).alloc (.cells #[.slice AdTables ndTables cdTables] 26)).alloc (.cells #[.int .i64 q.fVariableCount,.slice AqAtoms nqAtoms cqAtoms] 29))).alloc (Nat.le_refl _) (.cells #[.slice ApSteps npSteps cpSteps] 62)
 replace hB:=hB.trans (hAp.mono hB.size)
 replace bxm:=bxm.below hAp
 replace bxd:=bxd.below hAp
 replace bxq:=bxq.below hAp
 have bxp:=Bx.new ((((w).alloc (.cells csm.toArray 86)).alloc (.cells #[.slice AdTables ndTables cdTables] 26)).alloc (.cells #[.int .i64 q.fVariableCount,.slice AqAtoms nqAtoms cqAtoms] 29)) [.slice ApSteps npSteps cpSteps] 62
 simp only [World.size_alloc]at bxp
 clear hAp
 have lenm':csm.length=30:=lenm
 clear lenm
 have HLp:=Lib.hid hpSteps.len
 have kd_0:=bxd 0 _ rfl
 have kq_0:=bxq 0 _ rfl
 have kq_1:=bxq 1 _ rfl
 have kp_0:=bxp 0 _ rfl
 go_enter Tryz.func41,Tryz.ntmps41
 go_wp2_with fail
 refine(sRunSizes_c _ d _ q _ p _ ((rDatabase_ok NB).keep rd (cells_below hB)) ((rQuery_ok NB).keep rq (cells_below hB)) ((rPlan_ok NB).keep rp (cells_below hB))).mono ?_
 rintro e w1 ⟨AN,nN,cN,rfl,hN,hb1⟩
 replace hB:=hB.trans (hb1.mono hB.size)
 replace bxm:=bxm.below hb1
 replace bxd:=bxd.below hb1
 replace bxq:=bxq.below hb1
 replace bxp:=bxp.below hb1
 clear hb1 kd_0 kq_0 kq_1 kp_0
 have kq_0:=bxq 0 _ rfl
 have kq_1:=bxq 1 _ rfl
 have kp_0:=bxp 0 _ rfl
 go_wp2_with fail
 refine(sPlanInfo_c _ q _ p _ ((rQuery_ok NB).keep rq (cells_below hB)) ((rPlan_ok NB).keep rp (cells_below hB))).mono ?_
 rintro e w2 ⟨AI,nI,cI,rfl,hI,hb2⟩
 replace hB:=hB.trans (hb2.mono hB.size)
 replace bxm:=bxm.below hb2
 replace bxd:=bxd.below hb2
 replace bxq:=bxq.below hb2
 replace bxp:=bxp.below hb2
 replace hN:=hN.below rInt_ok hb2
 clear hb2 kq_0 kq_1 kp_0
 have hNl:=hN.len
 rcases cost_cases m d q p with ⟨h1,hc⟩|⟨l,L,hp,hE,hr,h1,h14,hc⟩
 ·have HC:=Lib.hid hc;clear hc
  rw [h1]at hNl
  obtain rfl:nN=0:=hNl.symm
  clear hNl h1
  go_wp2
  go_ret
  exact⟨ret_int (a:=-1) HC.out.symm,hB⟩
 have HC:=Lib.hid hc
 have HE:=Lib.hid hE
 rw [hr]at hN hNl
 rw [hp]at hI
 simp only [Option.getD_some]at hI
 have hnN:nN=npSteps:=by rw [<- hNl];unfold sizesL;rw [List.length_map,hE.lL,HLp.out]
 rw [HLp.out]at h14 h1
 clear hc hE hr hp hNl
 subst hnN
 have hn0:((nN:Int)==0)=false:=by simp;omega
 go_wp2
 go_loopw [12,13] (fun nv i wr=>∃ (k:Nat) (z:Int),k<=nN/\i=.int .i64 k/\nv=.int .i64 z/\Hid (z=actSum m p.fSteps l (sizesL L) k)/\Below w2.heap.size w2 wr) (fun _ i _=>nN - (intOf i).toNat)
 case atStart=>exact⟨0,0,Nat.zero_le _,rfl,rfl,by show _=_;rfl,Below.refl _ _⟩
 case round =>
  obtain⟨k,z,hk,rfl,rfl,HZ,hE⟩:=hrel
  have hB2:=hB.trans (hE.mono hB.size)
  have hzb:=actSum_bd m p.fSteps l (sizesL L) k
  rw [<- HZ.out]at hzb
  by_cases hlt:k<nN
  ·obtain⟨x,y,hs⟩:=HE.out.stp (k:=k) (by rw [HLp.out];exact hlt)
   have hvb:=actAt_bd m p.fSteps l (sizesL L) k
   have HN:=Lib.hid (actSum_snoc m p.fSteps l (sizesL L) k)
   rw [hs.at_]at hvb HN
   have K:=Lib.hid (sL28Cost_c csm m _ p _ _ _ l _ _ _ (sizesL L) (k:Int) wr ((rModel_ok NB).keep rm (cells_below hB2)) ((rPlan_ok NB).keep rp (cells_below hB2)) ((hI.rs (rStepInfo_ok NB)).below (rStepInfo_ok NB) hE) ((hN.rs rInt_ok).below rInt_ok hE) rfl hs.hx hs.hy hlt HE.out.smallN (by have:=hs.hl;omega) (by have:=hs.hr;omega) hs.lr)
   obtain⟨v,hv⟩:∃ v,v=actCost m x y (sizesL L) k:=⟨_,rfl⟩
   rw [<- hv]at hvb HN K
   clear hv hs
   have rv:IntKind.i64.wrap (z+v)=z+v:=IntWalk.i64_in _ (by omega)
   have kp_0:=(bxp.below hE) 0 _ rfl
   clear hvb hzb
   go_wp2_with (first|(refine wpList_load_mid rfl 86 _ rfl w.heap.size 0 rfl csm _ (bxm.below hE).range Tryz.underlying86 rfl (by rw [lenm'];exact sizeModel) ?_)|(go_at_call 96;refine K.out.mono ?_;rintro e w3 ⟨rfl,hb3⟩))
   go_roundw
   case rel=>exact⟨k+1,z+v,hlt,by go_num,rfl,by show _=_;rw [HN.out,HZ.out],hE.trans (hb3.mono hE.size)⟩
   case measure=>simp [intOf];omega
  ·obtain rfl:k=nN:=by omega
   go_wp2
   go_ret
   exact⟨ret_int (by rw [HC.out,HLp.out];exact HZ.out),hB2⟩
end Go.Proofs.YtpodldagcnfhlaaGreat
