/-
  Pco
-/
import Derived.Test.YtcfmidbioecdcaaGreatKeep
import Derived.Test.YtcfmidbioecdcaaGreatPcp
import Derived.Test.YtcfmidbioecdcaaGreatIss
namespace Go.Proofs.YtcfmidbioecdcaaGreat
open Go.RowKit
set_option linter.unusedVariables false
set_option linter.unusedSimpArgs false
theorem planCost_0 {m:ModelD}{q:QueryD}{p:PlanD}{z:List Int}(h:(stepCosts m q p z).length=0):planCost m q p z=-1:=by unfold planCost;rw [if_pos h]
theorem planCost_1 {m:ModelD}{q:QueryD}{p:PlanD}{z:List Int}(h:(stepCosts m q p z).length≠0):planCost m q p z=(stepCosts m q p z).sum:=by unfold planCost;rw [if_neg h]
theorem planCost_bd (m:ModelD) (q:QueryD) (p:PlanD) (z:List Int):-28000000000<=planCost m q p z/\planCost m q p z<=28000000000:=by
 unfold planCost
 split
 ·omega
 ·have h:=stepCosts_bd m q p z
  have:=sum_take_bd h.2 h.1 (stepCosts m q p z).length
  rwa [List.take_length]at this
def planCostAt (m:ModelD) (q:QueryD) (p:PlanD) (l:List Int):Int:=planCost m q p (locSizes l)
set_option maxRecDepth 100000 in
set_option maxHeartbeats 1600000 in
theorem sPlanCost_c (csm:List Value) (m:ModelD) (csq:List Value) (q:QueryD) (csp:List Value) (p:PlanD) (Az:Option Addr) (nz cz:Nat) (z:List Int) (w:World) (hm:(rModel NB).rep w csm m) (hq:(rQuery NB).rep w csq q) (hp:(rPlan NB).rep w csp p) (hz:RS NB rInt w Az nz cz z) :
  Calls Tryz.prog 174 #[.agg csm.toArray,.agg csq.toArray,.agg csp.toArray,.slice Az nz cz] w fun e w'=>e=.returned (.int .i64 (planCost m q p z))/\Below w.heap.size w w':=by
 have rm:=hm
 have lenm:=(rModel_ok NB).len hm
 clear hm
 have rq:=hq
 obtain⟨AqAtoms,nqAtoms,cqAtoms,rfl,hqVariableCount,hqAtoms⟩:=rQuery_rep.1 hq
 clear hq
 have rp:=hp
 obtain⟨ApSteps,npSteps,cpSteps,rfl,hpSteps⟩:=rPlan_rep.1 hp
 clear hp
 have hB:Below w.heap.size w w:=Below.refl _ _
 have hAm:=(Below.refl (World.heap (w)).size (w)).alloc (Nat.le_refl _) (.cells csm.toArray 50)
 replace hB:=hB.trans (hAm.mono hB.size)
 have bxm:=Bx.new (w) csm 50
 clear hAm
 have hAq:=(Below.refl (World.heap ((w).alloc (.cells csm.toArray 50))).size ((w).alloc (.cells csm.toArray 50))).alloc (Nat.le_refl _) (.cells #[.int .i64 q.fVariableCount,.slice AqAtoms nqAtoms cqAtoms] 54)
 replace hB:=hB.trans (hAq.mono hB.size)
 replace bxm:=bxm.below hAq
 have bxq:=Bx.new ((w).alloc (.cells csm.toArray 50)) [.int .i64 q.fVariableCount,.slice AqAtoms nqAtoms cqAtoms] 54
 simp only [World.size_alloc]at bxq
 clear hAq
 have hAp:=(Below.refl (World.heap (((w).alloc (.cells csm.toArray 50)).alloc (.cells #[.int .i64 q.fVariableCount,.slice AqAtoms nqAtoms cqAtoms] 54))).size (((w).alloc (.cells csm.toArray 50)).alloc (.cells #[.int .i64 q.fVariableCount,.slice AqAtoms nqAtoms cqAtoms] 54))).alloc (Nat.le_refl _) (.cells #[.slice ApSteps npSteps cpSteps] 114)
 replace hB:=hB.trans (hAp.mono hB.size)
 replace bxm:=bxm.below hAp
 replace bxq:=bxq.below hAp
 have bxp:=Bx.new (((w).alloc (.cells csm.toArray 50)).alloc (.cells #[.int .i64 q.fVariableCount,.slice AqAtoms nqAtoms cqAtoms] 54)) [.slice ApSteps npSteps cpSteps] 114
 simp only [World.size_alloc]at bxp
 clear hAp
 have hnz:=hz.bound
 have lenm':csm.length=30:=lenm
 clear lenm
 go_enter Tryz.func174,Tryz.ntmps174
 have kq_0:=bxq 0 _ rfl
 have kq_1:=bxq 1 _ rfl
 have kp_0:=bxp 0 _ rfl
 go_wp2_with (refine wpList_load_mid rfl 50 _ rfl w.heap.size 0 rfl csm _ bxm.range Tryz.underlying50 rfl (by rw [lenm'];exact sizeModel) ?_)
 refine(sStepCosts_c _ m _ q _ p _ _ _ z _ ((rModel_ok NB).keep rm (cells_below hB)) ((rQuery_ok NB).keep rq (cells_below hB)) ((rPlan_ok NB).keep rp (cells_below hB)) (hz.below rInt_ok hB)).mono ?_
 rintro e w1 ⟨A,n,c,rfl,hM,hb1⟩
 replace hB:=hB.trans (hb1.mono hB.size)
 replace bxm:=bxm.below hb1
 replace bxq:=bxq.below hb1
 replace bxp:=bxp.below hb1
 clear hb1 kq_0 kq_1 kp_0
 obtain⟨hb14,hbd⟩:=stepCosts_bd m q p z
 have hn:=hM.len
 have HN:=Lib.hid hn
 have hR:=hM.rs rInt_ok
 clear hM
 cases e1:((n:Int)==0)
 rotate_left
 ·have h0:(stepCosts m q p z).length=0:=by simp at e1;omega
  go_wp2
  go_ret
  exact⟨ret_int (a:=-1) (planCost_0 h0).symm,hB⟩
 have h0:(stepCosts m q p z).length≠0:=by simp at e1;omega
 have HP:=Lib.hid (planCost_1 h0)
 clear h0
 have HBD:=Lib.hid (fun k=>sum_take_bd hbd hb14 k)
 have HB1:Hid (∀ x∈stepCosts m q p z,-2000000000<=x/\x<=2000000000):=Lib.hid hbd
 clear hn hbd hb14
 go_wp2
 clear e1
 go_loop [10,11] (fun v i=>∃ (k:Nat) (s:Int),k<=n/\i=.int .i64 k/\v=.int .i64 s/\s=((stepCosts m q p z).take k).sum) (fun _ i=>n - (intOf i).toNat)
 case atStart=>exact⟨0,0,Nat.zero_le _,rfl,rfl,by simp⟩
 case round =>
  obtain⟨k,s,hk,rfl,rfl,hs⟩:=hrel
  have hsb:=HBD.out k
  rw [<- hs]at hsb
  have HS:=Lib.hid hs;clear hs
  have hnb:=hR.bound
  by_cases hlt:k<n
  ·obtain⟨b,off,x,rfl,hc,hI,hxk⟩:=hR.ati hlt
   have hx:=HB1.out x (mem_of_at hxk.out)
   have HX:=Lib.hid (sum_snoc hxk.out)
   clear hxk
   go_wp2
   go_round
   case rel=>exact⟨k+1,s+x,by omega,by go_num,by go_num,by rw [HX.out,HS.out]⟩
   case measure=>simp [intOf];omega
  ·have HE:Hid (s=(stepCosts m q p z).sum):=by show _=_;rw [HS.out,take_all HN.out hlt]
   go_wp2
   go_ret
   exact⟨ret_int (by rw [HP.out,HE.out]),hB⟩
set_option maxRecDepth 100000 in
set_option maxHeartbeats 1600000 in
theorem iSum_c (Az:Option Addr) (nz cz:Nat) (z:List Int) (w:World) (hz:RS NB rInt w Az nz cz z) (h14:z.length<=14) (hbd:∀ x∈z,-2000000000<=x/\x<=2000000000) :
  Calls Tryz.prog 194 #[.slice Az nz cz] w fun e w'=>e=.returned (.int .i64 z.sum)/\Below w.heap.size w w':=by
 have hB:=Below.refl w.heap.size w
 have hnz:=hz.bound
 have HN:=Lib.hid hz.len
 have HBD:=Lib.hid (fun k=>sum_take_bd hbd h14 k)
 have HB1:Hid (∀ x∈z,-2000000000<=x/\x<=2000000000):=Lib.hid hbd
 clear hbd h14
 go_enter Tryz.func194,Tryz.ntmps194
 go_wp2
 go_loop [3,8] (fun v i=>∃ (k:Nat) (s:Int),k<=nz/\i=.int .i64 k/\v=.int .i64 s/\s=(z.take k).sum) (fun _ i=>nz - (intOf i).toNat)
 case atStart=>exact⟨0,0,Nat.zero_le _,rfl,rfl,by simp⟩
 case round =>
  obtain⟨k,s,hk,rfl,rfl,hs⟩:=hrel
  have hsb:=HBD.out k
  rw [<- hs]at hsb
  have HS:=Lib.hid hs;clear hs
  by_cases hlt:k<nz
  ·obtain⟨b,off,x,rfl,hc,hI,hxk⟩:=hz.ati hlt
   have hx:=HB1.out x (mem_of_at hxk.out)
   have HX:=Lib.hid (sum_snoc hxk.out)
   clear hxk
   go_wp2
   go_round
   case rel=>exact⟨k+1,s+x,by omega,by go_num,by go_num,by rw [HX.out,HS.out]⟩
   case measure=>simp [intOf];omega
  ·have HE:Hid (s=z.sum):=by show _=_;rw [HS.out,take_all HN.out hlt]
   go_wp2
   go_ret
   exact⟨ret_int HE.out,hB⟩
set_option maxRecDepth 100000 in
set_option maxHeartbeats 1600000 in
theorem iPlanCost_c (csm:List Value) (m:ModelD) (csq:List Value) (q:QueryD) (csp:List Value) (p:PlanD) (Az:Option Addr) (nz cz:Nat) (z:List Int) (w:World) (hm:(rModel NB).rep w csm m) (hq:(rQuery NB).rep w csq q) (hp:(rPlan NB).rep w csp p) (hz:RS NB rInt w Az nz cz z) :
  Calls Tryz.prog 189 #[.agg csm.toArray,.agg csq.toArray,.agg csp.toArray,.slice Az nz cz] w fun e w'=>e=.returned (.int .i64 (planCost m q p z))/\Below w.heap.size w w':=by
 have rm:=hm
 have lenm:=(rModel_ok NB).len hm
 clear hm
 have rq:=hq
 obtain⟨AqAtoms,nqAtoms,cqAtoms,rfl,hqVariableCount,hqAtoms⟩:=rQuery_rep.1 hq
 clear hq
 have rp:=hp
 obtain⟨ApSteps,npSteps,cpSteps,rfl,hpSteps⟩:=rPlan_rep.1 hp
 clear hp
 have hB:Below w.heap.size w w:=Below.refl _ _
 have hAm:=(Below.refl (World.heap (w)).size (w)).alloc (Nat.le_refl _) (.cells csm.toArray 50)
 replace hB:=hB.trans (hAm.mono hB.size)
 have bxm:=Bx.new (w) csm 50
 clear hAm
 have hAq:=(Below.refl (World.heap ((w).alloc (.cells csm.toArray 50))).size ((w).alloc (.cells csm.toArray 50))).alloc (Nat.le_refl _) (.cells #[.int .i64 q.fVariableCount,.slice AqAtoms nqAtoms cqAtoms] 54)
 replace hB:=hB.trans (hAq.mono hB.size)
 replace bxm:=bxm.below hAq
 have bxq:=Bx.new ((w).alloc (.cells csm.toArray 50)) [.int .i64 q.fVariableCount,.slice AqAtoms nqAtoms cqAtoms] 54
 simp only [World.size_alloc]at bxq
 clear hAq
 have hAp:=(Below.refl (World.heap (((w).alloc (.cells csm.toArray 50)).alloc (.cells #[.int .i64 q.fVariableCount,.slice AqAtoms nqAtoms cqAtoms] 54))).size (((w).alloc (.cells csm.toArray 50)).alloc (.cells #[.int .i64 q.fVariableCount,.slice AqAtoms nqAtoms cqAtoms] 54))).alloc (Nat.le_refl _) (.cells #[.slice ApSteps npSteps cpSteps] 114)
 replace hB:=hB.trans (hAp.mono hB.size)
 replace bxm:=bxm.below hAp
 replace bxq:=bxq.below hAp
 have bxp:=Bx.new (((w).alloc (.cells csm.toArray 50)).alloc (.cells #[.int .i64 q.fVariableCount,.slice AqAtoms nqAtoms cqAtoms] 54)) [.slice ApSteps npSteps cpSteps] 114
 simp only [World.size_alloc]at bxp
 clear hAp
 have hnz:=hz.bound
 have lenm':csm.length=30:=lenm
 clear lenm
 go_enter Tryz.func189,Tryz.ntmps189
 have kq_0:=bxq 0 _ rfl
 have kq_1:=bxq 1 _ rfl
 have kp_0:=bxp 0 _ rfl
 go_wp2_with (refine wpList_load_mid rfl 50 _ rfl w.heap.size 0 rfl csm _ bxm.range Tryz.underlying50 rfl (by rw [lenm'];exact sizeModel) ?_)
 refine(iStepCosts_c _ m _ q _ p _ _ _ z _ ((rModel_ok NB).keep rm (cells_below hB)) ((rQuery_ok NB).keep rq (cells_below hB)) ((rPlan_ok NB).keep rp (cells_below hB)) (hz.below rInt_ok hB)).mono ?_
 rintro e w1 ⟨A,n,c,rfl,hM,hb1,h0⟩
 replace hB:=hB.trans (hb1.mono hB.size)
 replace bxm:=bxm.below hb1
 replace bxq:=bxq.below hb1
 replace bxp:=bxp.below hb1
 clear hb1 kq_0 kq_1 kp_0
 obtain⟨hb14,hbd⟩:=stepCosts_bd m q p z
 have hn:=hM.len
 have hR:=hM.rs rInt_ok
 clear hM
 by_cases e1:stepCosts m q p z=[]
 ·obtain⟨rfl,rfl,rfl⟩:=h0 e1
  have HP:=Lib.hid (planCost_0 (m:=m) (q:=q) (p:=p) (z:=z) (by rw [e1];rfl))
  clear e1 h0 hbd hb14 hn hR
  have hnil:∀ W,(binOp .eql 30 (.slice none 0 0) (.slice none 0 0)).run Tryz.prog W=.ok (.bool true) W:=fun W=>Lib.run_eql_slice_nil W _ _ _ _ _ _ _ Tryz.underlying30
  go_wp2
  go_ret
  exact⟨ret_int (a:=-1) HP.out.symm,hB⟩
 have h1:(stepCosts m q p z).length≠0:=fun h=>e1 (List.eq_nil_of_length_eq_zero h)
 have HP:=Lib.hid (planCost_1 h1)
 obtain⟨b,off,x,rfl,_,_,_⟩:=hR.ati (k:=0) (by omega)
 clear h1 e1 h0 hn
 have hnil:∀ W,(binOp .eql 30 (.slice (some ⟨b,off,none⟩) n c) (.slice none 0 0)).run Tryz.prog W=.ok (.bool false) W:=fun W=>Lib.run_eql_slice_nil W _ _ _ _ _ _ _ Tryz.underlying30
 go_wp2_with fail
 refine(iSum_c _ _ _ (stepCosts m q p z) _ hR hb14 hbd).mono ?_
 rintro e w9 ⟨rfl,hb9⟩
 go_wp2
 go_ret
 exact⟨ret_int HP.out.symm,hB.trans (hb9.mono hB.size)⟩
set_option maxRecDepth 100000 in
set_option maxHeartbeats 1600000 in
theorem sPlanCostAt_c (csm:List Value) (m:ModelD) (csq:List Value) (q:QueryD) (csp:List Value) (p:PlanD) (Az:Option Addr) (nz cz:Nat) (z:List Int) (w:World) (hm:(rModel NB).rep w csm m) (hq:(rQuery NB).rep w csq q) (hp:(rPlan NB).rep w csp p) (hz:RS NB rInt w Az nz cz z) :
  Calls Tryz.prog 146 #[.agg csm.toArray,.agg csq.toArray,.agg csp.toArray,.slice Az nz cz] w fun e w'=>e=.returned (.int .i64 (planCostAt m q p z))/\Below w.heap.size w w':=by
 have rm:=hm
 have lenm:=(rModel_ok NB).len hm
 clear hm
 have rq:=hq
 obtain⟨AqAtoms,nqAtoms,cqAtoms,rfl,hqVariableCount,hqAtoms⟩:=rQuery_rep.1 hq
 clear hq
 have rp:=hp
 obtain⟨ApSteps,npSteps,cpSteps,rfl,hpSteps⟩:=rPlan_rep.1 hp
 clear hp
 have hB:Below w.heap.size w w:=Below.refl _ _
 have hAm:=(Below.refl (World.heap (w)).size (w)).alloc (Nat.le_refl _) (.cells csm.toArray 50)
 replace hB:=hB.trans (hAm.mono hB.size)
 have bxm:=Bx.new (w) csm 50
 clear hAm
 have hAq:=(Below.refl (World.heap ((w).alloc (.cells csm.toArray 50))).size ((w).alloc (.cells csm.toArray 50))).alloc (Nat.le_refl _) (.cells #[.int .i64 q.fVariableCount,.slice AqAtoms nqAtoms cqAtoms] 54)
 replace hB:=hB.trans (hAq.mono hB.size)
 replace bxm:=bxm.below hAq
 have bxq:=Bx.new ((w).alloc (.cells csm.toArray 50)) [.int .i64 q.fVariableCount,.slice AqAtoms nqAtoms cqAtoms] 54
 simp only [World.size_alloc]at bxq
 clear hAq
 have hAp:=(Below.refl (World.heap (((w).alloc (.cells csm.toArray 50)).alloc (.cells #[.int .i64 q.fVariableCount,.slice AqAtoms nqAtoms cqAtoms] 54))).size (((w).alloc (.cells csm.toArray 50)).alloc (.cells #[.int .i64 q.fVariableCount,.slice AqAtoms nqAtoms cqAtoms] 54))).alloc (Nat.le_refl _) (.cells #[.slice ApSteps npSteps cpSteps] 114)
 replace hB:=hB.trans (hAp.mono hB.size)
 replace bxm:=bxm.below hAp
 replace bxq:=bxq.below hAp
 have bxp:=Bx.new (((w).alloc (.cells csm.toArray 50)).alloc (.cells #[.int .i64 q.fVariableCount,.slice AqAtoms nqAtoms cqAtoms] 54)) [.slice ApSteps npSteps cpSteps] 114
 simp only [World.size_alloc]at bxp
 clear hAp
 have hnz:=hz.bound
 have lenm':csm.length=30:=lenm
 clear lenm
 go_enter Tryz.func146,Tryz.ntmps146
 go_upto_region 1 with fail
 obtain⟨wb,hwb⟩:∃ W,W=((w.alloc (.cells csm.toArray 50)).alloc (.cells #[.int .i64 q.fVariableCount,.slice AqAtoms nqAtoms cqAtoms] 54)).alloc (.cells #[.slice ApSteps npSteps cpSteps] 114):=⟨_,rfl⟩
 rw [<- hwb]at hB bxm bxq bxp ⊢
 clear hwb
 have HSS:Hid (∀ w',Below wb.heap.size wb w'->(w'.rangeAt w.heap.size 0 csm/\w'.cell? ⟨w.heap.size+1,0,none⟩=some (.int .i64 q.fVariableCount)/\w'.cell? ⟨w.heap.size+1,1,none⟩=some (.slice AqAtoms nqAtoms cqAtoms)/\w'.cell? ⟨w.heap.size+1+1,0,none⟩=some (.slice ApSteps npSteps cpSteps))):=by
  show ∀ w',_->_
  intro w' hb
  exact⟨(bxm.below hb).range,(bxq.below hb) 0 _ rfl,(bxq.below hb) 1 _ rfl,(bxp.below hb) 0 _ rfl⟩
 have K1:Hid (∀ W,Below wb.heap.size wb W->Calls Tryz.prog 175 #[.slice Az nz cz] W (RetS 3 rInt (locSizes z) W)):=by
  show ∀ W,_->_
  intro W hW
  have hX:=hB.trans (hW.mono hB.size)
  exact sLocationSizes_c _ _ _ z W (hz.below rInt_ok hX)
 have K2:Hid (∀ W A n c,Below wb.heap.size wb W->RS NB rInt W A n c (locSizes z)->Calls Tryz.prog 174 #[.agg csm.toArray,.agg #[.int .i64 q.fVariableCount,.slice AqAtoms nqAtoms cqAtoms],.agg #[.slice ApSteps npSteps cpSteps],.slice A n c] W fun e w'=>e=.returned (.int .i64 (planCostAt m q p z))/\Below W.heap.size W w'):=by
  show ∀ W A n c,_->_->_
  intro W A n c hW hR
  have hX:=hB.trans (hW.mono hB.size)
  exact sPlanCost_c _ m _ q _ p _ _ _ (locSizes z) W ((rModel_ok NB).keep rm (cells_below hX)) ((rQuery_ok NB).keep rq (cells_below hX)) ((rPlan_ok NB).keep rp (cells_below hX)) hR
 refine hbg HSS.out (Below.refl _ _).drew (fun hHeld=>?_)
 refine' wpAnyH_take (i:=0) (oi:=⟨some 9,_,_,_,_,_⟩) (v:=_) rfl (by kernel_rfl) (by kernel_rfl) (by kernel_rfl) (fun _ _ _ h=>h) (yieldsIf_load_mid (by rfl) _ _ rfl _ _ rfl _ _ (fun w h=>h.1) Tryz.underlying50 rfl (by rw [lenm'];exact sizeModel)) hHeld ?_
 simp only [putS]
 refine tka 1 10 hHeld ?_;simp only [putS]
 refine tka 2 11 hHeld ?_;simp only [putS]
 refine tka 3 12 hHeld ?_;simp only [putS]
 refine rd 4 (some 13) fun K hK=>?_
 clear hHeld
 go_simp
 refine(K1.out _ (Below.refl wb.heap.size wb).drew).mono ?_
 rintro e w1 ⟨A,n,c,rfl,hM,hb1⟩
 have hC1:Below wb.heap.size wb w1:=((Below.refl wb.heap.size wb).drew.trans (hb1.mono (by simp)))
 go_wp2_with fail
 refine hK.out _ _ (HSS.out _ hC1) (fun hHeld=>?_)
 clear hK K
 try simp only [putS]
 refine rd 5 (some 14) fun K hK=>?_
 clear hHeld
 go_simp
 refine(K2.out _ _ _ _ hC1 (hM.rs rInt_ok)).mono ?_
 rintro e w2 ⟨rfl,hb2⟩
 have hC2:=hC1.trans (hb2.mono hC1.size)
 go_wp2_with fail
 refine hK.out _ _ (HSS.out _ hC2) (fun hHeld=>?_)
 clear hK K
 try simp only [putS]
 refine tka 6 8 hHeld ?_;simp only [putS]
 refine wpAnyH_done (by kernel_rfl) ?_ _
 clear hHeld
 go_wp2
 go_ret
 exact⟨rfl,hB.trans (hC2.mono hB.size)⟩
set_option maxRecDepth 100000 in
set_option maxHeartbeats 1600000 in
theorem iPlanCostAt_c (csm:List Value) (m:ModelD) (csq:List Value) (q:QueryD) (csp:List Value) (p:PlanD) (Az:Option Addr) (nz cz:Nat) (z:List Int) (w:World) (hm:(rModel NB).rep w csm m) (hq:(rQuery NB).rep w csq q) (hp:(rPlan NB).rep w csp p) (hz:RS NB rInt w Az nz cz z) :
  Calls Tryz.prog 184 #[.agg csm.toArray,.agg csq.toArray,.agg csp.toArray,.slice Az nz cz] w fun e w'=>e=.returned (.int .i64 (planCostAt m q p z))/\Below w.heap.size w w':=by
 have rm:=hm
 have lenm:=(rModel_ok NB).len hm
 clear hm
 have rq:=hq
 obtain⟨AqAtoms,nqAtoms,cqAtoms,rfl,hqVariableCount,hqAtoms⟩:=rQuery_rep.1 hq
 clear hq
 have rp:=hp
 obtain⟨ApSteps,npSteps,cpSteps,rfl,hpSteps⟩:=rPlan_rep.1 hp
 clear hp
 have hB:Below w.heap.size w w:=Below.refl _ _
 have hAm:=(Below.refl (World.heap (w)).size (w)).alloc (Nat.le_refl _) (.cells csm.toArray 50)
 replace hB:=hB.trans (hAm.mono hB.size)
 have bxm:=Bx.new (w) csm 50
 clear hAm
 have hAq:=(Below.refl (World.heap ((w).alloc (.cells csm.toArray 50))).size ((w).alloc (.cells csm.toArray 50))).alloc (Nat.le_refl _) (.cells #[.int .i64 q.fVariableCount,.slice AqAtoms nqAtoms cqAtoms] 54)
 replace hB:=hB.trans (hAq.mono hB.size)
 replace bxm:=bxm.below hAq
 have bxq:=Bx.new ((w).alloc (.cells csm.toArray 50)) [.int .i64 q.fVariableCount,.slice AqAtoms nqAtoms cqAtoms] 54
 simp only [World.size_alloc]at bxq
 clear hAq
 have hAp:=(Below.refl (World.heap (((w).alloc (.cells csm.toArray 50)).alloc (.cells #[.int .i64 q.fVariableCount,.slice AqAtoms nqAtoms cqAtoms] 54))).size (((w).alloc (.cells csm.toArray 50)).alloc (.cells #[.int .i64 q.fVariableCount,.slice AqAtoms nqAtoms cqAtoms] 54))).alloc (Nat.le_refl _) (.cells #[.slice ApSteps npSteps cpSteps] 114)
 replace hB:=hB.trans (hAp.mono hB.size)
 replace bxm:=bxm.below hAp
 replace bxq:=bxq.below hAp
 have bxp:=Bx.new (((w).alloc (.cells csm.toArray 50)).alloc (.cells #[.int .i64 q.fVariableCount,.slice AqAtoms nqAtoms cqAtoms] 54)) [.slice ApSteps npSteps cpSteps] 114
 simp only [World.size_alloc]at bxp
 clear hAp
 have hnz:=hz.bound
 have lenm':csm.length=30:=lenm
 clear lenm
 go_enter Tryz.func184,Tryz.ntmps184
 go_upto_region 1 with fail
 obtain⟨wb,hwb⟩:∃ W,W=((w.alloc (.cells csm.toArray 50)).alloc (.cells #[.int .i64 q.fVariableCount,.slice AqAtoms nqAtoms cqAtoms] 54)).alloc (.cells #[.slice ApSteps npSteps cpSteps] 114):=⟨_,rfl⟩
 rw [<- hwb]at hB bxm bxq bxp ⊢
 clear hwb
 have HSS:Hid (∀ w',Below wb.heap.size wb w'->(w'.rangeAt w.heap.size 0 csm/\w'.cell? ⟨w.heap.size+1,0,none⟩=some (.int .i64 q.fVariableCount)/\w'.cell? ⟨w.heap.size+1,1,none⟩=some (.slice AqAtoms nqAtoms cqAtoms)/\w'.cell? ⟨w.heap.size+1+1,0,none⟩=some (.slice ApSteps npSteps cpSteps))):=by
  show ∀ w',_->_
  intro w' hb
  exact⟨(bxm.below hb).range,(bxq.below hb) 0 _ rfl,(bxq.below hb) 1 _ rfl,(bxp.below hb) 0 _ rfl⟩
 have K1:Hid (∀ W,Below wb.heap.size wb W->Calls Tryz.prog 190 #[.slice Az nz cz] W (RetS 3 rInt (locSizes z) W)):=by
  show ∀ W,_->_
  intro W hW
  have hX:=hB.trans (hW.mono hB.size)
  exact iLocationSizes_c _ _ _ z W (hz.below rInt_ok hX)
 have K2:Hid (∀ W A n c,Below wb.heap.size wb W->RS NB rInt W A n c (locSizes z)->Calls Tryz.prog 189 #[.agg csm.toArray,.agg #[.int .i64 q.fVariableCount,.slice AqAtoms nqAtoms cqAtoms],.agg #[.slice ApSteps npSteps cpSteps],.slice A n c] W fun e w'=>e=.returned (.int .i64 (planCostAt m q p z))/\Below W.heap.size W w'):=by
  show ∀ W A n c,_->_->_
  intro W A n c hW hR
  have hX:=hB.trans (hW.mono hB.size)
  exact iPlanCost_c _ m _ q _ p _ _ _ (locSizes z) W ((rModel_ok NB).keep rm (cells_below hX)) ((rQuery_ok NB).keep rq (cells_below hX)) ((rPlan_ok NB).keep rp (cells_below hX)) hR
 refine hbg HSS.out (Below.refl _ _).drew (fun hHeld=>?_)
 refine' wpAnyH_take (i:=0) (oi:=⟨some 9,_,_,_,_,_⟩) (v:=_) rfl (by kernel_rfl) (by kernel_rfl) (by kernel_rfl) (fun _ _ _ h=>h) (yieldsIf_load_mid (by rfl) _ _ rfl _ _ rfl _ _ (fun w h=>h.1) Tryz.underlying50 rfl (by rw [lenm'];exact sizeModel)) hHeld ?_
 simp only [putS]
 refine tka 1 10 hHeld ?_;simp only [putS]
 refine tka 2 11 hHeld ?_;simp only [putS]
 refine tka 3 12 hHeld ?_;simp only [putS]
 refine rd 4 (some 13) fun K hK=>?_
 clear hHeld
 go_simp
 refine(K1.out _ (Below.refl wb.heap.size wb).drew).mono ?_
 rintro e w1 ⟨A,n,c,rfl,hM,hb1⟩
 have hC1:Below wb.heap.size wb w1:=((Below.refl wb.heap.size wb).drew.trans (hb1.mono (by simp)))
 go_wp2_with fail
 refine hK.out _ _ (HSS.out _ hC1) (fun hHeld=>?_)
 clear hK K
 try simp only [putS]
 refine rd 5 (some 14) fun K hK=>?_
 clear hHeld
 go_simp
 refine(K2.out _ _ _ _ hC1 (hM.rs rInt_ok)).mono ?_
 rintro e w2 ⟨rfl,hb2⟩
 have hC2:=hC1.trans (hb2.mono hC1.size)
 go_wp2_with fail
 refine hK.out _ _ (HSS.out _ hC2) (fun hHeld=>?_)
 clear hK K
 try simp only [putS]
 refine tka 6 8 hHeld ?_;simp only [putS]
 refine wpAnyH_done (by kernel_rfl) ?_ _
 clear hHeld
 go_wp2
 go_ret
 exact⟨rfl,hB.trans (hC2.mono hB.size)⟩
end Go.Proofs.YtcfmidbioecdcaaGreat
