/-
  Pm
-/
import Derived.Test.YtcfmidbioecdcaaGreatPii
import Derived.Test.YtcfmidbioecdcaaGreatBox
namespace Go.Proofs.YtcfmidbioecdcaaGreat
open Go.RowKit
set_option linter.unusedVariables false
set_option linter.unusedSimpArgs false
set_option maxRecDepth 100000 in
set_option maxHeartbeats 1600000 in
theorem sPlanMask_c (csq:List Value) (q:QueryD) (csp:List Value) (p:PlanD) (w:World) (hq:(rQuery NB).rep w csq q) (hp:(rPlan NB).rep w csp p) :
  Calls Tryz.prog 80 #[.agg csq.toArray,.agg csp.toArray] w fun e w'=>e=.returned (.int .i64 (planMask q p))/\Below w.heap.size w w':=by
 have rq:=hq
 obtain⟨AqAtoms,nqAtoms,cqAtoms,rfl,hqVariableCount,hqAtoms⟩:=rQuery_rep.1 hq
 clear hq
 have rp:=hp
 obtain⟨ApSteps,npSteps,cpSteps,rfl,hpSteps⟩:=rPlan_rep.1 hp
 clear hp
 have hB:Below w.heap.size w w:=Below.refl _ _
 have hAq:=(Below.refl (World.heap (w)).size (w)).alloc (Nat.le_refl _) (.cells #[.int .i64 q.fVariableCount,.slice AqAtoms nqAtoms cqAtoms] 54)
 replace hB:=hB.trans (hAq.mono hB.size)
 have bxq:=Bx.new (w) [.int .i64 q.fVariableCount,.slice AqAtoms nqAtoms cqAtoms] 54
 clear hAq
 have hAp:=(Below.refl (World.heap ((w).alloc (.cells #[.int .i64 q.fVariableCount,.slice AqAtoms nqAtoms cqAtoms] 54))).size ((w).alloc (.cells #[.int .i64 q.fVariableCount,.slice AqAtoms nqAtoms cqAtoms] 54))).alloc (Nat.le_refl _) (.cells #[.slice ApSteps npSteps cpSteps] 114)
 replace hB:=hB.trans (hAp.mono hB.size)
 replace bxq:=bxq.below hAp
 have bxp:=Bx.new ((w).alloc (.cells #[.int .i64 q.fVariableCount,.slice AqAtoms nqAtoms cqAtoms] 54)) [.slice ApSteps npSteps cpSteps] 114
 simp only [World.size_alloc]at bxp
 clear hAp
 go_enter Tryz.func80,Tryz.ntmps80
 have kq_0:=bxq 0 _ rfl
 have kq_1:=bxq 1 _ rfl
 have kp_0:=bxp 0 _ rfl
 go_wp2_with fail
 refine(sPlanInfo_c _ q _ p _ ((rQuery_ok NB).keep rq (cells_below hB)) ((rPlan_ok NB).keep rp (cells_below hB))).mono ?_
 rintro e w1 ⟨A,n,c,rfl,hM,hb1⟩
 replace hB:=hB.trans (hb1.mono hB.size)
 replace bxq:=bxq.below hb1
 replace bxp:=bxp.below hb1
 clear hb1 kq_0 kq_1 kp_0
 cases hp:planInfo q p with
 | none =>
  have HN:Hid (planMask q p=0):=by show _=_;unfold planMask;rw [hp]
  clear hp hM
  go_wp2
  go_ret
  exact⟨ret_int (a:=0) HN.out.symm,hB⟩
 | some l =>
  rw [hp]at hM
  simp only [Option.getD_some]at hM
  obtain⟨_,h1,h2,st,hR,hl,_⟩:=planInfo_parts hp
  have hn:=hM.len
  have hn14:n<=14:=by omega
  obtain⟨m,hm⟩:∃ m,m+1=n:=⟨n - 1,by omega⟩
  obtain⟨b,off,y,rfl,hc0,hc1,hc2,hc3,_,_,_,_,hy⟩:=(hM.rs (rStepInfo_ok NB)).eStepInfo (k:=m) (by omega)
  have HN:Hid (planMask q p=y.fMask):=by
   show _=_
   unfold planMask
   rw [hp]
   simp only [infoAt]
   rw [show((l.length:Int) - 1).toNat=m by omega,hy.out];rfl
  have mj:IntKind.i64.wrap ((n:Int) - 1)=(m:Int):=by rw [IntWalk.i64_in _ (by omega)];omega
  have hmn:m<n:=by omega
  clear hp hM h1 h2 hR hl hn hm hy hc1 hc2 hc3
  go_wp2
  go_ret
  exact⟨ret_int HN.out.symm,hB⟩
set_option maxRecDepth 100000 in
set_option maxHeartbeats 1600000 in
theorem iPlanMask_c (csq:List Value) (q:QueryD) (csp:List Value) (p:PlanD) (w:World) (hq:(rQuery NB).rep w csq q) (hp:(rPlan NB).rep w csp p) :
  Calls Tryz.prog 102 #[.agg csq.toArray,.agg csp.toArray] w fun e w'=>e=.returned (.int .i64 (planMask q p))/\Below w.heap.size w w':=by
 have rq:=hq
 obtain⟨AqAtoms,nqAtoms,cqAtoms,rfl,hqVariableCount,hqAtoms⟩:=rQuery_rep.1 hq
 clear hq
 have rp:=hp
 obtain⟨ApSteps,npSteps,cpSteps,rfl,hpSteps⟩:=rPlan_rep.1 hp
 clear hp
 have hB:Below w.heap.size w w:=Below.refl _ _
 have hAq:=(Below.refl (World.heap (w)).size (w)).alloc (Nat.le_refl _) (.cells #[.int .i64 q.fVariableCount,.slice AqAtoms nqAtoms cqAtoms] 54)
 replace hB:=hB.trans (hAq.mono hB.size)
 have bxq:=Bx.new (w) [.int .i64 q.fVariableCount,.slice AqAtoms nqAtoms cqAtoms] 54
 clear hAq
 have hAp:=(Below.refl (World.heap ((w).alloc (.cells #[.int .i64 q.fVariableCount,.slice AqAtoms nqAtoms cqAtoms] 54))).size ((w).alloc (.cells #[.int .i64 q.fVariableCount,.slice AqAtoms nqAtoms cqAtoms] 54))).alloc (Nat.le_refl _) (.cells #[.slice ApSteps npSteps cpSteps] 114)
 replace hB:=hB.trans (hAp.mono hB.size)
 replace bxq:=bxq.below hAp
 have bxp:=Bx.new ((w).alloc (.cells #[.int .i64 q.fVariableCount,.slice AqAtoms nqAtoms cqAtoms] 54)) [.slice ApSteps npSteps cpSteps] 114
 simp only [World.size_alloc]at bxp
 clear hAp
 go_enter Tryz.func102,Tryz.ntmps102
 have kq_0:=bxq 0 _ rfl
 have kq_1:=bxq 1 _ rfl
 have kp_0:=bxp 0 _ rfl
 go_wp2_with fail
 refine(iPlanInfo_c _ q _ p _ ((rQuery_ok NB).keep rq (cells_below hB)) ((rPlan_ok NB).keep rp (cells_below hB))).mono ?_
 rintro e w1 ⟨A,n,c,rfl,hM,hb1⟩
 replace hB:=hB.trans (hb1.mono hB.size)
 replace bxq:=bxq.below hb1
 replace bxp:=bxp.below hb1
 clear hb1 kq_0 kq_1 kp_0
 cases hp:planInfo q p with
 | none =>
  have HN:Hid (planMask q p=0):=by show _=_;unfold planMask;rw [hp]
  clear hp hM
  go_wp2
  go_ret
  exact⟨ret_int (a:=0) HN.out.symm,hB⟩
 | some l =>
  rw [hp]at hM
  simp only [Option.getD_some]at hM
  obtain⟨_,h1,h2,st,hR,hl,_⟩:=planInfo_parts hp
  have hn:=hM.len
  have hn14:n<=14:=by omega
  obtain⟨m,hm⟩:∃ m,m+1=n:=⟨n - 1,by omega⟩
  obtain⟨b,off,y,rfl,hc0,hc1,hc2,hc3,_,_,_,_,hy⟩:=(hM.rs (rStepInfo_ok NB)).eStepInfo (k:=m) (by omega)
  have HN:Hid (planMask q p=y.fMask):=by
   show _=_
   unfold planMask
   rw [hp]
   simp only [infoAt]
   rw [show((l.length:Int) - 1).toNat=m by omega,hy.out];rfl
  have mj:IntKind.i64.wrap ((n:Int) - 1)=(m:Int):=by rw [IntWalk.i64_in _ (by omega)];omega
  have hmn:m<n:=by omega
  clear hp hM h1 h2 hR hl hn hm hy hc1 hc2 hc3
  go_wp2
  go_ret
  exact⟨ret_int HN.out.symm,hB⟩
end Go.Proofs.YtcfmidbioecdcaaGreat
