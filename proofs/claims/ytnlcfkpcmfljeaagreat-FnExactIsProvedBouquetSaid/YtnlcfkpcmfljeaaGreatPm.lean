/-
  Pm
-/
import Derived.Test.YtnlcfkpcmfljeaaGreatPii
import Derived.Test.YtnlcfkpcmfljeaaGreatBox
set_option linter.unusedSimpArgs false
set_option linter.unusedVariables false
set_option maxHeartbeats 1600000
set_option maxRecDepth 100000
namespace Go.Proofs.YtnlcfkpcmfljeaaGreat
open Go.RowKit
theorem sPlanMask_c (csq:List Value) (q:QueryD) (csp:List Value) (p:PlanD) (w:World) (hq:(rQuery NB).rep w csq q) (hp:(rPlan NB).rep w csp p) :
  Calls Tryz.prog 168 #[.agg csq.toArray,.agg csp.toArray] w fun e w'=>e=.returned (.int .i64 (planMask q p))/\Below w.heap.size w w':=by
 have rq:=hq;obtain⟨Aq_e,nq_e,cq_e,rfl,hq_p5,hq_e⟩:=rQuery_rep.1 hq;clear hq;have rp:=hp;obtain⟨Ap_d5,np_d5,cp_d5,rfl,hp_d5⟩:=rPlan_rep.1 hp;clear hp;obtain⟨hB,bxq,bxp⟩:=op2 w [.int .i64 q.fVariableCount,.slice Aq_e nq_e cq_e] 50 [.slice Ap_d5 np_d5 cp_d5] 76
 go_enter Tryz.func168,Tryz.ntmps168
 have kq_0:=bxq 0 _ rfl;have kq_1:=bxq 1 _ rfl;have kp_0:=bxp 0 _ rfl
 go_wp2_with fail
 refine(sPlanInfo_c _ q _ p _ ((rQuery_ok NB).keep rq (cells_below hB)) ((rPlan_ok NB).keep rp (cells_below hB))).mono ?_;rintro e w1 ⟨A,n,c,rfl,hM,hb1⟩;replace hB:=hB.trans (hb1.mono hB.size);replace bxq:=bxq.below hb1;replace bxp:=bxp.below hb1;clear hb1 kq_0 kq_1 kp_0;cases hp:planInfo q p with
 | none =>
  have HN:Hid (planMask q p=0):=by show _=_;unfold planMask;rw [hp]
  clear hp hM;go_wp2;go_ret;exact⟨ret_int (a:=0) HN.out.symm,hB⟩
 | some l =>
  rw [hp]at hM;simp only [Option.getD_some]at hM;obtain⟨_,h1,h2,st,hR,hl,_⟩:=planInfo_parts hp;have hn:=hM.len;have hn14:n<=14:=by omega
  obtain⟨m,hm⟩:∃ m,m+1=n:=⟨n - 1,by omega⟩;obtain⟨b,off,y,rfl,hc0,hc1,hc2,hc3,_,_,_,_,hy⟩:=(hM.rs (rStepInfo_ok NB)).eStepInfo (k:=m) (by omega)
  have HN:Hid (planMask q p=y.fMask):=by
   show _=_;unfold planMask;rw [hp];simp only [infoAt];rw [show((l.length:Int) - 1).toNat=m by omega,hy.out];rfl
  have mj:IntKind.i64.wrap ((n:Int) - 1)=(m:Int):=by rw [IntWalk.i64_in _ (by omega)];omega
  have hmn:m<n:=by omega
  clear hp hM h1 h2 hR hl hn hm hy hc1 hc2 hc3;go_wp2;go_ret;exact⟨ret_int HN.out.symm,hB⟩
theorem iPlanMask_c (csq:List Value) (q:QueryD) (csp:List Value) (p:PlanD) (w:World) (hq:(rQuery NB).rep w csq q) (hp:(rPlan NB).rep w csp p) :
  Calls Tryz.prog 224 #[.agg csq.toArray,.agg csp.toArray] w fun e w'=>e=.returned (.int .i64 (planMask q p))/\Below w.heap.size w w':=by
 have rq:=hq;obtain⟨Aq_e,nq_e,cq_e,rfl,hq_p5,hq_e⟩:=rQuery_rep.1 hq;clear hq;have rp:=hp;obtain⟨Ap_d5,np_d5,cp_d5,rfl,hp_d5⟩:=rPlan_rep.1 hp;clear hp;obtain⟨hB,bxq,bxp⟩:=op2 w [.int .i64 q.fVariableCount,.slice Aq_e nq_e cq_e] 50 [.slice Ap_d5 np_d5 cp_d5] 76
 go_enter Tryz.func224,Tryz.ntmps224
 have kq_0:=bxq 0 _ rfl;have kq_1:=bxq 1 _ rfl;have kp_0:=bxp 0 _ rfl
 go_wp2_with fail
 refine(iPlanInfo_c _ q _ p _ ((rQuery_ok NB).keep rq (cells_below hB)) ((rPlan_ok NB).keep rp (cells_below hB))).mono ?_;rintro e w1 ⟨A,n,c,rfl,hM,hb1⟩;replace hB:=hB.trans (hb1.mono hB.size);replace bxq:=bxq.below hb1;replace bxp:=bxp.below hb1;clear hb1 kq_0 kq_1 kp_0;cases hp:planInfo q p with
 | none =>
  have HN:Hid (planMask q p=0):=by show _=_;unfold planMask;rw [hp]
  clear hp hM;go_wp2;go_ret;exact⟨ret_int (a:=0) HN.out.symm,hB⟩
 | some l =>
  rw [hp]at hM;simp only [Option.getD_some]at hM;obtain⟨_,h1,h2,st,hR,hl,_⟩:=planInfo_parts hp;have hn:=hM.len;have hn14:n<=14:=by omega
  obtain⟨m,hm⟩:∃ m,m+1=n:=⟨n - 1,by omega⟩;obtain⟨b,off,y,rfl,hc0,hc1,hc2,hc3,_,_,_,_,hy⟩:=(hM.rs (rStepInfo_ok NB)).eStepInfo (k:=m) (by omega)
  have HN:Hid (planMask q p=y.fMask):=by
   show _=_;unfold planMask;rw [hp];simp only [infoAt];rw [show((l.length:Int) - 1).toNat=m by omega,hy.out];rfl
  have mj:IntKind.i64.wrap ((n:Int) - 1)=(m:Int):=by rw [IntWalk.i64_in _ (by omega)];omega
  have hmn:m<n:=by omega
  clear hp hM h1 h2 hR hl hn hm hy hc1 hc2 hc3;go_wp2;go_ret;exact⟨ret_int HN.out.symm,hB⟩
end Go.Proofs.YtnlcfkpcmfljeaaGreat
