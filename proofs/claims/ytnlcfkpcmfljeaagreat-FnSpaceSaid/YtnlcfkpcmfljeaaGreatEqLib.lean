/-
  Dens, Equal, EqLib
-/
import Derived.Test.YtnlcfkpcmfljeaaGreatTypes
import Derived.Laws.StructEq
set_option linter.unusedSimpArgs false
set_option linter.unusedVariables false
set_option maxHeartbeats 800000
set_option maxRecDepth 100000
namespace Go.Proofs.YtnlcfkpcmfljeaaGreat
open Go.RowKit
theorem RS.row {M M':Nat}{e:TypeId}{w:World}{A:Option Addr}{n cap:Nat}{l:List (List Int)}(h:RS M (rSlice M' e rInt) w A n cap l) {k:Nat}(hk:k<n) :
  ∃ b off x Ar nr cr,A=some ⟨b,off,none⟩/\w.cell? ⟨b,off+k,none⟩=some (.slice Ar nr cr)/\RS M' rInt w Ar nr cr x/\Hid (l[k]?=some x):=by
 obtain⟨b,off,x,cs,e,⟨Ar,nr,cr,rfl,hr⟩,hc,hx⟩:=h.at_ hk;exact⟨b,off,x,Ar,nr,cr,e,by simpa [rSlice]using hc 0 _ rfl,hr,hx⟩
theorem RS.eCostStep {M M':Nat}{w:World}{A:Option Addr}{n cap:Nat}{l:List CostStepD}(h:RS M (rCostStep M') w A n cap l) {k:Nat}(hk:k<n) :
  ∃ b off x,A=some ⟨b,off,none⟩/\w.cell? ⟨b,off+k*2,none⟩=some (.int .i64 x.fFrom)/\w.cell? ⟨b,off+k*2+1,none⟩=some (.int .i64 x.fAdd)/\I64 x.fFrom/\I64 x.fAdd/\Hid (l[k]?=some x):=by
 obtain⟨b,off,x,cs,e,hrep,hc,hx⟩:=h.at_ hk;obtain⟨rfl,hFrom,hAdd⟩:=rCostStep_rep.1 hrep;exact⟨b,off,x,e,hc 0 _ rfl,hc 1 _ rfl,hFrom,hAdd,hx⟩
theorem RS.ePlanStep {M M':Nat}{w:World}{A:Option Addr}{n cap:Nat}{l:List PlanStepD}(h:RS M (rPlanStep M') w A n cap l) {k:Nat}(hk:k<n) :
  ∃ b off x,A=some ⟨b,off,none⟩/\w.cell? ⟨b,off+k*3,none⟩=some (.int .i64 x.fKind)/\w.cell? ⟨b,off+k*3+1,none⟩=some (.int .i64 x.fAtom)/\w.cell? ⟨b,off+k*3+2,none⟩=some (.int .i64 x.fOrder)/\I64 x.fKind/\I64 x.fAtom/\I64 x.fOrder/\Hid (l[k]?=some x):=by
 obtain⟨b,off,x,cs,e,hrep,hc,hx⟩:=h.at_ hk;obtain⟨rfl,hKind,h_d,h_s3⟩:=rPlanStep_rep.1 hrep;exact⟨b,off,x,e,hc 0 _ rfl,hc 1 _ rfl,hc 2 _ rfl,hKind,h_d,h_s3,hx⟩
theorem guardPlanStep:Tryz.prog.eqGuardType Tryz.prog.depth 173=false:=by kernel_rfl
theorem neqPlanStep (x x':PlanStepD) (W:World):(binOp .neq 173 (.agg #[.int .i64 x.fKind,.int .i64 x.fAtom,.int .i64 x.fOrder]) (.agg #[.int .i64 x'.fKind,.int .i64 x'.fAtom,.int .i64 x'.fOrder])).run Tryz.prog W=.ok (.bool (!decide (x=x'))) W:=by
 rw [run_neq_struct,show(10000:Nat)=9999+1 from rfl,run_equalIn_struct _ _ _ _ _ (by kernel_rfl) (by kernel_rfl)]
 have hd:decide (x=x')=((x.fKind==x'.fKind)&&((x.fAtom==x'.fAtom)&&(x.fOrder==x'.fOrder))):=by
  rw [Bool.eq_iff_iff];cases x;cases x';simp
 rw [hd];by_cases h0:x.fKind=x'.fKind<;>by_cases h1:x.fAtom=x'.fAtom<;>by_cases h2:x.fOrder=x'.fOrder<;>simp [go_sem,Tryz.underlying173,Tryz.underlying3,Tryz.underlying4,h0,h1,h2]
theorem equalPlanStep_c (A A':Option Addr) (n n' cap cap':Nat) (l l':List PlanStepD) (w:World) (hr:RS NB (rPlanStep NB) w A n cap l) (hr':RS NB (rPlanStep NB) w A' n' cap' l') :
  Calls Tryz.prog 145 #[.slice A n cap,.slice A' n' cap'] w fun e w'=>e=.returned (.bool (decide (l=l')))/\Qt w w':=by
 have hn:=hr.bound;have hn':=hr'.bound;by_cases hne:n=n'
 ·subst hne
  go_enter Tryz.func145,Tryz.ntmps145
  go_wp2
  go_loopw [13] (fun i wr=>∃ k:Nat,k<=n/\i=.int .i64 k/\l.take k=l'.take k/\∃ q,wr=w.drewN q) (fun i _=>n - (intOf i).toNat)
  case atStart=>exact⟨0,Nat.zero_le _,rfl,rfl,0,rfl⟩
  case round =>
   obtain⟨k,hk,rfl,heq,q,rfl⟩:=hrel;have HE:=Lib.hid heq;clear heq;by_cases hlt:k<n
   ·obtain⟨b,off,x,rfl,c0,c1,c2,_,_,_,hxk⟩:=hr.ePlanStep hlt
    obtain⟨b',off',x',rfl,c0',c1',c2',_,_,_,hxk'⟩:=hr'.ePlanStep hlt;have hop:=fun W=>neqPlanStep x x' W;have g1:=guardPlanStep;by_cases hx:x=x'
    ·have hb:decide (x=x')=true:=by simp [hx]
     have HX:=Lib.hid hx;clear hx;go_wp2
     go_quiet (fail)
     go_wp2;go_roundw
     case rel=>exact⟨k+1,by omega,by go_num,take_eq_snoc HE.out hxk.out (HX.out▸hxk'.out),(by first|exact⟨_,rfl⟩|(simp only [World.drewN_drewN];exact⟨_,rfl⟩))⟩
     case measure=>simp [intOf];omega
    ·have hb:decide (x=x')=false:=by simp [hx]
     go_wp2
     go_quiet (fail)
     go_wp2;go_ret;exact⟨ret_bool (a:=false) (by have:=ne_of_at hxk.out hxk'.out hx;simp [this]),(by first|exact⟨_,rfl⟩|(simp only [World.drewN_drewN];exact⟨_,rfl⟩))⟩
   ·go_wp2
    go_ret;have e:l=l':=by rw [<- take_all hr.len hlt,<- take_all hr'.len hlt];exact HE.out
    exact⟨ret_bool (a:=true) (by simp [e]),_,rfl⟩
 ·have hb:((n:Int) != (n':Int))=true:=by simp;omega
  go_enter Tryz.func145,Tryz.ntmps145
  go_wp2;go_ret;have e:l≠l':=by rintro rfl;exact hne (hr.len.symm.trans hr'.len)
  exact⟨ret_bool (a:=false) (by simp [e]),Qt.refl _⟩
end Go.Proofs.YtnlcfkpcmfljeaaGreat
