/-
  Dens, Equal, EqLib
-/
import Derived.Test.YtjckbnmbhgikjaaTypes
import Derived.Laws.StructEq
namespace Go.Proofs.Ytjckbnmbhgikjaa
open Go.RowKit

def density (l:List (List Int)):Nat:=l.foldl (fun m x=>max m x.length) 0
theorem density_snoc {l:List (List Int)}{k:Nat}{x:List Int}(h:l[k]?=some x):density (l.take (k+1))=max (density (l.take k)) x.length:=by
 unfold density;rw [take_snoc h,List.foldl_append];rfl
/-- the k-th row of a slice of slices -/
theorem RS.row {M M':Nat}{e:TypeId}{w:World}{A:Option Addr}{n cap:Nat}{l:List (List Int)}(h:RS M (rSlice M' e rInt) w A n cap l) {k:Nat}(hk:k<n) :
  ∃ b off x Ar nr cr,A=some ⟨b,off,none⟩/\w.cell? ⟨b,off+k,none⟩=some (.slice Ar nr cr)/\RS M' rInt w Ar nr cr x/\Hid (l[k]?=some x):=by
 obtain⟨b,off,x,cs,e,⟨Ar,nr,cr,rfl,hr⟩,hc,hx⟩:=h.at_ hk
 exact⟨b,off,x,Ar,nr,cr,e,by simpa [rSlice]using hc 0 _ rfl,hr,hx⟩

end Go.Proofs.Ytjckbnmbhgikjaa
namespace Go.Proofs.Ytjckbnmbhgikjaa
open Go.RowKit

/-! ### rows in order -/
def cmpRows:List Int->List Int->Int
 | [],[]=>0
 | [],_::_=>-1
 | _::_,[]=>1
 | a::s,b::t=>if a<b then -1 else if b<a then 1 else cmpRows s t
theorem cmpRows_zero {l l':List Int}:cmpRows l l'=0↔l=l':=by
 induction l generalizing l' with
 | nil=>cases l'<;>simp [cmpRows]
 | cons a l ih=>cases l' with
  | nil=>simp [cmpRows]
  | cons b l' =>
   unfold cmpRows
   by_cases h1:a<b
   ·rw [if_pos h1];simp;omega
   ·rw [if_neg h1]
    by_cases h2:b<a
    ·rw [if_pos h2];simp;omega
    ·rw [if_neg h2,ih];simp;omega
theorem cmpRows_drop {l l':List Int}(k:Nat) (h:l.take k=l'.take k) (hk:k<=l.length) (hk':k<=l'.length):cmpRows l l'=cmpRows (l.drop k) (l'.drop k):=by
 induction k generalizing l l' with
 | zero=>simp
 | succ k ih =>
  cases l with
  | nil=>simp at hk
  | cons a l=>cases l' with
   | nil=>simp at hk'
   | cons b l' =>
    simp only [List.take_succ_cons,List.cons.injEq]at h
    obtain⟨rfl,h⟩:=h
    rw [List.drop_succ_cons,List.drop_succ_cons,<- ih h (by simpa using hk) (by simpa using hk')]
    conv=>lhs;unfold cmpRows
    rw [if_neg (by omega),if_neg (by omega)]
theorem drop_at {α:Type}{l:List α}{k:Nat}{x:α}(h:l[k]?=some x):l.drop k=x::l.drop (k+1):=by
 obtain⟨hk,rfl⟩:=List.getElem?_eq_some_iff.1 h
 exact List.drop_eq_getElem_cons hk
theorem cmpRows_lt {l l':List Int}{k:Nat}{x y:Int}(h:l.take k=l'.take k) (hx:l[k]?=some x) (hy:l'[k]?=some y) (hlt:x<y):cmpRows l l'=-1:=by
 rw [cmpRows_drop k h (Nat.le_of_lt (lt_of_at hx)) (Nat.le_of_lt (lt_of_at hy)),drop_at hx,drop_at hy];unfold cmpRows;rw [if_pos hlt]
theorem cmpRows_gt {l l':List Int}{k:Nat}{x y:Int}(h:l.take k=l'.take k) (hx:l[k]?=some x) (hy:l'[k]?=some y) (hlt:y<x):cmpRows l l'=1:=by
 rw [cmpRows_drop k h (Nat.le_of_lt (lt_of_at hx)) (Nat.le_of_lt (lt_of_at hy)),drop_at hx,drop_at hy];unfold cmpRows;rw [if_neg (by omega),if_pos hlt]
theorem cmpRows_end {l l':List Int}{k:Nat}(h:l.take k=l'.take k) (hk:k<=l.length) (hk':k<=l'.length) (he:¬ (k<l.length/\k<l'.length)) :
  cmpRows l l'=if l.length<l'.length then -1 else if l'.length<l.length then 1 else 0:=by
 rw [cmpRows_drop k h hk hk']
 by_cases h1:k<l.length
 ·have h2:l'.length=k:=by omega
  rw [List.drop_of_length_le (l:=l') (by omega),List.drop_eq_getElem_cons h1]
  rw [if_neg (by omega),if_pos (by omega)];rfl
 ·have h2:l.length=k:=by omega
  rw [List.drop_of_length_le (l:=l) (by omega)]
  by_cases h3:k<l'.length
  ·rw [List.drop_eq_getElem_cons h3,if_pos (by omega)];rfl
  ·rw [List.drop_of_length_le (l:=l') (by omega),if_neg (by omega),if_neg (by omega)];rfl

set_option maxHeartbeats 800000 in
theorem sCompareRows_c (A A':Option Addr) (n n' cap cap':Nat) (l l':List Int) (w:World) (hr:RS NB rInt w A n cap l) (hr':RS NB rInt w A' n' cap' l') :
  Calls Try.prog 67 #[.slice A n cap,.slice A' n' cap'] w fun e w'=>e=.returned (.int .i64 (cmpRows l l'))/\Qt w w':=by
 have hn:=hr.bound
 have hn':=hr'.bound
 have HL:=Lib.hid hr.len
 have HL':=Lib.hid hr'.len
 go_enter Try.func67,Try.ntmps67
 go_wp2
 go_loopw [5] (fun i wr=>∃ k:Nat,k<=n/\k<=n'/\i=.int .i64 k/\l.take k=l'.take k/\∃ q,wr=w.drewN q) (fun i _=>n - (intOf i).toNat)
 case atStart=>exact⟨0,Nat.zero_le _,Nat.zero_le _,rfl,rfl,0,rfl⟩
 case round =>
  obtain⟨k,hk,hk',rfl,heq,q,rfl⟩:=hrel
  have HE:=Lib.hid heq;clear heq
  by_cases hlt:k<n/\k<n'
  ·obtain⟨h1,h2⟩:=hlt
   have d1:decide (k<n)=true:=by simp [h1]
   have d2:decide (k<n')=true:=by simp [h2]
   obtain⟨b,off,x,rfl,hc,hI,hxk⟩:=hr.ati h1
   obtain⟨b',off',y,rfl,hc',hI',hyk⟩:=hr'.ati h2
   by_cases hx:x<y
   ·go_wp2
    go_quiet (fail)
    go_wp2
    go_ret
    exact⟨ret_int (a:=-1) (cmpRows_lt HE.out hxk.out hyk.out hx).symm,(by first|exact⟨_,rfl⟩|(simp only [World.drewN_drewN];exact⟨_,rfl⟩))⟩
   ·have d3:decide (x<y)=false:=by simpa using hx
    by_cases hy:y<x
    ·go_wp2
     go_quiet (fail)
     go_wp2
     go_quiet (fail)
     go_wp2
     go_ret
     exact⟨ret_int (a:=1) (cmpRows_gt HE.out hxk.out hyk.out hy).symm,(by first|exact⟨_,rfl⟩|(simp only [World.drewN_drewN];exact⟨_,rfl⟩))⟩
    ·have d4:decide (y<x)=false:=by simpa using hy
     have hxy:x=y:=by omega
     have HX:=Lib.hid hxy;clear hxy
     go_wp2
     go_quiet (fail)
     go_wp2
     go_quiet (fail)
     go_wp2
     go_roundw
     case rel=>exact⟨k+1,by omega,by omega,by go_num,take_eq_snoc HE.out hxk.out (HX.out▸hyk.out),(by first|exact⟨_,rfl⟩|(simp only [World.drewN_drewN];exact⟨_,rfl⟩))⟩
     case measure=>simp [intOf];omega
  ·have HF:=Lib.hid (cmpRows_end HE.out (by rw [HL.out];exact hk) (by rw [HL'.out];exact hk') (by rw [HL.out,HL'.out];exact hlt))
   by_cases h1:k<n
   ·have h2:¬ k<n':=fun h=>hlt ⟨h1,h⟩
    clear hlt
    go_wp2
    go_ret
    exact⟨ret_int (a:=1) (by rw [HF.out,HL.out,HL'.out,if_neg (by omega),if_pos (by omega)]),_,rfl⟩
   ·clear hlt
    by_cases h3:n<n'
    ·go_wp2
     go_ret
     exact⟨ret_int (a:=-1) (by rw [HF.out,HL.out,HL'.out,if_pos (by omega)]),_,rfl⟩
    ·go_wp2
     go_ret
     exact⟨ret_int (a:=0) (by rw [HF.out,HL.out,HL'.out,if_neg (by omega),if_neg (by omega)]),_,rfl⟩

/-! ### slices.Equal -/

end Go.Proofs.Ytjckbnmbhgikjaa
namespace Go.Proofs.Ytjckbnmbhgikjaa
open Go.RowKit
set_option linter.unusedVariables false
set_option linter.unusedSimpArgs false

theorem RS.eCostStep {M M':Nat}{w:World}{A:Option Addr}{n cap:Nat}{l:List CostStepD}(h:RS M (rCostStep M') w A n cap l) {k:Nat}(hk:k<n) :
  ∃ b off x,A=some ⟨b,off,none⟩/\w.cell? ⟨b,off+k*2,none⟩=some (.int .i64 x.fFrom)/\w.cell? ⟨b,off+k*2+1,none⟩=some (.int .i64 x.fAdd)/\I64 x.fFrom/\I64 x.fAdd/\Hid (l[k]?=some x):=by
 obtain⟨b,off,x,cs,e,hrep,hc,hx⟩:=h.at_ hk
 obtain⟨rfl,hFrom,hAdd⟩:=rCostStep_rep.1 hrep
 exact⟨b,off,x,e,hc 0 _ rfl,hc 1 _ rfl,hFrom,hAdd,hx⟩
theorem guardCostStep:Try.prog.eqGuardType Try.prog.depth 70=false:=by kernel_rfl
theorem neqCostStep (x x':CostStepD) (W:World):(binOp .neq 70 (.agg #[.int .i64 x.fFrom,.int .i64 x.fAdd]) (.agg #[.int .i64 x'.fFrom,.int .i64 x'.fAdd])).run Try.prog W=.ok (.bool (!decide (x=x'))) W:=by
 rw [run_neq_struct,show(10000:Nat)=9999+1 from rfl,run_equalIn_struct _ _ _ _ _ (by kernel_rfl) (by kernel_rfl)]
 have hd:decide (x=x')=((x.fFrom==x'.fFrom)&&(x.fAdd==x'.fAdd)):=by
  rw [Bool.eq_iff_iff];cases x;cases x';simp
 rw [hd]
 by_cases h0:x.fFrom=x'.fFrom<;>by_cases h1:x.fAdd=x'.fAdd<;>simp [go_sem,Try.underlying70,Try.underlying3,Try.underlying4,h0,h1]
theorem eqlCostStep (x x':CostStepD) (W:World):(binOp .eql 70 (.agg #[.int .i64 x.fFrom,.int .i64 x.fAdd]) (.agg #[.int .i64 x'.fFrom,.int .i64 x'.fAdd])).run Try.prog W=.ok (.bool (decide (x=x'))) W:=by
 rw [run_eql_struct,show(10000:Nat)=9999+1 from rfl,run_equalIn_struct _ _ _ _ _ (by kernel_rfl) (by kernel_rfl)]
 have hd:decide (x=x')=((x.fFrom==x'.fFrom)&&(x.fAdd==x'.fAdd)):=by
  rw [Bool.eq_iff_iff];cases x;cases x';simp
 rw [hd]
 by_cases h0:x.fFrom=x'.fFrom<;>by_cases h1:x.fAdd=x'.fAdd<;>simp [go_sem,Try.underlying70,Try.underlying3,Try.underlying4,h0,h1]
theorem RS.ePlanStep {M M':Nat}{w:World}{A:Option Addr}{n cap:Nat}{l:List PlanStepD}(h:RS M (rPlanStep M') w A n cap l) {k:Nat}(hk:k<n) :
  ∃ b off x,A=some ⟨b,off,none⟩/\w.cell? ⟨b,off+k*3,none⟩=some (.int .i64 x.fKind)/\w.cell? ⟨b,off+k*3+1,none⟩=some (.int .i64 x.fAtom)/\w.cell? ⟨b,off+k*3+2,none⟩=some (.int .i64 x.fOrder)/\I64 x.fKind/\I64 x.fAtom/\I64 x.fOrder/\Hid (l[k]?=some x):=by
 obtain⟨b,off,x,cs,e,hrep,hc,hx⟩:=h.at_ hk
 obtain⟨rfl,hKind,hAtom,hOrder⟩:=rPlanStep_rep.1 hrep
 exact⟨b,off,x,e,hc 0 _ rfl,hc 1 _ rfl,hc 2 _ rfl,hKind,hAtom,hOrder,hx⟩
theorem guardPlanStep:Try.prog.eqGuardType Try.prog.depth 90=false:=by kernel_rfl
theorem neqPlanStep (x x':PlanStepD) (W:World):(binOp .neq 90 (.agg #[.int .i64 x.fKind,.int .i64 x.fAtom,.int .i64 x.fOrder]) (.agg #[.int .i64 x'.fKind,.int .i64 x'.fAtom,.int .i64 x'.fOrder])).run Try.prog W=.ok (.bool (!decide (x=x'))) W:=by
 rw [run_neq_struct,show(10000:Nat)=9999+1 from rfl,run_equalIn_struct _ _ _ _ _ (by kernel_rfl) (by kernel_rfl)]
 have hd:decide (x=x')=((x.fKind==x'.fKind)&&((x.fAtom==x'.fAtom)&&(x.fOrder==x'.fOrder))):=by
  rw [Bool.eq_iff_iff];cases x;cases x';simp
 rw [hd]
 by_cases h0:x.fKind=x'.fKind<;>by_cases h1:x.fAtom=x'.fAtom<;>by_cases h2:x.fOrder=x'.fOrder<;>simp [go_sem,Try.underlying90,Try.underlying3,Try.underlying4,h0,h1,h2]
theorem eqlPlanStep (x x':PlanStepD) (W:World):(binOp .eql 90 (.agg #[.int .i64 x.fKind,.int .i64 x.fAtom,.int .i64 x.fOrder]) (.agg #[.int .i64 x'.fKind,.int .i64 x'.fAtom,.int .i64 x'.fOrder])).run Try.prog W=.ok (.bool (decide (x=x'))) W:=by
 rw [run_eql_struct,show(10000:Nat)=9999+1 from rfl,run_equalIn_struct _ _ _ _ _ (by kernel_rfl) (by kernel_rfl)]
 have hd:decide (x=x')=((x.fKind==x'.fKind)&&((x.fAtom==x'.fAtom)&&(x.fOrder==x'.fOrder))):=by
  rw [Bool.eq_iff_iff];cases x;cases x';simp
 rw [hd]
 by_cases h0:x.fKind=x'.fKind<;>by_cases h1:x.fAtom=x'.fAtom<;>by_cases h2:x.fOrder=x'.fOrder<;>simp [go_sem,Try.underlying90,Try.underlying3,Try.underlying4,h0,h1,h2]
end Go.Proofs.Ytjckbnmbhgikjaa
