/-
  Dens, Equal, EqLib
-/
import Derived.Test.YtblbnbfghlkkfaaGreatTypes
import Derived.Laws.StructEq
namespace Go.Proofs.YtblbnbfghlkkfaaGreat
open Go.RowKit

theorem RS.row {M M':Nat}{e:TypeId}{w:World}{A:Option Addr}{n cap:Nat}{l:List (List Int)}(h:RS M (rSlice M' e rInt) w A n cap l) {k:Nat}(hk:k<n) :
  ∃ b off x Ar nr cr,A=some ⟨b,off,none⟩/\w.cell? ⟨b,off+k,none⟩=some (.slice Ar nr cr)/\RS M' rInt w Ar nr cr x/\Hid (l[k]?=some x):=by
 obtain⟨b,off,x,cs,e,⟨Ar,nr,cr,rfl,hr⟩,hc,hx⟩:=h.at_ hk
 exact⟨b,off,x,Ar,nr,cr,e,by simpa [rSlice]using hc 0 _ rfl,hr,hx⟩

end Go.Proofs.YtblbnbfghlkkfaaGreat
namespace Go.Proofs.YtblbnbfghlkkfaaGreat
open Go.RowKit

/-! ### rows in order -/
/-! ### slices.Equal -/

end Go.Proofs.YtblbnbfghlkkfaaGreat
namespace Go.Proofs.YtblbnbfghlkkfaaGreat
open Go.RowKit
set_option linter.unusedVariables false
set_option linter.unusedSimpArgs false

theorem RS.eCostStep {M M':Nat}{w:World}{A:Option Addr}{n cap:Nat}{l:List CostStepD}(h:RS M (rCostStep M') w A n cap l) {k:Nat}(hk:k<n) :
  ∃ b off x,A=some ⟨b,off,none⟩/\w.cell? ⟨b,off+k*2,none⟩=some (.int .i64 x.fFrom)/\w.cell? ⟨b,off+k*2+1,none⟩=some (.int .i64 x.fAdd)/\I64 x.fFrom/\I64 x.fAdd/\Hid (l[k]?=some x):=by
 obtain⟨b,off,x,cs,e,hrep,hc,hx⟩:=h.at_ hk
 obtain⟨rfl,hFrom,hAdd⟩:=rCostStep_rep.1 hrep
 exact⟨b,off,x,e,hc 0 _ rfl,hc 1 _ rfl,hFrom,hAdd,hx⟩
theorem RS.ePlanStep {M M':Nat}{w:World}{A:Option Addr}{n cap:Nat}{l:List PlanStepD}(h:RS M (rPlanStep M') w A n cap l) {k:Nat}(hk:k<n) :
  ∃ b off x,A=some ⟨b,off,none⟩/\w.cell? ⟨b,off+k*3,none⟩=some (.int .i64 x.fKind)/\w.cell? ⟨b,off+k*3+1,none⟩=some (.int .i64 x.fAtom)/\w.cell? ⟨b,off+k*3+2,none⟩=some (.int .i64 x.fOrder)/\I64 x.fKind/\I64 x.fAtom/\I64 x.fOrder/\Hid (l[k]?=some x):=by
 obtain⟨b,off,x,cs,e,hrep,hc,hx⟩:=h.at_ hk
 obtain⟨rfl,hKind,hAtom,hOrder⟩:=rPlanStep_rep.1 hrep
 exact⟨b,off,x,e,hc 0 _ rfl,hc 1 _ rfl,hc 2 _ rfl,hKind,hAtom,hOrder,hx⟩
theorem guardPlanStep:Tryz.prog.eqGuardType Tryz.prog.depth 140=false:=by kernel_rfl
theorem neqPlanStep (x x':PlanStepD) (W:World):(binOp .neq 140 (.agg #[.int .i64 x.fKind,.int .i64 x.fAtom,.int .i64 x.fOrder]) (.agg #[.int .i64 x'.fKind,.int .i64 x'.fAtom,.int .i64 x'.fOrder])).run Tryz.prog W=.ok (.bool (!decide (x=x'))) W:=by
 rw [run_neq_struct,show(10000:Nat)=9999+1 from rfl,run_equalIn_struct _ _ _ _ _ (by kernel_rfl) (by kernel_rfl)]
 have hd:decide (x=x')=((x.fKind==x'.fKind)&&((x.fAtom==x'.fAtom)&&(x.fOrder==x'.fOrder))):=by
  rw [Bool.eq_iff_iff];cases x;cases x';simp
 rw [hd]
 by_cases h0:x.fKind=x'.fKind<;>by_cases h1:x.fAtom=x'.fAtom<;>by_cases h2:x.fOrder=x'.fOrder<;>simp [go_sem,Tryz.underlying140,Tryz.underlying3,Tryz.underlying4,h0,h1,h2]
end Go.Proofs.YtblbnbfghlkkfaaGreat
