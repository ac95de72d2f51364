/-
  Dens, Equal, EqLib
-/
import Derived.Test.YtnlcfkpcmfljeaaGreatTypes
import Derived.Laws.StructEq
set_option linter.unusedSimpArgs false
set_option linter.unusedVariables false
namespace Go.Proofs.YtnlcfkpcmfljeaaGreat
open Go.RowKit
theorem RS.row {M M':Nat}{e:TypeId}{w:World}{A:Option Addr}{n cap:Nat}{l:List (List Int)}(h:RS M (rSlice M' e rInt) w A n cap l) {k:Nat}(hk:k<n) :
  ∃ b off x Ar nr cr,A=some ⟨b,off,none⟩/\w.cell? ⟨b,off+k,none⟩=some (.slice Ar nr cr)/\RS M' rInt w Ar nr cr x/\Hid (l[k]?=some x):=by
 obtain⟨b,off,x,cs,e,⟨Ar,nr,cr,rfl,hr⟩,hc,hx⟩:=h.at_ hk;exact⟨b,off,x,Ar,nr,cr,e,by simpa [rSlice]using hc 0 _ rfl,hr,hx⟩
theorem RS.eCostStep {M M':Nat}{w:World}{A:Option Addr}{n cap:Nat}{l:List CostStepD}(h:RS M (rCostStep M') w A n cap l) {k:Nat}(hk:k<n) :
  ∃ b off x,A=some ⟨b,off,none⟩/\w.cell? ⟨b,off+k*2,none⟩=some (.int .i64 x.fFrom)/\w.cell? ⟨b,off+k*2+1,none⟩=some (.int .i64 x.fAdd)/\I64 x.fFrom/\I64 x.fAdd/\Hid (l[k]?=some x):=by
 obtain⟨b,off,x,cs,e,hrep,hc,hx⟩:=h.at_ hk;obtain⟨rfl,hFrom,hAdd⟩:=rCostStep_rep.1 hrep;exact⟨b,off,x,e,hc 0 _ rfl,hc 1 _ rfl,hFrom,hAdd,hx⟩
theorem RS.ePlanStep {M M':Nat}{w:World}{A:Option Addr}{n cap:Nat}{l:List PlanStepD}(h:RS M (rPlanStep M') w A n cap l) {k:Nat}(hk:k<n) :
  ∃ b off x,A=some ⟨b,off,none⟩/\w.cell? ⟨b,off+k*3,none⟩=some (.int .i64 x.fKind)/\w.cell? ⟨b,off+k*3+1,none⟩=some (.int .i64 x.fAtom)/\w.cell? ⟨b,off+k*3+2,none⟩=some (.int .i64 x.fOrder)/\I64 x.fKind/\I64 x.fAtom/\I64 x.fOrder/\Hid (l[k]?=some x):=by
 obtain⟨b,off,x,cs,e,hrep,hc,hx⟩:=h.at_ hk;obtain⟨rfl,hKind,h_d,h_s3⟩:=rPlanStep_rep.1 hrep;exact⟨b,off,x,e,hc 0 _ rfl,hc 1 _ rfl,hc 2 _ rfl,hKind,h_d,h_s3,hx⟩
end Go.Proofs.YtnlcfkpcmfljeaaGreat
