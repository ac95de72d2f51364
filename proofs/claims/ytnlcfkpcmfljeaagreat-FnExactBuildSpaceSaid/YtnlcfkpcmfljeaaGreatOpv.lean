/-
  Opv
-/
import Derived.Test.YtnlcfkpcmfljeaaGreatBsp
namespace Go.Proofs.YtnlcfkpcmfljeaaGreat
open Go.RowKit
set_option linter.unusedVariables false
set_option linter.unusedSimpArgs false
def tabV (md:ModelD) (q:QueryD) (s:List Int):List PlanEntryD:=if admitted md&&isSizes q s then tableE md q s else []
def optV (md:ModelD) (q:QueryD) (s:List Int):Option PlanEntryD:=bestE (tabV md q s) (fullMask q)
def costV (o:Option PlanEntryD):Int:=match o with
 | some x=>x.fCost
 | none=>-1
/-- the optimal cost at a location -/
def optC (md:ModelD) (q:QueryD) (l:List Int):Int:=costV (optV md q (locSizes l))
end Go.Proofs.YtnlcfkpcmfljeaaGreat
