/-
  Bsp
-/
import Derived.Test.YtnlcfkpcmfljeaaGreatTbp
import Derived.Test.YtnlcfkpcmfljeaaGreatSpace
import Derived.Test.YtnlcfkpcmfljeaaGreatPcp
import Derived.Test.YtnlcfkpcmfljeaaGreatTrip
set_option linter.unusedSimpArgs false
set_option linter.unusedVariables false
namespace Go.Proofs.YtnlcfkpcmfljeaaGreat
open Go.RowKit
def tabV (md:ModelD) (q:QueryD) (s:List Int):List PlanEntryD:=if admitted md&&isSizes q s then tableE md q s else []
def optV (md:ModelD) (q:QueryD) (s:List Int):Option PlanEntryD:=bestE (tabV md q s) (fullMask q)
def costV (o:Option PlanEntryD):Int:=match o with
 | some x=>x.fCost
 | none=>-1
def optC (md:ModelD) (q:QueryD) (l:List Int):Int:=costV (optV md q (locSizes l))
end Go.Proofs.YtnlcfkpcmfljeaaGreat
