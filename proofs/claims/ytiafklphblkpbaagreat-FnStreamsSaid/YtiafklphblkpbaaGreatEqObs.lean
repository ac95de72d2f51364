/-
  EqObs
-/
import Derived.Test.YtiafklphblkpbaaGreatEqLib
import Derived.Laws.StructEq
namespace Go.Proofs.YtiafklphblkpbaaGreat
open Go.RowKit

end Go.Proofs.YtiafklphblkpbaaGreat
