/-
  EqObs
-/
import Derived.Test.YtkdajdafhjobbaaEqLib
import Derived.Laws.StructEq
namespace Go.Proofs.Ytkdajdafhjobbaa
open Go.RowKit

end Go.Proofs.Ytkdajdafhjobbaa
