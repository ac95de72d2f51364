/-
  EqObs
-/
import Derived.Test.YtceeggmfedpdkaaEqLib
import Derived.Laws.StructEq
namespace Go.Proofs.Ytceeggmfedpdkaa
open Go.RowKit

end Go.Proofs.Ytceeggmfedpdkaa
