/-
  Contracts: slices.Equal of structs of plain fields.
-/
import Derived.Test.YtobildkjikhdiaaEqual
import Derived.Laws.StructEq
namespace Go.Proofs.Ytobildkjikhdiaa
open Go.RowKit

end Go.Proofs.Ytobildkjikhdiaa
