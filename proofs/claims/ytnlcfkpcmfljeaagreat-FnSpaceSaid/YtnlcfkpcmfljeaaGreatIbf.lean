/-
  Ibf
-/
import Derived.Test.YtnlcfkpcmfljeaaGreatSpace
import Derived.Deep.RegionHeld3
import Derived.Deep.DrawnRows
set_option linter.unusedSimpArgs false
set_option linter.unusedVariables false
namespace Go.Proofs.YtnlcfkpcmfljeaaGreat
open Go.RowKit
end Go.Proofs.YtnlcfkpcmfljeaaGreat
