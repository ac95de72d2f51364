/-
  Bloc
-/
import Derived.Test.YtnlcfkpcmfljeaaGreatBox
import Derived.Test.YtnlcfkpcmfljeaaGreatCopy
set_option linter.unusedSimpArgs false
set_option linter.unusedVariables false
namespace Go.Proofs.YtnlcfkpcmfljeaaGreat
open Go.RowKit
end Go.Proofs.YtnlcfkpcmfljeaaGreat
