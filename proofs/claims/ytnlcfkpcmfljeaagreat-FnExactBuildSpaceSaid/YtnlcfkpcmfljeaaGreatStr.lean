/-
  Str
-/
import Derived.Test.YtnlcfkpcmfljeaaGreatStrP
import Derived.Test.YtnlcfkpcmfljeaaGreatEqLib
namespace Go.Proofs.YtnlcfkpcmfljeaaGreat
open Go.RowKit
set_option linter.unusedVariables false
set_option linter.unusedSimpArgs false

end Go.Proofs.YtnlcfkpcmfljeaaGreat
