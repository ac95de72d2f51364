/-
  Lkp, Qf
-/
import Derived.Test.YtnlcfkpcmfljeaaGreatKeep
import Derived.Test.YtnlcfkpcmfljeaaGreatDb
import Derived.Test.YtnlcfkpcmfljeaaGreatCpr
import Derived.Test.YtnlcfkpcmfljeaaGreatQi
set_option linter.unusedSimpArgs false
set_option linter.unusedVariables false
namespace Go.Proofs.YtnlcfkpcmfljeaaGreat
open Go.RowKit
end Go.Proofs.YtnlcfkpcmfljeaaGreat
