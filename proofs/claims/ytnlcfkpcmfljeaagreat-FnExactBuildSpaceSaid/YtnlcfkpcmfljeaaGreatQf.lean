/-
  Lkp, Qf
-/
import Derived.Test.YtnlcfkpcmfljeaaGreatKeep
import Derived.Test.YtnlcfkpcmfljeaaGreatDb
import Derived.Test.YtnlcfkpcmfljeaaGreatCpr
import Derived.Test.YtnlcfkpcmfljeaaGreatQi
namespace Go.Proofs.YtnlcfkpcmfljeaaGreat
open Go.RowKit
set_option linter.unusedVariables false
set_option linter.unusedSimpArgs false
end Go.Proofs.YtnlcfkpcmfljeaaGreat
namespace Go.Proofs.YtnlcfkpcmfljeaaGreat
open Go.RowKit
set_option linter.unusedVariables false
set_option linter.unusedSimpArgs false
end Go.Proofs.YtnlcfkpcmfljeaaGreat
