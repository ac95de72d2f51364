/-
  Lkp, Qf
-/
import Derived.Test.YtnlcfkpcmfljeaaGreatCpr
set_option linter.unusedSimpArgs false
set_option linter.unusedVariables false
namespace Go.Proofs.YtnlcfkpcmfljeaaGreat
open Go.RowKit
end Go.Proofs.YtnlcfkpcmfljeaaGreat
