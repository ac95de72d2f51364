/-
  Lkp, Qf
-/
import Derived.Test.YtadgmjdafkihfaaGreatKeep
import Derived.Test.YtadgmjdafkihfaaGreatDb
import Derived.Test.YtadgmjdafkihfaaGreatCpr
import Derived.Test.YtadgmjdafkihfaaGreatQi
namespace Go.Proofs.YtadgmjdafkihfaaGreat
open Go.RowKit
set_option linter.unusedVariables false
set_option linter.unusedSimpArgs false
end Go.Proofs.YtadgmjdafkihfaaGreat
namespace Go.Proofs.YtadgmjdafkihfaaGreat
open Go.RowKit
set_option linter.unusedVariables false
set_option linter.unusedSimpArgs false
end Go.Proofs.YtadgmjdafkihfaaGreat
