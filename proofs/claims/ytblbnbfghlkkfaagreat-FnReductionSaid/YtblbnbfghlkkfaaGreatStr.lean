/-
  Str
-/
import Derived.Test.YtblbnbfghlkkfaaGreatStrP
import Derived.Test.YtblbnbfghlkkfaaGreatEqLib
namespace Go.Proofs.YtblbnbfghlkkfaaGreat
open Go.RowKit
set_option linter.unusedVariables false
set_option linter.unusedSimpArgs false

end Go.Proofs.YtblbnbfghlkkfaaGreat
