/-
  Tda
-/
import Derived.Test.YtjckbnmbhgikjaaTdb
import Derived.Test.YtjckbnmbhgikjaaUpd
import Derived.Test.YtjckbnmbhgikjaaPqs
namespace Go.Proofs.Ytjckbnmbhgikjaa
open Go.RowKit
set_option linter.unusedVariables false
set_option linter.unusedSimpArgs false
end Go.Proofs.Ytjckbnmbhgikjaa
