/-
  Tab, Db
-/
import Derived.Test.YtblbnbfghlkkfaaGreatKeep
import Derived.Test.YtblbnbfghlkkfaaGreatEqLib
import Derived.Test.YtblbnbfghlkkfaaGreatStr
import Derived.Test.YtblbnbfghlkkfaaGreatQi
namespace Go.Proofs.YtblbnbfghlkkfaaGreat
open Go.RowKit
set_option linter.unusedVariables false
set_option linter.unusedSimpArgs false
theorem Qt.tr {a b c:World}(h1:Qt a b) (h2:Qt b c):Qt a c:=by
 obtain⟨m,rfl⟩:=h1
 obtain⟨k,rfl⟩:=h2
 exact⟨_,World.drewN_drewN _ _ _⟩
end Go.Proofs.YtblbnbfghlkkfaaGreat
namespace Go.Proofs.YtblbnbfghlkkfaaGreat
open Go.RowKit
set_option linter.unusedVariables false
set_option linter.unusedSimpArgs false
end Go.Proofs.YtblbnbfghlkkfaaGreat
