/-
  Tab, Db
-/
import Derived.Test.YtnlcfkpcmfljeaaGreatKeep
import Derived.Test.YtnlcfkpcmfljeaaGreatEqLib
import Derived.Test.YtnlcfkpcmfljeaaGreatStr
import Derived.Test.YtnlcfkpcmfljeaaGreatQi
namespace Go.Proofs.YtnlcfkpcmfljeaaGreat
open Go.RowKit
set_option linter.unusedVariables false
set_option linter.unusedSimpArgs false
theorem Qt.tr {a b c:World}(h1:Qt a b) (h2:Qt b c):Qt a c:=by
 obtain⟨m,rfl⟩:=h1
 obtain⟨k,rfl⟩:=h2
 exact⟨_,World.drewN_drewN _ _ _⟩
end Go.Proofs.YtnlcfkpcmfljeaaGreat
namespace Go.Proofs.YtnlcfkpcmfljeaaGreat
open Go.RowKit
set_option linter.unusedVariables false
set_option linter.unusedSimpArgs false
end Go.Proofs.YtnlcfkpcmfljeaaGreat
