/-
  Tab, Db
-/
import Derived.Test.YtnlcfkpcmfljeaaGreatStrP
import Derived.Test.YtnlcfkpcmfljeaaGreatQi
set_option linter.unusedSimpArgs false
set_option linter.unusedVariables false
namespace Go.Proofs.YtnlcfkpcmfljeaaGreat
open Go.RowKit
theorem Qt.tr {a b c:World}(h1:Qt a b) (h2:Qt b c):Qt a c:=by
 obtain⟨m,rfl⟩:=h1;obtain⟨k,rfl⟩:=h2;exact⟨_,World.drewN_drewN _ _ _⟩
end Go.Proofs.YtnlcfkpcmfljeaaGreat
