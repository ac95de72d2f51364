/-
  Spc
-/
import Derived.Test.YtbmaigkgjmkihaaGreatSpace
import Derived.Test.YtbmaigkgjmkihaaGreatBox
namespace Go.Proofs.YtbmaigkgjmkihaaGreat
open Go.RowKit
set_option linter.unusedVariables false

/-! ### the least and the greatest -/
end Go.Proofs.YtbmaigkgjmkihaaGreat
