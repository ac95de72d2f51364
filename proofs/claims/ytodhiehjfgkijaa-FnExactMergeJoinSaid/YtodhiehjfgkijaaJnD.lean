/-
  MergeJoin's result is small.
-/
import Derived.Test.YtodhiehjfgkijaaJnC
import Derived.Test.YtodhiehjfgkijaaMrj
namespace Go.Proofs.Ytodhiehjfgkijaa
open Go.RowKit
theorem cnt_merge (a b : StreamD) (v : Int) : cnt_Stream (mergeJoin a b v).1 ≤ 1099511627776 := by
  unfold mergeJoin
  split
  · exact cnt_nested a b
  · exact cnt_zero
end Go.Proofs.Ytodhiehjfgkijaa
