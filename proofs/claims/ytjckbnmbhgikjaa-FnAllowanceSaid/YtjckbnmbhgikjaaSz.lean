/-
  Sz
-/
import Derived.Test.YtjckbnmbhgikjaaTypes
namespace Go.Proofs.Ytjckbnmbhgikjaa
open Go.RowKit
set_option linter.unusedVariables false
set_option linter.unusedSimpArgs false

/-- a slice counts its elements, and what they count -/
def bulkS {α:Type} (f:α->Nat) (l:List α):Nat:=l.length+(l.map f).sum
theorem sum_ge {α:Type}(f:α->Nat) {l:List α}{k:Nat}{x:α}(h:l[k]?=some x):((l.take k).map f).sum+f x<=(l.map f).sum:=by
 have e:l.map f=(l.take (k+1)).map f++(l.drop (k+1)).map f:=by rw [<- List.map_append,List.take_append_drop]
 rw [e,List.sum_append,take_snoc h,List.map_append,List.sum_append];simp only [List.map_cons,List.map_nil,List.sum_cons,List.sum_nil];omega

















































end Go.Proofs.Ytjckbnmbhgikjaa
