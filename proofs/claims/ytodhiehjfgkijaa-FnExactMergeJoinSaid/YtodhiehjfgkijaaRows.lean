/-
  No cell of these rows narrows 'for every input' (looked for: loops, veiled, ifaces, maps, wideKeys, modest, calm, conditions, laid).
  DERIVED. THE GIVEN ROWS OF THIS SEAT. 9 by the template 'for every input the law returns true; each argument reads behind the call as it read before'; 0 by the template 'total and deterministic' (their statements: YtodhiehjfgkijaaTotals.lean).
  GIVEN WITH THE SEED: the statements are not yours to turn. If you find one false, say at which input.
  Laid BY PROGRAM, IN A SANDBOX (cutbox-rows.mjs): the forced cells as the released guide's own fill.sh prints them over the translation 09476c2d523c93ed… (all of the seat's roots in one cut). By AI agents, Wed Nov 11 2026. No macro, syntax, notation, axiom, sorry.
-/
import Derived.Test.YtodhiehjfgkijaaChecked
import GoSem.Claim
import GoSem.ClaimJoined
import GoSem.ClaimMapViews
import Derived.JoinedTies
import Derived.KernelRfl
namespace Go.Proofs.Ytodhiehjfgkijaa
/- THE CELL 'sum', in the pinned program and in every row, IS THE sha256 OF THE DUMP (.gsa) THAT YtodhiehjfgkijaaProg.lean LOADS. Nothing in Lean hashes anything: it is a label: what it is worth is what the hold of that sum in a sandbox is worth. -/
noncomputable def Try.pinned : Pinned := { name := "ytodhiehjfgkijaa", sum := "09476c2d523c93ed9ce87940e8f52cbecd475bcbb35a8d90bb578eb8f2a890c5", checked := Try.checked }
namespace Rows
def none {H : Type} : Left H := { results := [], args := [] }

/-- 'laws.FnBudgets': WHATEVER THE INPUT: true; the input reads as it did. -/
def fnBudgetsSpec : ChangeSpec := { name := "fnBudgets", fn := fun _ => fun
  | [d] => { results := [.lit (.bool true)], args := [d] }
  | _ => none }
def fnBudgetsRow : OpenClaim := { program := "ytodhiehjfgkijaa", sum := "09476c2d523c93ed9ce87940e8f52cbecd475bcbb35a8d90bb578eb8f2a890c5", func := "loop.example/g01921/laws.FnBudgets", spec := "fnBudgets", unfollowed := true, recurses := true, apart := false }
def FnBudgetsSaid : Prop := fnBudgetsRow.holds Try.pinned (OpenSpec.ofChange fnBudgetsSpec)

/-- ITS FALSE NEIGHBOUR: 'it returns false'. Refute it at one input. -/
def fnBudgetsWrong : ChangeSpec := { name := "fnBudgets", fn := fun _ => fun
  | [d] => { results := [.lit (.bool false)], args := [d] }
  | _ => none }
def FnBudgetsWrongFalsely : Prop := fnBudgetsRow.holds Try.pinned (OpenSpec.ofChange fnBudgetsWrong)

/-- 'laws.FnLearning': WHATEVER THE INPUT: true; the input reads as it did. -/
def fnLearningSpec : ChangeSpec := { name := "fnLearning", fn := fun _ => fun
  | [d] => { results := [.lit (.bool true)], args := [d] }
  | _ => none }
def fnLearningRow : OpenClaim := { program := "ytodhiehjfgkijaa", sum := "09476c2d523c93ed9ce87940e8f52cbecd475bcbb35a8d90bb578eb8f2a890c5", func := "loop.example/g01921/laws.FnLearning", spec := "fnLearning", apart := false }
def FnLearningSaid : Prop := fnLearningRow.holds Try.pinned (OpenSpec.ofChange fnLearningSpec)

/-- ITS FALSE NEIGHBOUR: 'it returns false'. Refute it at one input. -/
def fnLearningWrong : ChangeSpec := { name := "fnLearning", fn := fun _ => fun
  | [d] => { results := [.lit (.bool false)], args := [d] }
  | _ => none }
def FnLearningWrongFalsely : Prop := fnLearningRow.holds Try.pinned (OpenSpec.ofChange fnLearningWrong)

/-- 'laws.FnExactStepAllowance': WHATEVER THE INPUT: true; the input reads as it did. -/
def fnExactStepAllowanceSpec : ChangeSpec := { name := "fnExactStepAllowance", fn := fun _ => fun
  | [d1, d2, d3, d4, d5] => { results := [.lit (.bool true)], args := [d1, d2, d3, d4, d5] }
  | _ => none }
def fnExactStepAllowanceRow : OpenClaim := { program := "ytodhiehjfgkijaa", sum := "09476c2d523c93ed9ce87940e8f52cbecd475bcbb35a8d90bb578eb8f2a890c5", func := "loop.example/g01921/laws.FnExactStepAllowance", spec := "fnExactStepAllowance", apart := false }
def FnExactStepAllowanceSaid : Prop := fnExactStepAllowanceRow.holds Try.pinned (OpenSpec.ofChange fnExactStepAllowanceSpec)

/-- ITS FALSE NEIGHBOUR: 'it returns false'. Refute it at one input. -/
def fnExactStepAllowanceWrong : ChangeSpec := { name := "fnExactStepAllowance", fn := fun _ => fun
  | [d1, d2, d3, d4, d5] => { results := [.lit (.bool false)], args := [d1, d2, d3, d4, d5] }
  | _ => none }
def FnExactStepAllowanceWrongFalsely : Prop := fnExactStepAllowanceRow.holds Try.pinned (OpenSpec.ofChange fnExactStepAllowanceWrong)

/-- 'laws.FnExactHashJoin': WHATEVER THE INPUT: true; the input reads as it did. -/
def fnExactHashJoinSpec : ChangeSpec := { name := "fnExactHashJoin", fn := fun _ => fun
  | [d1, d2] => { results := [.lit (.bool true)], args := [d1, d2] }
  | _ => none }
def fnExactHashJoinRow : OpenClaim := { program := "ytodhiehjfgkijaa", sum := "09476c2d523c93ed9ce87940e8f52cbecd475bcbb35a8d90bb578eb8f2a890c5", func := "loop.example/g01921/laws.FnExactHashJoin", spec := "fnExactHashJoin", recurses := true, apart := false }
def FnExactHashJoinSaid : Prop := fnExactHashJoinRow.holds Try.pinned (OpenSpec.ofChange fnExactHashJoinSpec)

/-- ITS FALSE NEIGHBOUR: 'it returns false'. Refute it at one input. -/
def fnExactHashJoinWrong : ChangeSpec := { name := "fnExactHashJoin", fn := fun _ => fun
  | [d1, d2] => { results := [.lit (.bool false)], args := [d1, d2] }
  | _ => none }
def FnExactHashJoinWrongFalsely : Prop := fnExactHashJoinRow.holds Try.pinned (OpenSpec.ofChange fnExactHashJoinWrong)

/-- 'laws.FnExactNestedJoin': WHATEVER THE INPUT: true; the input reads as it did. -/
def fnExactNestedJoinSpec : ChangeSpec := { name := "fnExactNestedJoin", fn := fun _ => fun
  | [d1, d2] => { results := [.lit (.bool true)], args := [d1, d2] }
  | _ => none }
def fnExactNestedJoinRow : OpenClaim := { program := "ytodhiehjfgkijaa", sum := "09476c2d523c93ed9ce87940e8f52cbecd475bcbb35a8d90bb578eb8f2a890c5", func := "loop.example/g01921/laws.FnExactNestedJoin", spec := "fnExactNestedJoin", recurses := true, apart := false }
def FnExactNestedJoinSaid : Prop := fnExactNestedJoinRow.holds Try.pinned (OpenSpec.ofChange fnExactNestedJoinSpec)

/-- ITS FALSE NEIGHBOUR: 'it returns false'. Refute it at one input. -/
def fnExactNestedJoinWrong : ChangeSpec := { name := "fnExactNestedJoin", fn := fun _ => fun
  | [d1, d2] => { results := [.lit (.bool false)], args := [d1, d2] }
  | _ => none }
def FnExactNestedJoinWrongFalsely : Prop := fnExactNestedJoinRow.holds Try.pinned (OpenSpec.ofChange fnExactNestedJoinWrong)

/-- 'laws.FnExactIsValidBouquet': WHATEVER THE INPUT: true; the input reads as it did. -/
def fnExactIsValidBouquetSpec : ChangeSpec := { name := "fnExactIsValidBouquet", fn := fun _ => fun
  | [d1, d2] => { results := [.lit (.bool true)], args := [d1, d2] }
  | _ => none }
def fnExactIsValidBouquetRow : OpenClaim := { program := "ytodhiehjfgkijaa", sum := "09476c2d523c93ed9ce87940e8f52cbecd475bcbb35a8d90bb578eb8f2a890c5", func := "loop.example/g01921/laws.FnExactIsValidBouquet", spec := "fnExactIsValidBouquet", apart := false }
def FnExactIsValidBouquetSaid : Prop := fnExactIsValidBouquetRow.holds Try.pinned (OpenSpec.ofChange fnExactIsValidBouquetSpec)

/-- ITS FALSE NEIGHBOUR: 'it returns false'. Refute it at one input. -/
def fnExactIsValidBouquetWrong : ChangeSpec := { name := "fnExactIsValidBouquet", fn := fun _ => fun
  | [d1, d2] => { results := [.lit (.bool false)], args := [d1, d2] }
  | _ => none }
def FnExactIsValidBouquetWrongFalsely : Prop := fnExactIsValidBouquetRow.holds Try.pinned (OpenSpec.ofChange fnExactIsValidBouquetWrong)

/-- 'laws.FnExactMergeJoin': WHATEVER THE INPUT: true; the input reads as it did. -/
def fnExactMergeJoinSpec : ChangeSpec := { name := "fnExactMergeJoin", fn := fun _ => fun
  | [d1, d2, d3] => { results := [.lit (.bool true)], args := [d1, d2, d3] }
  | _ => none }
def fnExactMergeJoinRow : OpenClaim := { program := "ytodhiehjfgkijaa", sum := "09476c2d523c93ed9ce87940e8f52cbecd475bcbb35a8d90bb578eb8f2a890c5", func := "loop.example/g01921/laws.FnExactMergeJoin", spec := "fnExactMergeJoin", unfollowed := true, recurses := true, apart := false }
def FnExactMergeJoinSaid : Prop := fnExactMergeJoinRow.holds Try.pinned (OpenSpec.ofChange fnExactMergeJoinSpec)

/-- ITS FALSE NEIGHBOUR: 'it returns false'. Refute it at one input. -/
def fnExactMergeJoinWrong : ChangeSpec := { name := "fnExactMergeJoin", fn := fun _ => fun
  | [d1, d2, d3] => { results := [.lit (.bool false)], args := [d1, d2, d3] }
  | _ => none }
def FnExactMergeJoinWrongFalsely : Prop := fnExactMergeJoinRow.holds Try.pinned (OpenSpec.ofChange fnExactMergeJoinWrong)

/-- 'laws.FnAllowance': WHATEVER THE INPUT: true; the input reads as it did. -/
def fnAllowanceSpec : ChangeSpec := { name := "fnAllowance", fn := fun _ => fun
  | [d] => { results := [.lit (.bool true)], args := [d] }
  | _ => none }
def fnAllowanceRow : OpenClaim := { program := "ytodhiehjfgkijaa", sum := "09476c2d523c93ed9ce87940e8f52cbecd475bcbb35a8d90bb578eb8f2a890c5", func := "loop.example/g01921/laws.FnAllowance", spec := "fnAllowance", recurses := true, apart := false }
def FnAllowanceSaid : Prop := fnAllowanceRow.holds Try.pinned (OpenSpec.ofChange fnAllowanceSpec)

/-- ITS FALSE NEIGHBOUR: 'it returns false'. Refute it at one input. -/
def fnAllowanceWrong : ChangeSpec := { name := "fnAllowance", fn := fun _ => fun
  | [d] => { results := [.lit (.bool false)], args := [d] }
  | _ => none }
def FnAllowanceWrongFalsely : Prop := fnAllowanceRow.holds Try.pinned (OpenSpec.ofChange fnAllowanceWrong)

/-- 'laws.FnJoins': WHATEVER THE INPUT: true; the input reads as it did. -/
def fnJoinsSpec : ChangeSpec := { name := "fnJoins", fn := fun _ => fun
  | [d] => { results := [.lit (.bool true)], args := [d] }
  | _ => none }
def fnJoinsRow : OpenClaim := { program := "ytodhiehjfgkijaa", sum := "09476c2d523c93ed9ce87940e8f52cbecd475bcbb35a8d90bb578eb8f2a890c5", func := "loop.example/g01921/laws.FnJoins", spec := "fnJoins", unfollowed := true, recurses := true, apart := false }
def FnJoinsSaid : Prop := fnJoinsRow.holds Try.pinned (OpenSpec.ofChange fnJoinsSpec)

/-- ITS FALSE NEIGHBOUR: 'it returns false'. Refute it at one input. -/
def fnJoinsWrong : ChangeSpec := { name := "fnJoins", fn := fun _ => fun
  | [d] => { results := [.lit (.bool false)], args := [d] }
  | _ => none }
def FnJoinsWrongFalsely : Prop := fnJoinsRow.holds Try.pinned (OpenSpec.ofChange fnJoinsWrong)

/- THE SECOND FORM. 'bulk': how many values and letters a reading holds, each counted each time it is reached (what is shared counts as often as it is met; a slice's spare places count too). A statement '..UptoSaid' is the law's where the arguments, and the package variables that the reading takes, are together of bulk at most 1048576: NARROWER than '..Said'. Prove '..Said' where nothing that the law and all that it calls make is longer than what came in: it says more and counts as full. Else prove '..UptoSaid'. A law counts once. -/
mutual
def uptoBulk {H : Type} : DataW H → Nat
  | .lit (.string bytes) => bytes.length + 1
  | .lit _ => 1
  | .nil => 1
  | .ptr d => uptoBulk d + 1
  | .slice elems spare => uptoBulkAll elems + uptoBulkAll spare + 1
  | .agg parts => uptoBulkAll parts + 1
  | .iface _ d => uptoBulk d + 1
  | .map entries => uptoBulkEntries entries + 1
  | .held _ => 1
def uptoBulkAll {H : Type} : List (DataW H) → Nat
  | [] => 0
  | d :: r => uptoBulk d + uptoBulkAll r
def uptoBulkEntries {H : Type} : List (Lit × DataW H) → Nat
  | [] => 0
  | x :: r => uptoBulkEntry x + uptoBulkEntries r
def uptoBulkEntry {H : Type} : Lit × DataW H → Nat
  | (.string bytes, d) => bytes.length + uptoBulk d + 1
  | (_, d) => uptoBulk d + 1
 end
def uptoSmall : (H : Type) → List (DataW H) → Bool := fun _ ds => decide (uptoBulkAll ds ≤ 1048576)
def OpenSpec.upto (s : _root_.Go.ChangeSpec) : _root_.Go.OpenSpec := { _root_.Go.OpenSpec.ofChange s with cond := some uptoSmall }

/-- 'laws.FnBudgets', WHERE WHAT IT READS IS OF BULK AT MOST 1048576: true; the input reads as it did. -/
def fnBudgetsUptoRow : OpenClaim := { program := "ytodhiehjfgkijaa", sum := "09476c2d523c93ed9ce87940e8f52cbecd475bcbb35a8d90bb578eb8f2a890c5", func := "loop.example/g01921/laws.FnBudgets", spec := "fnBudgets", unfollowed := true, recurses := true, apart := false, narrowed := true }
def FnBudgetsUptoSaid : Prop := fnBudgetsUptoRow.holds Try.pinned (OpenSpec.upto fnBudgetsSpec)

/-- 'laws.FnLearning', WHERE WHAT IT READS IS OF BULK AT MOST 1048576: true; the input reads as it did. -/
def fnLearningUptoRow : OpenClaim := { program := "ytodhiehjfgkijaa", sum := "09476c2d523c93ed9ce87940e8f52cbecd475bcbb35a8d90bb578eb8f2a890c5", func := "loop.example/g01921/laws.FnLearning", spec := "fnLearning", apart := false, narrowed := true }
def FnLearningUptoSaid : Prop := fnLearningUptoRow.holds Try.pinned (OpenSpec.upto fnLearningSpec)

/-- 'laws.FnExactStepAllowance', WHERE WHAT IT READS IS OF BULK AT MOST 1048576: true; the input reads as it did. -/
def fnExactStepAllowanceUptoRow : OpenClaim := { program := "ytodhiehjfgkijaa", sum := "09476c2d523c93ed9ce87940e8f52cbecd475bcbb35a8d90bb578eb8f2a890c5", func := "loop.example/g01921/laws.FnExactStepAllowance", spec := "fnExactStepAllowance", apart := false, narrowed := true }
def FnExactStepAllowanceUptoSaid : Prop := fnExactStepAllowanceUptoRow.holds Try.pinned (OpenSpec.upto fnExactStepAllowanceSpec)

/-- 'laws.FnExactHashJoin', WHERE WHAT IT READS IS OF BULK AT MOST 1048576: true; the input reads as it did. -/
def fnExactHashJoinUptoRow : OpenClaim := { program := "ytodhiehjfgkijaa", sum := "09476c2d523c93ed9ce87940e8f52cbecd475bcbb35a8d90bb578eb8f2a890c5", func := "loop.example/g01921/laws.FnExactHashJoin", spec := "fnExactHashJoin", recurses := true, apart := false, narrowed := true }
def FnExactHashJoinUptoSaid : Prop := fnExactHashJoinUptoRow.holds Try.pinned (OpenSpec.upto fnExactHashJoinSpec)

/-- 'laws.FnExactNestedJoin', WHERE WHAT IT READS IS OF BULK AT MOST 1048576: true; the input reads as it did. -/
def fnExactNestedJoinUptoRow : OpenClaim := { program := "ytodhiehjfgkijaa", sum := "09476c2d523c93ed9ce87940e8f52cbecd475bcbb35a8d90bb578eb8f2a890c5", func := "loop.example/g01921/laws.FnExactNestedJoin", spec := "fnExactNestedJoin", recurses := true, apart := false, narrowed := true }
def FnExactNestedJoinUptoSaid : Prop := fnExactNestedJoinUptoRow.holds Try.pinned (OpenSpec.upto fnExactNestedJoinSpec)

/-- 'laws.FnExactIsValidBouquet', WHERE WHAT IT READS IS OF BULK AT MOST 1048576: true; the input reads as it did. -/
def fnExactIsValidBouquetUptoRow : OpenClaim := { program := "ytodhiehjfgkijaa", sum := "09476c2d523c93ed9ce87940e8f52cbecd475bcbb35a8d90bb578eb8f2a890c5", func := "loop.example/g01921/laws.FnExactIsValidBouquet", spec := "fnExactIsValidBouquet", apart := false, narrowed := true }
def FnExactIsValidBouquetUptoSaid : Prop := fnExactIsValidBouquetUptoRow.holds Try.pinned (OpenSpec.upto fnExactIsValidBouquetSpec)

/-- 'laws.FnExactMergeJoin', WHERE WHAT IT READS IS OF BULK AT MOST 1048576: true; the input reads as it did. -/
def fnExactMergeJoinUptoRow : OpenClaim := { program := "ytodhiehjfgkijaa", sum := "09476c2d523c93ed9ce87940e8f52cbecd475bcbb35a8d90bb578eb8f2a890c5", func := "loop.example/g01921/laws.FnExactMergeJoin", spec := "fnExactMergeJoin", unfollowed := true, recurses := true, apart := false, narrowed := true }
def FnExactMergeJoinUptoSaid : Prop := fnExactMergeJoinUptoRow.holds Try.pinned (OpenSpec.upto fnExactMergeJoinSpec)

/-- 'laws.FnAllowance', WHERE WHAT IT READS IS OF BULK AT MOST 1048576: true; the input reads as it did. -/
def fnAllowanceUptoRow : OpenClaim := { program := "ytodhiehjfgkijaa", sum := "09476c2d523c93ed9ce87940e8f52cbecd475bcbb35a8d90bb578eb8f2a890c5", func := "loop.example/g01921/laws.FnAllowance", spec := "fnAllowance", recurses := true, apart := false, narrowed := true }
def FnAllowanceUptoSaid : Prop := fnAllowanceUptoRow.holds Try.pinned (OpenSpec.upto fnAllowanceSpec)

/-- 'laws.FnJoins', WHERE WHAT IT READS IS OF BULK AT MOST 1048576: true; the input reads as it did. -/
def fnJoinsUptoRow : OpenClaim := { program := "ytodhiehjfgkijaa", sum := "09476c2d523c93ed9ce87940e8f52cbecd475bcbb35a8d90bb578eb8f2a890c5", func := "loop.example/g01921/laws.FnJoins", spec := "fnJoins", unfollowed := true, recurses := true, apart := false, narrowed := true }
def FnJoinsUptoSaid : Prop := fnJoinsUptoRow.holds Try.pinned (OpenSpec.upto fnJoinsSpec)

end Rows
end Go.Proofs.Ytodhiehjfgkijaa
