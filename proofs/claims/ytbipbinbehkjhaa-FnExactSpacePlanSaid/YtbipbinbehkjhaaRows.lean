/-
  No cell of these rows narrows 'for every input' (looked for: loops, veiled, ifaces, maps, wideKeys, modest, calm, conditions, laid).
  DERIVED. THE GIVEN ROWS OF THIS SEAT. 7 by the template 'for every input the law returns true; each argument reads behind the call as it read before'; 0 by the template 'total and deterministic' (their statements: YtbipbinbehkjhaaTotals.lean).
  GIVEN WITH THE SEED: the statements are not yours to turn. If you find one false, say at which input.
  Laid BY PROGRAM, IN A SANDBOX (cutbox-rows.mjs): the forced cells as the released guide's own fill.sh prints them over the translation 9a0f64ef13432119… (all of the seat's roots in one cut). By AI agents, Wed Nov 11 2026. No macro, syntax, notation, axiom, sorry.
-/
import Derived.Test.YtbipbinbehkjhaaChecked
import GoSem.Claim
import GoSem.ClaimJoined
import GoSem.ClaimMapViews
import Derived.JoinedTies
import Derived.KernelRfl
namespace Go.Proofs.Ytbipbinbehkjhaa
/- THE CELL 'sum', in the pinned program and in every row, IS THE sha256 OF THE DUMP (.gsa) THAT YtbipbinbehkjhaaProg.lean LOADS. Nothing in Lean hashes anything: it is a label: what it is worth is what the hold of that sum in a sandbox is worth. -/
noncomputable def Try.pinned : Pinned := { name := "ytbipbinbehkjhaa", sum := "9a0f64ef13432119354de766cc44718b9d79df15d25b4dda9c4ea77973e07c51", checked := Try.checked }
namespace Rows
def none {H : Type} : Left H := { results := [], args := [] }

/-- 'laws.FnBudgets': WHATEVER THE INPUT: true; the input reads as it did. -/
def fnBudgetsSpec : ChangeSpec := { name := "fnBudgets", fn := fun _ => fun
  | [d] => { results := [.lit (.bool true)], args := [d] }
  | _ => none }
def fnBudgetsRow : OpenClaim := { program := "ytbipbinbehkjhaa", sum := "9a0f64ef13432119354de766cc44718b9d79df15d25b4dda9c4ea77973e07c51", func := "loop.example/g01921/laws.FnBudgets", spec := "fnBudgets", unfollowed := true, recurses := true, apart := false }
def FnBudgetsSaid : Prop := fnBudgetsRow.holds Try.pinned (OpenSpec.ofChange fnBudgetsSpec)

/-- ITS FALSE NEIGHBOUR: 'it returns false'. Refute it at one input. -/
def fnBudgetsWrong : ChangeSpec := { name := "fnBudgets", fn := fun _ => fun
  | [d] => { results := [.lit (.bool false)], args := [d] }
  | _ => none }
def FnBudgetsWrongFalsely : Prop := fnBudgetsRow.holds Try.pinned (OpenSpec.ofChange fnBudgetsWrong)

/-- 'laws.FnExactApplyObservation': WHATEVER THE INPUT: true; the input reads as it did. -/
def fnExactApplyObservationSpec : ChangeSpec := { name := "fnExactApplyObservation", fn := fun _ => fun
  | [d1, d2] => { results := [.lit (.bool true)], args := [d1, d2] }
  | _ => none }
def fnExactApplyObservationRow : OpenClaim := { program := "ytbipbinbehkjhaa", sum := "9a0f64ef13432119354de766cc44718b9d79df15d25b4dda9c4ea77973e07c51", func := "loop.example/g01921/laws.FnExactApplyObservation", spec := "fnExactApplyObservation", apart := false }
def FnExactApplyObservationSaid : Prop := fnExactApplyObservationRow.holds Try.pinned (OpenSpec.ofChange fnExactApplyObservationSpec)

/-- ITS FALSE NEIGHBOUR: 'it returns false'. Refute it at one input. -/
def fnExactApplyObservationWrong : ChangeSpec := { name := "fnExactApplyObservation", fn := fun _ => fun
  | [d1, d2] => { results := [.lit (.bool false)], args := [d1, d2] }
  | _ => none }
def FnExactApplyObservationWrongFalsely : Prop := fnExactApplyObservationRow.holds Try.pinned (OpenSpec.ofChange fnExactApplyObservationWrong)

/-- 'laws.FnLearning': WHATEVER THE INPUT: true; the input reads as it did. -/
def fnLearningSpec : ChangeSpec := { name := "fnLearning", fn := fun _ => fun
  | [d] => { results := [.lit (.bool true)], args := [d] }
  | _ => none }
def fnLearningRow : OpenClaim := { program := "ytbipbinbehkjhaa", sum := "9a0f64ef13432119354de766cc44718b9d79df15d25b4dda9c4ea77973e07c51", func := "loop.example/g01921/laws.FnLearning", spec := "fnLearning", apart := false }
def FnLearningSaid : Prop := fnLearningRow.holds Try.pinned (OpenSpec.ofChange fnLearningSpec)

/-- ITS FALSE NEIGHBOUR: 'it returns false'. Refute it at one input. -/
def fnLearningWrong : ChangeSpec := { name := "fnLearning", fn := fun _ => fun
  | [d] => { results := [.lit (.bool false)], args := [d] }
  | _ => none }
def FnLearningWrongFalsely : Prop := fnLearningRow.holds Try.pinned (OpenSpec.ofChange fnLearningWrong)

/-- 'laws.FnExactStepAllowance': WHATEVER THE INPUT: true; the input reads as it did. -/
def fnExactStepAllowanceSpec : ChangeSpec := { name := "fnExactStepAllowance", fn := fun _ => fun
  | [d1, d2, d3, d4, d5] => { results := [.lit (.bool true)], args := [d1, d2, d3, d4, d5] }
  | _ => none }
def fnExactStepAllowanceRow : OpenClaim := { program := "ytbipbinbehkjhaa", sum := "9a0f64ef13432119354de766cc44718b9d79df15d25b4dda9c4ea77973e07c51", func := "loop.example/g01921/laws.FnExactStepAllowance", spec := "fnExactStepAllowance", apart := false }
def FnExactStepAllowanceSaid : Prop := fnExactStepAllowanceRow.holds Try.pinned (OpenSpec.ofChange fnExactStepAllowanceSpec)

/-- ITS FALSE NEIGHBOUR: 'it returns false'. Refute it at one input. -/
def fnExactStepAllowanceWrong : ChangeSpec := { name := "fnExactStepAllowance", fn := fun _ => fun
  | [d1, d2, d3, d4, d5] => { results := [.lit (.bool false)], args := [d1, d2, d3, d4, d5] }
  | _ => none }
def FnExactStepAllowanceWrongFalsely : Prop := fnExactStepAllowanceRow.holds Try.pinned (OpenSpec.ofChange fnExactStepAllowanceWrong)

/-- 'laws.FnExactIsMonotoneSpace': WHATEVER THE INPUT: true; the input reads as it did. -/
def fnExactIsMonotoneSpaceSpec : ChangeSpec := { name := "fnExactIsMonotoneSpace", fn := fun _ => fun
  | [d] => { results := [.lit (.bool true)], args := [d] }
  | _ => none }
def fnExactIsMonotoneSpaceRow : OpenClaim := { program := "ytbipbinbehkjhaa", sum := "9a0f64ef13432119354de766cc44718b9d79df15d25b4dda9c4ea77973e07c51", func := "loop.example/g01921/laws.FnExactIsMonotoneSpace", spec := "fnExactIsMonotoneSpace", apart := false }
def FnExactIsMonotoneSpaceSaid : Prop := fnExactIsMonotoneSpaceRow.holds Try.pinned (OpenSpec.ofChange fnExactIsMonotoneSpaceSpec)

/-- ITS FALSE NEIGHBOUR: 'it returns false'. Refute it at one input. -/
def fnExactIsMonotoneSpaceWrong : ChangeSpec := { name := "fnExactIsMonotoneSpace", fn := fun _ => fun
  | [d] => { results := [.lit (.bool false)], args := [d] }
  | _ => none }
def FnExactIsMonotoneSpaceWrongFalsely : Prop := fnExactIsMonotoneSpaceRow.holds Try.pinned (OpenSpec.ofChange fnExactIsMonotoneSpaceWrong)

/-- 'laws.FnExactSpacePlan': WHATEVER THE INPUT: true; the input reads as it did. -/
def fnExactSpacePlanSpec : ChangeSpec := { name := "fnExactSpacePlan", fn := fun _ => fun
  | [d1, d2] => { results := [.lit (.bool true)], args := [d1, d2] }
  | _ => none }
def fnExactSpacePlanRow : OpenClaim := { program := "ytbipbinbehkjhaa", sum := "9a0f64ef13432119354de766cc44718b9d79df15d25b4dda9c4ea77973e07c51", func := "loop.example/g01921/laws.FnExactSpacePlan", spec := "fnExactSpacePlan", apart := false }
def FnExactSpacePlanSaid : Prop := fnExactSpacePlanRow.holds Try.pinned (OpenSpec.ofChange fnExactSpacePlanSpec)

/-- ITS FALSE NEIGHBOUR: 'it returns false'. Refute it at one input. -/
def fnExactSpacePlanWrong : ChangeSpec := { name := "fnExactSpacePlan", fn := fun _ => fun
  | [d1, d2] => { results := [.lit (.bool false)], args := [d1, d2] }
  | _ => none }
def FnExactSpacePlanWrongFalsely : Prop := fnExactSpacePlanRow.holds Try.pinned (OpenSpec.ofChange fnExactSpacePlanWrong)

/-- 'laws.FnExactFrontier': WHATEVER THE INPUT: true; the input reads as it did. -/
def fnExactFrontierSpec : ChangeSpec := { name := "fnExactFrontier", fn := fun _ => fun
  | [d1, d2] => { results := [.lit (.bool true)], args := [d1, d2] }
  | _ => none }
def fnExactFrontierRow : OpenClaim := { program := "ytbipbinbehkjhaa", sum := "9a0f64ef13432119354de766cc44718b9d79df15d25b4dda9c4ea77973e07c51", func := "loop.example/g01921/laws.FnExactFrontier", spec := "fnExactFrontier", unfollowed := true, recurses := true, apart := false }
def FnExactFrontierSaid : Prop := fnExactFrontierRow.holds Try.pinned (OpenSpec.ofChange fnExactFrontierSpec)

/-- ITS FALSE NEIGHBOUR: 'it returns false'. Refute it at one input. -/
def fnExactFrontierWrong : ChangeSpec := { name := "fnExactFrontier", fn := fun _ => fun
  | [d1, d2] => { results := [.lit (.bool false)], args := [d1, d2] }
  | _ => none }
def FnExactFrontierWrongFalsely : Prop := fnExactFrontierRow.holds Try.pinned (OpenSpec.ofChange fnExactFrontierWrong)

/- THE SECOND FORM. 'bulk': how many values and letters a reading holds, each counted each time it is reached (what is shared counts as often as it is met; a slice's spare places count too). A statement '..UptoSaid' is the law's where the arguments, and the package variables that the reading takes, are together of bulk at most 1048576: NARROWER than '..Said'. Prove '..Said' where nothing that the law and all that it calls make is longer than what came in: it says more and counts as full. Else prove '..UptoSaid'. A law counts once. -/
mutual
def uptoBulk {H : Type} : DataW H → Nat
  | .lit (.string bytes) => bytes.length + 1
  | .lit _ => 1
  | .nil => 1
  | .ptr d => uptoBulk d + 1
  | .slice elems spare => uptoBulkAll elems + uptoBulkAll spare + 1
  | .agg parts => uptoBulkAll parts + 1
  | .iface _ d => uptoBulk d + 1
  | .map entries => uptoBulkEntries entries + 1
  | .held _ => 1
def uptoBulkAll {H : Type} : List (DataW H) → Nat
  | [] => 0
  | d :: r => uptoBulk d + uptoBulkAll r
def uptoBulkEntries {H : Type} : List (Lit × DataW H) → Nat
  | [] => 0
  | x :: r => uptoBulkEntry x + uptoBulkEntries r
def uptoBulkEntry {H : Type} : Lit × DataW H → Nat
  | (.string bytes, d) => bytes.length + uptoBulk d + 1
  | (_, d) => uptoBulk d + 1
 end
def uptoSmall : (H : Type) → List (DataW H) → Bool := fun _ ds => decide (uptoBulkAll ds ≤ 1048576)
def OpenSpec.upto (s : _root_.Go.ChangeSpec) : _root_.Go.OpenSpec := { _root_.Go.OpenSpec.ofChange s with cond := some uptoSmall }

/-- 'laws.FnBudgets', WHERE WHAT IT READS IS OF BULK AT MOST 1048576: true; the input reads as it did. -/
def fnBudgetsUptoRow : OpenClaim := { program := "ytbipbinbehkjhaa", sum := "9a0f64ef13432119354de766cc44718b9d79df15d25b4dda9c4ea77973e07c51", func := "loop.example/g01921/laws.FnBudgets", spec := "fnBudgets", unfollowed := true, recurses := true, apart := false, narrowed := true }
def FnBudgetsUptoSaid : Prop := fnBudgetsUptoRow.holds Try.pinned (OpenSpec.upto fnBudgetsSpec)

/-- 'laws.FnExactApplyObservation', WHERE WHAT IT READS IS OF BULK AT MOST 1048576: true; the input reads as it did. -/
def fnExactApplyObservationUptoRow : OpenClaim := { program := "ytbipbinbehkjhaa", sum := "9a0f64ef13432119354de766cc44718b9d79df15d25b4dda9c4ea77973e07c51", func := "loop.example/g01921/laws.FnExactApplyObservation", spec := "fnExactApplyObservation", apart := false, narrowed := true }
def FnExactApplyObservationUptoSaid : Prop := fnExactApplyObservationUptoRow.holds Try.pinned (OpenSpec.upto fnExactApplyObservationSpec)

/-- 'laws.FnLearning', WHERE WHAT IT READS IS OF BULK AT MOST 1048576: true; the input reads as it did. -/
def fnLearningUptoRow : OpenClaim := { program := "ytbipbinbehkjhaa", sum := "9a0f64ef13432119354de766cc44718b9d79df15d25b4dda9c4ea77973e07c51", func := "loop.example/g01921/laws.FnLearning", spec := "fnLearning", apart := false, narrowed := true }
def FnLearningUptoSaid : Prop := fnLearningUptoRow.holds Try.pinned (OpenSpec.upto fnLearningSpec)

/-- 'laws.FnExactStepAllowance', WHERE WHAT IT READS IS OF BULK AT MOST 1048576: true; the input reads as it did. -/
def fnExactStepAllowanceUptoRow : OpenClaim := { program := "ytbipbinbehkjhaa", sum := "9a0f64ef13432119354de766cc44718b9d79df15d25b4dda9c4ea77973e07c51", func := "loop.example/g01921/laws.FnExactStepAllowance", spec := "fnExactStepAllowance", apart := false, narrowed := true }
def FnExactStepAllowanceUptoSaid : Prop := fnExactStepAllowanceUptoRow.holds Try.pinned (OpenSpec.upto fnExactStepAllowanceSpec)

/-- 'laws.FnExactIsMonotoneSpace', WHERE WHAT IT READS IS OF BULK AT MOST 1048576: true; the input reads as it did. -/
def fnExactIsMonotoneSpaceUptoRow : OpenClaim := { program := "ytbipbinbehkjhaa", sum := "9a0f64ef13432119354de766cc44718b9d79df15d25b4dda9c4ea77973e07c51", func := "loop.example/g01921/laws.FnExactIsMonotoneSpace", spec := "fnExactIsMonotoneSpace", apart := false, narrowed := true }
def FnExactIsMonotoneSpaceUptoSaid : Prop := fnExactIsMonotoneSpaceUptoRow.holds Try.pinned (OpenSpec.upto fnExactIsMonotoneSpaceSpec)

/-- 'laws.FnExactSpacePlan', WHERE WHAT IT READS IS OF BULK AT MOST 1048576: true; the input reads as it did. -/
def fnExactSpacePlanUptoRow : OpenClaim := { program := "ytbipbinbehkjhaa", sum := "9a0f64ef13432119354de766cc44718b9d79df15d25b4dda9c4ea77973e07c51", func := "loop.example/g01921/laws.FnExactSpacePlan", spec := "fnExactSpacePlan", apart := false, narrowed := true }
def FnExactSpacePlanUptoSaid : Prop := fnExactSpacePlanUptoRow.holds Try.pinned (OpenSpec.upto fnExactSpacePlanSpec)

/-- 'laws.FnExactFrontier', WHERE WHAT IT READS IS OF BULK AT MOST 1048576: true; the input reads as it did. -/
def fnExactFrontierUptoRow : OpenClaim := { program := "ytbipbinbehkjhaa", sum := "9a0f64ef13432119354de766cc44718b9d79df15d25b4dda9c4ea77973e07c51", func := "loop.example/g01921/laws.FnExactFrontier", spec := "fnExactFrontier", unfollowed := true, recurses := true, apart := false, narrowed := true }
def FnExactFrontierUptoSaid : Prop := fnExactFrontierUptoRow.holds Try.pinned (OpenSpec.upto fnExactFrontierSpec)

end Rows
end Go.Proofs.Ytbipbinbehkjhaa
