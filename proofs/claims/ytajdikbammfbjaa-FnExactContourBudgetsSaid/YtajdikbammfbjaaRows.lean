/-
  No cell of these rows narrows 'for every input' (looked for: loops, veiled, ifaces, maps, wideKeys, modest, calm, conditions, laid).
  DERIVED. THE GIVEN ROWS OF THIS SEAT. 12 by the template 'for every input the law returns true; each argument reads behind the call as it read before'; 0 by the template 'total and deterministic' (their statements: YtajdikbammfbjaaTotals.lean).
  GIVEN WITH THE SEED: the statements are not yours to turn. If you find one false, say at which input.
  Laid BY PROGRAM, IN A SANDBOX (cutbox-rows.mjs): the forced cells as the released guide's own fill.sh prints them over the translation 7707843f7bfb1af3… (all of the seat's roots in one cut). By AI agents, Wed Nov 11 2026. No macro, syntax, notation, axiom, sorry.
-/
import Derived.Test.YtajdikbammfbjaaChecked
import GoSem.Claim
import GoSem.ClaimJoined
import GoSem.ClaimMapViews
import Derived.JoinedTies
import Derived.KernelRfl
namespace Go.Proofs.Ytajdikbammfbjaa
/- THE CELL 'sum', in the pinned program and in every row, IS THE sha256 OF THE DUMP (.gsa) THAT YtajdikbammfbjaaProg.lean LOADS. Nothing in Lean hashes anything: it is a label: what it is worth is what the hold of that sum in a sandbox is worth. -/
noncomputable def Try.pinned : Pinned := { name := "ytajdikbammfbjaa", sum := "7707843f7bfb1af30ab89e9b2555a4096ebe0b5751e478384ab695c99dc43ba2", checked := Try.checked }
namespace Rows
def none {H : Type} : Left H := { results := [], args := [] }

/-- 'laws.FnExactSlackBudget': WHATEVER THE INPUT: true; the input reads as it did. -/
def fnExactSlackBudgetSpec : ChangeSpec := { name := "fnExactSlackBudget", fn := fun _ => fun
  | [d1, d2] => { results := [.lit (.bool true)], args := [d1, d2] }
  | _ => none }
def fnExactSlackBudgetRow : OpenClaim := { program := "ytajdikbammfbjaa", sum := "7707843f7bfb1af30ab89e9b2555a4096ebe0b5751e478384ab695c99dc43ba2", func := "loop.example/g01921/laws.FnExactSlackBudget", spec := "fnExactSlackBudget", apart := false }
def FnExactSlackBudgetSaid : Prop := fnExactSlackBudgetRow.holds Try.pinned (OpenSpec.ofChange fnExactSlackBudgetSpec)

/-- ITS FALSE NEIGHBOUR: 'it returns false'. Refute it at one input. -/
def fnExactSlackBudgetWrong : ChangeSpec := { name := "fnExactSlackBudget", fn := fun _ => fun
  | [d1, d2] => { results := [.lit (.bool false)], args := [d1, d2] }
  | _ => none }
def FnExactSlackBudgetWrongFalsely : Prop := fnExactSlackBudgetRow.holds Try.pinned (OpenSpec.ofChange fnExactSlackBudgetWrong)

/-- 'laws.FnExactContourOf': WHATEVER THE INPUT: true; the input reads as it did. -/
def fnExactContourOfSpec : ChangeSpec := { name := "fnExactContourOf", fn := fun _ => fun
  | [d1, d2] => { results := [.lit (.bool true)], args := [d1, d2] }
  | _ => none }
def fnExactContourOfRow : OpenClaim := { program := "ytajdikbammfbjaa", sum := "7707843f7bfb1af30ab89e9b2555a4096ebe0b5751e478384ab695c99dc43ba2", func := "loop.example/g01921/laws.FnExactContourOf", spec := "fnExactContourOf", unfollowed := true, recurses := true, apart := false }
def FnExactContourOfSaid : Prop := fnExactContourOfRow.holds Try.pinned (OpenSpec.ofChange fnExactContourOfSpec)

/-- ITS FALSE NEIGHBOUR: 'it returns false'. Refute it at one input. -/
def fnExactContourOfWrong : ChangeSpec := { name := "fnExactContourOf", fn := fun _ => fun
  | [d1, d2] => { results := [.lit (.bool false)], args := [d1, d2] }
  | _ => none }
def FnExactContourOfWrongFalsely : Prop := fnExactContourOfRow.holds Try.pinned (OpenSpec.ofChange fnExactContourOfWrong)

/-- 'laws.FnExactIsWithinFactor': WHATEVER THE INPUT: true; the input reads as it did. -/
def fnExactIsWithinFactorSpec : ChangeSpec := { name := "fnExactIsWithinFactor", fn := fun _ => fun
  | [d1, d2, d3] => { results := [.lit (.bool true)], args := [d1, d2, d3] }
  | _ => none }
def fnExactIsWithinFactorRow : OpenClaim := { program := "ytajdikbammfbjaa", sum := "7707843f7bfb1af30ab89e9b2555a4096ebe0b5751e478384ab695c99dc43ba2", func := "loop.example/g01921/laws.FnExactIsWithinFactor", spec := "fnExactIsWithinFactor", apart := false }
def FnExactIsWithinFactorSaid : Prop := fnExactIsWithinFactorRow.holds Try.pinned (OpenSpec.ofChange fnExactIsWithinFactorSpec)

/-- ITS FALSE NEIGHBOUR: 'it returns false'. Refute it at one input. -/
def fnExactIsWithinFactorWrong : ChangeSpec := { name := "fnExactIsWithinFactor", fn := fun _ => fun
  | [d1, d2, d3] => { results := [.lit (.bool false)], args := [d1, d2, d3] }
  | _ => none }
def FnExactIsWithinFactorWrongFalsely : Prop := fnExactIsWithinFactorRow.holds Try.pinned (OpenSpec.ofChange fnExactIsWithinFactorWrong)

/-- 'laws.FnExactContourBudgets': WHATEVER THE INPUT: true; the input reads as it did. -/
def fnExactContourBudgetsSpec : ChangeSpec := { name := "fnExactContourBudgets", fn := fun _ => fun
  | [d1, d2, d3] => { results := [.lit (.bool true)], args := [d1, d2, d3] }
  | _ => none }
def fnExactContourBudgetsRow : OpenClaim := { program := "ytajdikbammfbjaa", sum := "7707843f7bfb1af30ab89e9b2555a4096ebe0b5751e478384ab695c99dc43ba2", func := "loop.example/g01921/laws.FnExactContourBudgets", spec := "fnExactContourBudgets", apart := false }
def FnExactContourBudgetsSaid : Prop := fnExactContourBudgetsRow.holds Try.pinned (OpenSpec.ofChange fnExactContourBudgetsSpec)

/-- ITS FALSE NEIGHBOUR: 'it returns false'. Refute it at one input. -/
def fnExactContourBudgetsWrong : ChangeSpec := { name := "fnExactContourBudgets", fn := fun _ => fun
  | [d1, d2, d3] => { results := [.lit (.bool false)], args := [d1, d2, d3] }
  | _ => none }
def FnExactContourBudgetsWrongFalsely : Prop := fnExactContourBudgetsRow.holds Try.pinned (OpenSpec.ofChange fnExactContourBudgetsWrong)

/-- 'laws.FnExactObservationHolds': WHATEVER THE INPUT: true; the input reads as it did. -/
def fnExactObservationHoldsSpec : ChangeSpec := { name := "fnExactObservationHolds", fn := fun _ => fun
  | [d1, d2] => { results := [.lit (.bool true)], args := [d1, d2] }
  | _ => none }
def fnExactObservationHoldsRow : OpenClaim := { program := "ytajdikbammfbjaa", sum := "7707843f7bfb1af30ab89e9b2555a4096ebe0b5751e478384ab695c99dc43ba2", func := "loop.example/g01921/laws.FnExactObservationHolds", spec := "fnExactObservationHolds", apart := false }
def FnExactObservationHoldsSaid : Prop := fnExactObservationHoldsRow.holds Try.pinned (OpenSpec.ofChange fnExactObservationHoldsSpec)

/-- ITS FALSE NEIGHBOUR: 'it returns false'. Refute it at one input. -/
def fnExactObservationHoldsWrong : ChangeSpec := { name := "fnExactObservationHolds", fn := fun _ => fun
  | [d1, d2] => { results := [.lit (.bool false)], args := [d1, d2] }
  | _ => none }
def FnExactObservationHoldsWrongFalsely : Prop := fnExactObservationHoldsRow.holds Try.pinned (OpenSpec.ofChange fnExactObservationHoldsWrong)

/-- 'laws.FnExactTotalOfNotes': WHATEVER THE INPUT: true; the input reads as it did. -/
def fnExactTotalOfNotesSpec : ChangeSpec := { name := "fnExactTotalOfNotes", fn := fun _ => fun
  | [d] => { results := [.lit (.bool true)], args := [d] }
  | _ => none }
def fnExactTotalOfNotesRow : OpenClaim := { program := "ytajdikbammfbjaa", sum := "7707843f7bfb1af30ab89e9b2555a4096ebe0b5751e478384ab695c99dc43ba2", func := "loop.example/g01921/laws.FnExactTotalOfNotes", spec := "fnExactTotalOfNotes", apart := false }
def FnExactTotalOfNotesSaid : Prop := fnExactTotalOfNotesRow.holds Try.pinned (OpenSpec.ofChange fnExactTotalOfNotesSpec)

/-- ITS FALSE NEIGHBOUR: 'it returns false'. Refute it at one input. -/
def fnExactTotalOfNotesWrong : ChangeSpec := { name := "fnExactTotalOfNotes", fn := fun _ => fun
  | [d] => { results := [.lit (.bool false)], args := [d] }
  | _ => none }
def FnExactTotalOfNotesWrongFalsely : Prop := fnExactTotalOfNotesRow.holds Try.pinned (OpenSpec.ofChange fnExactTotalOfNotesWrong)

/-- 'laws.FnExactMeasuredRatio': WHATEVER THE INPUT: true; the input reads as it did. -/
def fnExactMeasuredRatioSpec : ChangeSpec := { name := "fnExactMeasuredRatio", fn := fun _ => fun
  | [d1, d2] => { results := [.lit (.bool true)], args := [d1, d2] }
  | _ => none }
def fnExactMeasuredRatioRow : OpenClaim := { program := "ytajdikbammfbjaa", sum := "7707843f7bfb1af30ab89e9b2555a4096ebe0b5751e478384ab695c99dc43ba2", func := "loop.example/g01921/laws.FnExactMeasuredRatio", spec := "fnExactMeasuredRatio", apart := false }
def FnExactMeasuredRatioSaid : Prop := fnExactMeasuredRatioRow.holds Try.pinned (OpenSpec.ofChange fnExactMeasuredRatioSpec)

/-- ITS FALSE NEIGHBOUR: 'it returns false'. Refute it at one input. -/
def fnExactMeasuredRatioWrong : ChangeSpec := { name := "fnExactMeasuredRatio", fn := fun _ => fun
  | [d1, d2] => { results := [.lit (.bool false)], args := [d1, d2] }
  | _ => none }
def FnExactMeasuredRatioWrongFalsely : Prop := fnExactMeasuredRatioRow.holds Try.pinned (OpenSpec.ofChange fnExactMeasuredRatioWrong)

/-- 'laws.FnBudgets': WHATEVER THE INPUT: true; the input reads as it did. -/
def fnBudgetsSpec : ChangeSpec := { name := "fnBudgets", fn := fun _ => fun
  | [d] => { results := [.lit (.bool true)], args := [d] }
  | _ => none }
def fnBudgetsRow : OpenClaim := { program := "ytajdikbammfbjaa", sum := "7707843f7bfb1af30ab89e9b2555a4096ebe0b5751e478384ab695c99dc43ba2", func := "loop.example/g01921/laws.FnBudgets", spec := "fnBudgets", unfollowed := true, recurses := true, apart := false }
def FnBudgetsSaid : Prop := fnBudgetsRow.holds Try.pinned (OpenSpec.ofChange fnBudgetsSpec)

/-- ITS FALSE NEIGHBOUR: 'it returns false'. Refute it at one input. -/
def fnBudgetsWrong : ChangeSpec := { name := "fnBudgets", fn := fun _ => fun
  | [d] => { results := [.lit (.bool false)], args := [d] }
  | _ => none }
def FnBudgetsWrongFalsely : Prop := fnBudgetsRow.holds Try.pinned (OpenSpec.ofChange fnBudgetsWrong)

/-- 'laws.FnExactApplyObservation': WHATEVER THE INPUT: true; the input reads as it did. -/
def fnExactApplyObservationSpec : ChangeSpec := { name := "fnExactApplyObservation", fn := fun _ => fun
  | [d1, d2] => { results := [.lit (.bool true)], args := [d1, d2] }
  | _ => none }
def fnExactApplyObservationRow : OpenClaim := { program := "ytajdikbammfbjaa", sum := "7707843f7bfb1af30ab89e9b2555a4096ebe0b5751e478384ab695c99dc43ba2", func := "loop.example/g01921/laws.FnExactApplyObservation", spec := "fnExactApplyObservation", apart := false }
def FnExactApplyObservationSaid : Prop := fnExactApplyObservationRow.holds Try.pinned (OpenSpec.ofChange fnExactApplyObservationSpec)

/-- ITS FALSE NEIGHBOUR: 'it returns false'. Refute it at one input. -/
def fnExactApplyObservationWrong : ChangeSpec := { name := "fnExactApplyObservation", fn := fun _ => fun
  | [d1, d2] => { results := [.lit (.bool false)], args := [d1, d2] }
  | _ => none }
def FnExactApplyObservationWrongFalsely : Prop := fnExactApplyObservationRow.holds Try.pinned (OpenSpec.ofChange fnExactApplyObservationWrong)

/-- 'laws.FnExactAbortedRuns': WHATEVER THE INPUT: true; the input reads as it did. -/
def fnExactAbortedRunsSpec : ChangeSpec := { name := "fnExactAbortedRuns", fn := fun _ => fun
  | [d] => { results := [.lit (.bool true)], args := [d] }
  | _ => none }
def fnExactAbortedRunsRow : OpenClaim := { program := "ytajdikbammfbjaa", sum := "7707843f7bfb1af30ab89e9b2555a4096ebe0b5751e478384ab695c99dc43ba2", func := "loop.example/g01921/laws.FnExactAbortedRuns", spec := "fnExactAbortedRuns", apart := false }
def FnExactAbortedRunsSaid : Prop := fnExactAbortedRunsRow.holds Try.pinned (OpenSpec.ofChange fnExactAbortedRunsSpec)

/-- ITS FALSE NEIGHBOUR: 'it returns false'. Refute it at one input. -/
def fnExactAbortedRunsWrong : ChangeSpec := { name := "fnExactAbortedRuns", fn := fun _ => fun
  | [d] => { results := [.lit (.bool false)], args := [d] }
  | _ => none }
def FnExactAbortedRunsWrongFalsely : Prop := fnExactAbortedRunsRow.holds Try.pinned (OpenSpec.ofChange fnExactAbortedRunsWrong)

/-- 'laws.FnExactEqualRuns': WHATEVER THE INPUT: true; the input reads as it did. -/
def fnExactEqualRunsSpec : ChangeSpec := { name := "fnExactEqualRuns", fn := fun _ => fun
  | [d1, d2] => { results := [.lit (.bool true)], args := [d1, d2] }
  | _ => none }
def fnExactEqualRunsRow : OpenClaim := { program := "ytajdikbammfbjaa", sum := "7707843f7bfb1af30ab89e9b2555a4096ebe0b5751e478384ab695c99dc43ba2", func := "loop.example/g01921/laws.FnExactEqualRuns", spec := "fnExactEqualRuns", unfollowed := true, recurses := true, apart := false }
def FnExactEqualRunsSaid : Prop := fnExactEqualRunsRow.holds Try.pinned (OpenSpec.ofChange fnExactEqualRunsSpec)

/-- ITS FALSE NEIGHBOUR: 'it returns false'. Refute it at one input. -/
def fnExactEqualRunsWrong : ChangeSpec := { name := "fnExactEqualRuns", fn := fun _ => fun
  | [d1, d2] => { results := [.lit (.bool false)], args := [d1, d2] }
  | _ => none }
def FnExactEqualRunsWrongFalsely : Prop := fnExactEqualRunsRow.holds Try.pinned (OpenSpec.ofChange fnExactEqualRunsWrong)

/-- 'laws.FnExactBouquetDensity': WHATEVER THE INPUT: true; the input reads as it did. -/
def fnExactBouquetDensitySpec : ChangeSpec := { name := "fnExactBouquetDensity", fn := fun _ => fun
  | [d] => { results := [.lit (.bool true)], args := [d] }
  | _ => none }
def fnExactBouquetDensityRow : OpenClaim := { program := "ytajdikbammfbjaa", sum := "7707843f7bfb1af30ab89e9b2555a4096ebe0b5751e478384ab695c99dc43ba2", func := "loop.example/g01921/laws.FnExactBouquetDensity", spec := "fnExactBouquetDensity", apart := false }
def FnExactBouquetDensitySaid : Prop := fnExactBouquetDensityRow.holds Try.pinned (OpenSpec.ofChange fnExactBouquetDensitySpec)

/-- ITS FALSE NEIGHBOUR: 'it returns false'. Refute it at one input. -/
def fnExactBouquetDensityWrong : ChangeSpec := { name := "fnExactBouquetDensity", fn := fun _ => fun
  | [d] => { results := [.lit (.bool false)], args := [d] }
  | _ => none }
def FnExactBouquetDensityWrongFalsely : Prop := fnExactBouquetDensityRow.holds Try.pinned (OpenSpec.ofChange fnExactBouquetDensityWrong)

/- THE SECOND FORM. 'bulk': how many values and letters a reading holds, each counted each time it is reached (what is shared counts as often as it is met; a slice's spare places count too). A statement '..UptoSaid' is the law's where the arguments, and the package variables that the reading takes, are together of bulk at most 1048576: NARROWER than '..Said'. Prove '..Said' where nothing that the law and all that it calls make is longer than what came in: it says more and counts as full. Else prove '..UptoSaid'. A law counts once. -/
mutual
def uptoBulk {H : Type} : DataW H → Nat
  | .lit (.string bytes) => bytes.length + 1
  | .lit _ => 1
  | .nil => 1
  | .ptr d => uptoBulk d + 1
  | .slice elems spare => uptoBulkAll elems + uptoBulkAll spare + 1
  | .agg parts => uptoBulkAll parts + 1
  | .iface _ d => uptoBulk d + 1
  | .map entries => uptoBulkEntries entries + 1
  | .held _ => 1
def uptoBulkAll {H : Type} : List (DataW H) → Nat
  | [] => 0
  | d :: r => uptoBulk d + uptoBulkAll r
def uptoBulkEntries {H : Type} : List (Lit × DataW H) → Nat
  | [] => 0
  | x :: r => uptoBulkEntry x + uptoBulkEntries r
def uptoBulkEntry {H : Type} : Lit × DataW H → Nat
  | (.string bytes, d) => bytes.length + uptoBulk d + 1
  | (_, d) => uptoBulk d + 1
 end
def uptoSmall : (H : Type) → List (DataW H) → Bool := fun _ ds => decide (uptoBulkAll ds ≤ 1048576)
def OpenSpec.upto (s : _root_.Go.ChangeSpec) : _root_.Go.OpenSpec := { _root_.Go.OpenSpec.ofChange s with cond := some uptoSmall }

/-- 'laws.FnExactSlackBudget', WHERE WHAT IT READS IS OF BULK AT MOST 1048576: true; the input reads as it did. -/
def fnExactSlackBudgetUptoRow : OpenClaim := { program := "ytajdikbammfbjaa", sum := "7707843f7bfb1af30ab89e9b2555a4096ebe0b5751e478384ab695c99dc43ba2", func := "loop.example/g01921/laws.FnExactSlackBudget", spec := "fnExactSlackBudget", apart := false, narrowed := true }
def FnExactSlackBudgetUptoSaid : Prop := fnExactSlackBudgetUptoRow.holds Try.pinned (OpenSpec.upto fnExactSlackBudgetSpec)

/-- 'laws.FnExactContourOf', WHERE WHAT IT READS IS OF BULK AT MOST 1048576: true; the input reads as it did. -/
def fnExactContourOfUptoRow : OpenClaim := { program := "ytajdikbammfbjaa", sum := "7707843f7bfb1af30ab89e9b2555a4096ebe0b5751e478384ab695c99dc43ba2", func := "loop.example/g01921/laws.FnExactContourOf", spec := "fnExactContourOf", unfollowed := true, recurses := true, apart := false, narrowed := true }
def FnExactContourOfUptoSaid : Prop := fnExactContourOfUptoRow.holds Try.pinned (OpenSpec.upto fnExactContourOfSpec)

/-- 'laws.FnExactIsWithinFactor', WHERE WHAT IT READS IS OF BULK AT MOST 1048576: true; the input reads as it did. -/
def fnExactIsWithinFactorUptoRow : OpenClaim := { program := "ytajdikbammfbjaa", sum := "7707843f7bfb1af30ab89e9b2555a4096ebe0b5751e478384ab695c99dc43ba2", func := "loop.example/g01921/laws.FnExactIsWithinFactor", spec := "fnExactIsWithinFactor", apart := false, narrowed := true }
def FnExactIsWithinFactorUptoSaid : Prop := fnExactIsWithinFactorUptoRow.holds Try.pinned (OpenSpec.upto fnExactIsWithinFactorSpec)

/-- 'laws.FnExactContourBudgets', WHERE WHAT IT READS IS OF BULK AT MOST 1048576: true; the input reads as it did. -/
def fnExactContourBudgetsUptoRow : OpenClaim := { program := "ytajdikbammfbjaa", sum := "7707843f7bfb1af30ab89e9b2555a4096ebe0b5751e478384ab695c99dc43ba2", func := "loop.example/g01921/laws.FnExactContourBudgets", spec := "fnExactContourBudgets", apart := false, narrowed := true }
def FnExactContourBudgetsUptoSaid : Prop := fnExactContourBudgetsUptoRow.holds Try.pinned (OpenSpec.upto fnExactContourBudgetsSpec)

/-- 'laws.FnExactObservationHolds', WHERE WHAT IT READS IS OF BULK AT MOST 1048576: true; the input reads as it did. -/
def fnExactObservationHoldsUptoRow : OpenClaim := { program := "ytajdikbammfbjaa", sum := "7707843f7bfb1af30ab89e9b2555a4096ebe0b5751e478384ab695c99dc43ba2", func := "loop.example/g01921/laws.FnExactObservationHolds", spec := "fnExactObservationHolds", apart := false, narrowed := true }
def FnExactObservationHoldsUptoSaid : Prop := fnExactObservationHoldsUptoRow.holds Try.pinned (OpenSpec.upto fnExactObservationHoldsSpec)

/-- 'laws.FnExactTotalOfNotes', WHERE WHAT IT READS IS OF BULK AT MOST 1048576: true; the input reads as it did. -/
def fnExactTotalOfNotesUptoRow : OpenClaim := { program := "ytajdikbammfbjaa", sum := "7707843f7bfb1af30ab89e9b2555a4096ebe0b5751e478384ab695c99dc43ba2", func := "loop.example/g01921/laws.FnExactTotalOfNotes", spec := "fnExactTotalOfNotes", apart := false, narrowed := true }
def FnExactTotalOfNotesUptoSaid : Prop := fnExactTotalOfNotesUptoRow.holds Try.pinned (OpenSpec.upto fnExactTotalOfNotesSpec)

/-- 'laws.FnExactMeasuredRatio', WHERE WHAT IT READS IS OF BULK AT MOST 1048576: true; the input reads as it did. -/
def fnExactMeasuredRatioUptoRow : OpenClaim := { program := "ytajdikbammfbjaa", sum := "7707843f7bfb1af30ab89e9b2555a4096ebe0b5751e478384ab695c99dc43ba2", func := "loop.example/g01921/laws.FnExactMeasuredRatio", spec := "fnExactMeasuredRatio", apart := false, narrowed := true }
def FnExactMeasuredRatioUptoSaid : Prop := fnExactMeasuredRatioUptoRow.holds Try.pinned (OpenSpec.upto fnExactMeasuredRatioSpec)

/-- 'laws.FnBudgets', WHERE WHAT IT READS IS OF BULK AT MOST 1048576: true; the input reads as it did. -/
def fnBudgetsUptoRow : OpenClaim := { program := "ytajdikbammfbjaa", sum := "7707843f7bfb1af30ab89e9b2555a4096ebe0b5751e478384ab695c99dc43ba2", func := "loop.example/g01921/laws.FnBudgets", spec := "fnBudgets", unfollowed := true, recurses := true, apart := false, narrowed := true }
def FnBudgetsUptoSaid : Prop := fnBudgetsUptoRow.holds Try.pinned (OpenSpec.upto fnBudgetsSpec)

/-- 'laws.FnExactApplyObservation', WHERE WHAT IT READS IS OF BULK AT MOST 1048576: true; the input reads as it did. -/
def fnExactApplyObservationUptoRow : OpenClaim := { program := "ytajdikbammfbjaa", sum := "7707843f7bfb1af30ab89e9b2555a4096ebe0b5751e478384ab695c99dc43ba2", func := "loop.example/g01921/laws.FnExactApplyObservation", spec := "fnExactApplyObservation", apart := false, narrowed := true }
def FnExactApplyObservationUptoSaid : Prop := fnExactApplyObservationUptoRow.holds Try.pinned (OpenSpec.upto fnExactApplyObservationSpec)

/-- 'laws.FnExactAbortedRuns', WHERE WHAT IT READS IS OF BULK AT MOST 1048576: true; the input reads as it did. -/
def fnExactAbortedRunsUptoRow : OpenClaim := { program := "ytajdikbammfbjaa", sum := "7707843f7bfb1af30ab89e9b2555a4096ebe0b5751e478384ab695c99dc43ba2", func := "loop.example/g01921/laws.FnExactAbortedRuns", spec := "fnExactAbortedRuns", apart := false, narrowed := true }
def FnExactAbortedRunsUptoSaid : Prop := fnExactAbortedRunsUptoRow.holds Try.pinned (OpenSpec.upto fnExactAbortedRunsSpec)

/-- 'laws.FnExactEqualRuns', WHERE WHAT IT READS IS OF BULK AT MOST 1048576: true; the input reads as it did. -/
def fnExactEqualRunsUptoRow : OpenClaim := { program := "ytajdikbammfbjaa", sum := "7707843f7bfb1af30ab89e9b2555a4096ebe0b5751e478384ab695c99dc43ba2", func := "loop.example/g01921/laws.FnExactEqualRuns", spec := "fnExactEqualRuns", unfollowed := true, recurses := true, apart := false, narrowed := true }
def FnExactEqualRunsUptoSaid : Prop := fnExactEqualRunsUptoRow.holds Try.pinned (OpenSpec.upto fnExactEqualRunsSpec)

/-- 'laws.FnExactBouquetDensity', WHERE WHAT IT READS IS OF BULK AT MOST 1048576: true; the input reads as it did. -/
def fnExactBouquetDensityUptoRow : OpenClaim := { program := "ytajdikbammfbjaa", sum := "7707843f7bfb1af30ab89e9b2555a4096ebe0b5751e478384ab695c99dc43ba2", func := "loop.example/g01921/laws.FnExactBouquetDensity", spec := "fnExactBouquetDensity", apart := false, narrowed := true }
def FnExactBouquetDensityUptoSaid : Prop := fnExactBouquetDensityUptoRow.holds Try.pinned (OpenSpec.upto fnExactBouquetDensitySpec)

end Rows
end Go.Proofs.Ytajdikbammfbjaa
