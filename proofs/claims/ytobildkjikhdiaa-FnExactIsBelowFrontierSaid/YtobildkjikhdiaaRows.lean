/-
  No cell of these rows narrows 'for every input' (looked for: loops, veiled, ifaces, maps, wideKeys, modest, calm, conditions, laid).
  DERIVED. THE GIVEN ROWS OF THIS SEAT. 12 by the template 'for every input the law returns true; each argument reads behind the call as it read before'; 0 by the template 'total and deterministic' (their statements: YtobildkjikhdiaaTotals.lean).
  GIVEN WITH THE SEED: the statements are not yours to turn. If you find one false, say at which input.
  Laid BY PROGRAM, IN A SANDBOX (cutbox-rows.mjs): the forced cells as the released guide's own fill.sh prints them over the translation 327e4b96282cd53f… (all of the seat's roots in one cut). By AI agents, Wed Nov 11 2026. No macro, syntax, notation, axiom, sorry.
-/
import Derived.Test.YtobildkjikhdiaaChecked
import GoSem.Claim
import GoSem.ClaimJoined
import GoSem.ClaimMapViews
import Derived.JoinedTies
import Derived.KernelRfl
namespace Go.Proofs.Ytobildkjikhdiaa
/- THE CELL 'sum', in the pinned program and in every row, IS THE sha256 OF THE DUMP (.gsa) THAT YtobildkjikhdiaaProg.lean LOADS. Nothing in Lean hashes anything: it is a label: what it is worth is what the hold of that sum in a sandbox is worth. -/
noncomputable def Try.pinned : Pinned := { name := "ytobildkjikhdiaa", sum := "327e4b96282cd53f9ba4112c54266fe5a0bb84044f30fb3063e2e5d30a1065dd", checked := Try.checked }
namespace Rows
def none {H : Type} : Left H := { results := [], args := [] }

/-- 'laws.FnExactLearnAll': WHATEVER THE INPUT: true; the input reads as it did. -/
def fnExactLearnAllSpec : ChangeSpec := { name := "fnExactLearnAll", fn := fun _ => fun
  | [d1, d2] => { results := [.lit (.bool true)], args := [d1, d2] }
  | _ => none }
def fnExactLearnAllRow : OpenClaim := { program := "ytobildkjikhdiaa", sum := "327e4b96282cd53f9ba4112c54266fe5a0bb84044f30fb3063e2e5d30a1065dd", func := "loop.example/g01921/laws.FnExactLearnAll", spec := "fnExactLearnAll", apart := false }
def FnExactLearnAllSaid : Prop := fnExactLearnAllRow.holds Try.pinned (OpenSpec.ofChange fnExactLearnAllSpec)

/-- ITS FALSE NEIGHBOUR: 'it returns false'. Refute it at one input. -/
def fnExactLearnAllWrong : ChangeSpec := { name := "fnExactLearnAll", fn := fun _ => fun
  | [d1, d2] => { results := [.lit (.bool false)], args := [d1, d2] }
  | _ => none }
def FnExactLearnAllWrongFalsely : Prop := fnExactLearnAllRow.holds Try.pinned (OpenSpec.ofChange fnExactLearnAllWrong)

/-- 'laws.FnLearning': WHATEVER THE INPUT: true; the input reads as it did. -/
def fnLearningSpec : ChangeSpec := { name := "fnLearning", fn := fun _ => fun
  | [d] => { results := [.lit (.bool true)], args := [d] }
  | _ => none }
def fnLearningRow : OpenClaim := { program := "ytobildkjikhdiaa", sum := "327e4b96282cd53f9ba4112c54266fe5a0bb84044f30fb3063e2e5d30a1065dd", func := "loop.example/g01921/laws.FnLearning", spec := "fnLearning", apart := false }
def FnLearningSaid : Prop := fnLearningRow.holds Try.pinned (OpenSpec.ofChange fnLearningSpec)

/-- ITS FALSE NEIGHBOUR: 'it returns false'. Refute it at one input. -/
def fnLearningWrong : ChangeSpec := { name := "fnLearning", fn := fun _ => fun
  | [d] => { results := [.lit (.bool false)], args := [d] }
  | _ => none }
def FnLearningWrongFalsely : Prop := fnLearningRow.holds Try.pinned (OpenSpec.ofChange fnLearningWrong)

/-- 'laws.FnExactEqualOutcomes': WHATEVER THE INPUT: true; the input reads as it did. -/
def fnExactEqualOutcomesSpec : ChangeSpec := { name := "fnExactEqualOutcomes", fn := fun _ => fun
  | [d1, d2] => { results := [.lit (.bool true)], args := [d1, d2] }
  | _ => none }
def fnExactEqualOutcomesRow : OpenClaim := { program := "ytobildkjikhdiaa", sum := "327e4b96282cd53f9ba4112c54266fe5a0bb84044f30fb3063e2e5d30a1065dd", func := "loop.example/g01921/laws.FnExactEqualOutcomes", spec := "fnExactEqualOutcomes", unfollowed := true, recurses := true, apart := false }
def FnExactEqualOutcomesSaid : Prop := fnExactEqualOutcomesRow.holds Try.pinned (OpenSpec.ofChange fnExactEqualOutcomesSpec)

/-- ITS FALSE NEIGHBOUR: 'it returns false'. Refute it at one input. -/
def fnExactEqualOutcomesWrong : ChangeSpec := { name := "fnExactEqualOutcomes", fn := fun _ => fun
  | [d1, d2] => { results := [.lit (.bool false)], args := [d1, d2] }
  | _ => none }
def FnExactEqualOutcomesWrongFalsely : Prop := fnExactEqualOutcomesRow.holds Try.pinned (OpenSpec.ofChange fnExactEqualOutcomesWrong)

/-- 'laws.FnExactIsValidSpace': WHATEVER THE INPUT: true; the input reads as it did. -/
def fnExactIsValidSpaceSpec : ChangeSpec := { name := "fnExactIsValidSpace", fn := fun _ => fun
  | [d] => { results := [.lit (.bool true)], args := [d] }
  | _ => none }
def fnExactIsValidSpaceRow : OpenClaim := { program := "ytobildkjikhdiaa", sum := "327e4b96282cd53f9ba4112c54266fe5a0bb84044f30fb3063e2e5d30a1065dd", func := "loop.example/g01921/laws.FnExactIsValidSpace", spec := "fnExactIsValidSpace", apart := false }
def FnExactIsValidSpaceSaid : Prop := fnExactIsValidSpaceRow.holds Try.pinned (OpenSpec.ofChange fnExactIsValidSpaceSpec)

/-- ITS FALSE NEIGHBOUR: 'it returns false'. Refute it at one input. -/
def fnExactIsValidSpaceWrong : ChangeSpec := { name := "fnExactIsValidSpace", fn := fun _ => fun
  | [d] => { results := [.lit (.bool false)], args := [d] }
  | _ => none }
def FnExactIsValidSpaceWrongFalsely : Prop := fnExactIsValidSpaceRow.holds Try.pinned (OpenSpec.ofChange fnExactIsValidSpaceWrong)

/-- 'laws.FnExactCountWithin': WHATEVER THE INPUT: true; the input reads as it did. -/
def fnExactCountWithinSpec : ChangeSpec := { name := "fnExactCountWithin", fn := fun _ => fun
  | [d1, d2] => { results := [.lit (.bool true)], args := [d1, d2] }
  | _ => none }
def fnExactCountWithinRow : OpenClaim := { program := "ytobildkjikhdiaa", sum := "327e4b96282cd53f9ba4112c54266fe5a0bb84044f30fb3063e2e5d30a1065dd", func := "loop.example/g01921/laws.FnExactCountWithin", spec := "fnExactCountWithin", apart := false }
def FnExactCountWithinSaid : Prop := fnExactCountWithinRow.holds Try.pinned (OpenSpec.ofChange fnExactCountWithinSpec)

/-- ITS FALSE NEIGHBOUR: 'it returns false'. Refute it at one input. -/
def fnExactCountWithinWrong : ChangeSpec := { name := "fnExactCountWithin", fn := fun _ => fun
  | [d1, d2] => { results := [.lit (.bool false)], args := [d1, d2] }
  | _ => none }
def FnExactCountWithinWrongFalsely : Prop := fnExactCountWithinRow.holds Try.pinned (OpenSpec.ofChange fnExactCountWithinWrong)

/-- 'laws.FnExactPlanShare': WHATEVER THE INPUT: true; the input reads as it did. -/
def fnExactPlanShareSpec : ChangeSpec := { name := "fnExactPlanShare", fn := fun _ => fun
  | [d1, d2] => { results := [.lit (.bool true)], args := [d1, d2] }
  | _ => none }
def fnExactPlanShareRow : OpenClaim := { program := "ytobildkjikhdiaa", sum := "327e4b96282cd53f9ba4112c54266fe5a0bb84044f30fb3063e2e5d30a1065dd", func := "loop.example/g01921/laws.FnExactPlanShare", spec := "fnExactPlanShare", apart := false }
def FnExactPlanShareSaid : Prop := fnExactPlanShareRow.holds Try.pinned (OpenSpec.ofChange fnExactPlanShareSpec)

/-- ITS FALSE NEIGHBOUR: 'it returns false'. Refute it at one input. -/
def fnExactPlanShareWrong : ChangeSpec := { name := "fnExactPlanShare", fn := fun _ => fun
  | [d1, d2] => { results := [.lit (.bool false)], args := [d1, d2] }
  | _ => none }
def FnExactPlanShareWrongFalsely : Prop := fnExactPlanShareRow.holds Try.pinned (OpenSpec.ofChange fnExactPlanShareWrong)

/-- 'laws.FnExactEqualBouquets': WHATEVER THE INPUT: true; the input reads as it did. -/
def fnExactEqualBouquetsSpec : ChangeSpec := { name := "fnExactEqualBouquets", fn := fun _ => fun
  | [d1, d2] => { results := [.lit (.bool true)], args := [d1, d2] }
  | _ => none }
def fnExactEqualBouquetsRow : OpenClaim := { program := "ytobildkjikhdiaa", sum := "327e4b96282cd53f9ba4112c54266fe5a0bb84044f30fb3063e2e5d30a1065dd", func := "loop.example/g01921/laws.FnExactEqualBouquets", spec := "fnExactEqualBouquets", unfollowed := true, recurses := true, apart := false }
def FnExactEqualBouquetsSaid : Prop := fnExactEqualBouquetsRow.holds Try.pinned (OpenSpec.ofChange fnExactEqualBouquetsSpec)

/-- ITS FALSE NEIGHBOUR: 'it returns false'. Refute it at one input. -/
def fnExactEqualBouquetsWrong : ChangeSpec := { name := "fnExactEqualBouquets", fn := fun _ => fun
  | [d1, d2] => { results := [.lit (.bool false)], args := [d1, d2] }
  | _ => none }
def FnExactEqualBouquetsWrongFalsely : Prop := fnExactEqualBouquetsRow.holds Try.pinned (OpenSpec.ofChange fnExactEqualBouquetsWrong)

/-- 'laws.FnExactCostRange': WHATEVER THE INPUT: true; the input reads as it did. -/
def fnExactCostRangeSpec : ChangeSpec := { name := "fnExactCostRange", fn := fun _ => fun
  | [d] => { results := [.lit (.bool true)], args := [d] }
  | _ => none }
def fnExactCostRangeRow : OpenClaim := { program := "ytobildkjikhdiaa", sum := "327e4b96282cd53f9ba4112c54266fe5a0bb84044f30fb3063e2e5d30a1065dd", func := "loop.example/g01921/laws.FnExactCostRange", spec := "fnExactCostRange", apart := false }
def FnExactCostRangeSaid : Prop := fnExactCostRangeRow.holds Try.pinned (OpenSpec.ofChange fnExactCostRangeSpec)

/-- ITS FALSE NEIGHBOUR: 'it returns false'. Refute it at one input. -/
def fnExactCostRangeWrong : ChangeSpec := { name := "fnExactCostRange", fn := fun _ => fun
  | [d] => { results := [.lit (.bool false)], args := [d] }
  | _ => none }
def FnExactCostRangeWrongFalsely : Prop := fnExactCostRangeRow.holds Try.pinned (OpenSpec.ofChange fnExactCostRangeWrong)

/-- 'laws.FnExactSuboptimalityFactor': WHATEVER THE INPUT: true; the input reads as it did. -/
def fnExactSuboptimalityFactorSpec : ChangeSpec := { name := "fnExactSuboptimalityFactor", fn := fun _ => fun
  | [d] => { results := [.lit (.bool true)], args := [d] }
  | _ => none }
def fnExactSuboptimalityFactorRow : OpenClaim := { program := "ytobildkjikhdiaa", sum := "327e4b96282cd53f9ba4112c54266fe5a0bb84044f30fb3063e2e5d30a1065dd", func := "loop.example/g01921/laws.FnExactSuboptimalityFactor", spec := "fnExactSuboptimalityFactor", apart := false }
def FnExactSuboptimalityFactorSaid : Prop := fnExactSuboptimalityFactorRow.holds Try.pinned (OpenSpec.ofChange fnExactSuboptimalityFactorSpec)

/-- ITS FALSE NEIGHBOUR: 'it returns false'. Refute it at one input. -/
def fnExactSuboptimalityFactorWrong : ChangeSpec := { name := "fnExactSuboptimalityFactor", fn := fun _ => fun
  | [d] => { results := [.lit (.bool false)], args := [d] }
  | _ => none }
def FnExactSuboptimalityFactorWrongFalsely : Prop := fnExactSuboptimalityFactorRow.holds Try.pinned (OpenSpec.ofChange fnExactSuboptimalityFactorWrong)

/-- 'laws.FnExactSpaceCost': WHATEVER THE INPUT: true; the input reads as it did. -/
def fnExactSpaceCostSpec : ChangeSpec := { name := "fnExactSpaceCost", fn := fun _ => fun
  | [d1, d2] => { results := [.lit (.bool true)], args := [d1, d2] }
  | _ => none }
def fnExactSpaceCostRow : OpenClaim := { program := "ytobildkjikhdiaa", sum := "327e4b96282cd53f9ba4112c54266fe5a0bb84044f30fb3063e2e5d30a1065dd", func := "loop.example/g01921/laws.FnExactSpaceCost", spec := "fnExactSpaceCost", apart := false }
def FnExactSpaceCostSaid : Prop := fnExactSpaceCostRow.holds Try.pinned (OpenSpec.ofChange fnExactSpaceCostSpec)

/-- ITS FALSE NEIGHBOUR: 'it returns false'. Refute it at one input. -/
def fnExactSpaceCostWrong : ChangeSpec := { name := "fnExactSpaceCost", fn := fun _ => fun
  | [d1, d2] => { results := [.lit (.bool false)], args := [d1, d2] }
  | _ => none }
def FnExactSpaceCostWrongFalsely : Prop := fnExactSpaceCostRow.holds Try.pinned (OpenSpec.ofChange fnExactSpaceCostWrong)

/-- 'laws.FnExactIsBelowFrontier': WHATEVER THE INPUT: true; the input reads as it did. -/
def fnExactIsBelowFrontierSpec : ChangeSpec := { name := "fnExactIsBelowFrontier", fn := fun _ => fun
  | [d1, d2, d3] => { results := [.lit (.bool true)], args := [d1, d2, d3] }
  | _ => none }
def fnExactIsBelowFrontierRow : OpenClaim := { program := "ytobildkjikhdiaa", sum := "327e4b96282cd53f9ba4112c54266fe5a0bb84044f30fb3063e2e5d30a1065dd", func := "loop.example/g01921/laws.FnExactIsBelowFrontier", spec := "fnExactIsBelowFrontier", unfollowed := true, recurses := true, apart := false }
def FnExactIsBelowFrontierSaid : Prop := fnExactIsBelowFrontierRow.holds Try.pinned (OpenSpec.ofChange fnExactIsBelowFrontierSpec)

/-- ITS FALSE NEIGHBOUR: 'it returns false'. Refute it at one input. -/
def fnExactIsBelowFrontierWrong : ChangeSpec := { name := "fnExactIsBelowFrontier", fn := fun _ => fun
  | [d1, d2, d3] => { results := [.lit (.bool false)], args := [d1, d2, d3] }
  | _ => none }
def FnExactIsBelowFrontierWrongFalsely : Prop := fnExactIsBelowFrontierRow.holds Try.pinned (OpenSpec.ofChange fnExactIsBelowFrontierWrong)

/-- 'laws.FnExactFrontierPlans': WHATEVER THE INPUT: true; the input reads as it did. -/
def fnExactFrontierPlansSpec : ChangeSpec := { name := "fnExactFrontierPlans", fn := fun _ => fun
  | [d1, d2] => { results := [.lit (.bool true)], args := [d1, d2] }
  | _ => none }
def fnExactFrontierPlansRow : OpenClaim := { program := "ytobildkjikhdiaa", sum := "327e4b96282cd53f9ba4112c54266fe5a0bb84044f30fb3063e2e5d30a1065dd", func := "loop.example/g01921/laws.FnExactFrontierPlans", spec := "fnExactFrontierPlans", apart := false }
def FnExactFrontierPlansSaid : Prop := fnExactFrontierPlansRow.holds Try.pinned (OpenSpec.ofChange fnExactFrontierPlansSpec)

/-- ITS FALSE NEIGHBOUR: 'it returns false'. Refute it at one input. -/
def fnExactFrontierPlansWrong : ChangeSpec := { name := "fnExactFrontierPlans", fn := fun _ => fun
  | [d1, d2] => { results := [.lit (.bool false)], args := [d1, d2] }
  | _ => none }
def FnExactFrontierPlansWrongFalsely : Prop := fnExactFrontierPlansRow.holds Try.pinned (OpenSpec.ofChange fnExactFrontierPlansWrong)

/- THE SECOND FORM. 'bulk': how many values and letters a reading holds, each counted each time it is reached (what is shared counts as often as it is met; a slice's spare places count too). A statement '..UptoSaid' is the law's where the arguments, and the package variables that the reading takes, are together of bulk at most 1048576: NARROWER than '..Said'. Prove '..Said' where nothing that the law and all that it calls make is longer than what came in: it says more and counts as full. Else prove '..UptoSaid'. A law counts once. -/
mutual
def uptoBulk {H : Type} : DataW H → Nat
  | .lit (.string bytes) => bytes.length + 1
  | .lit _ => 1
  | .nil => 1
  | .ptr d => uptoBulk d + 1
  | .slice elems spare => uptoBulkAll elems + uptoBulkAll spare + 1
  | .agg parts => uptoBulkAll parts + 1
  | .iface _ d => uptoBulk d + 1
  | .map entries => uptoBulkEntries entries + 1
  | .held _ => 1
def uptoBulkAll {H : Type} : List (DataW H) → Nat
  | [] => 0
  | d :: r => uptoBulk d + uptoBulkAll r
def uptoBulkEntries {H : Type} : List (Lit × DataW H) → Nat
  | [] => 0
  | x :: r => uptoBulkEntry x + uptoBulkEntries r
def uptoBulkEntry {H : Type} : Lit × DataW H → Nat
  | (.string bytes, d) => bytes.length + uptoBulk d + 1
  | (_, d) => uptoBulk d + 1
 end
def uptoSmall : (H : Type) → List (DataW H) → Bool := fun _ ds => decide (uptoBulkAll ds ≤ 1048576)
def OpenSpec.upto (s : _root_.Go.ChangeSpec) : _root_.Go.OpenSpec := { _root_.Go.OpenSpec.ofChange s with cond := some uptoSmall }

/-- 'laws.FnExactLearnAll', WHERE WHAT IT READS IS OF BULK AT MOST 1048576: true; the input reads as it did. -/
def fnExactLearnAllUptoRow : OpenClaim := { program := "ytobildkjikhdiaa", sum := "327e4b96282cd53f9ba4112c54266fe5a0bb84044f30fb3063e2e5d30a1065dd", func := "loop.example/g01921/laws.FnExactLearnAll", spec := "fnExactLearnAll", apart := false, narrowed := true }
def FnExactLearnAllUptoSaid : Prop := fnExactLearnAllUptoRow.holds Try.pinned (OpenSpec.upto fnExactLearnAllSpec)

/-- 'laws.FnLearning', WHERE WHAT IT READS IS OF BULK AT MOST 1048576: true; the input reads as it did. -/
def fnLearningUptoRow : OpenClaim := { program := "ytobildkjikhdiaa", sum := "327e4b96282cd53f9ba4112c54266fe5a0bb84044f30fb3063e2e5d30a1065dd", func := "loop.example/g01921/laws.FnLearning", spec := "fnLearning", apart := false, narrowed := true }
def FnLearningUptoSaid : Prop := fnLearningUptoRow.holds Try.pinned (OpenSpec.upto fnLearningSpec)

/-- 'laws.FnExactEqualOutcomes', WHERE WHAT IT READS IS OF BULK AT MOST 1048576: true; the input reads as it did. -/
def fnExactEqualOutcomesUptoRow : OpenClaim := { program := "ytobildkjikhdiaa", sum := "327e4b96282cd53f9ba4112c54266fe5a0bb84044f30fb3063e2e5d30a1065dd", func := "loop.example/g01921/laws.FnExactEqualOutcomes", spec := "fnExactEqualOutcomes", unfollowed := true, recurses := true, apart := false, narrowed := true }
def FnExactEqualOutcomesUptoSaid : Prop := fnExactEqualOutcomesUptoRow.holds Try.pinned (OpenSpec.upto fnExactEqualOutcomesSpec)

/-- 'laws.FnExactIsValidSpace', WHERE WHAT IT READS IS OF BULK AT MOST 1048576: true; the input reads as it did. -/
def fnExactIsValidSpaceUptoRow : OpenClaim := { program := "ytobildkjikhdiaa", sum := "327e4b96282cd53f9ba4112c54266fe5a0bb84044f30fb3063e2e5d30a1065dd", func := "loop.example/g01921/laws.FnExactIsValidSpace", spec := "fnExactIsValidSpace", apart := false, narrowed := true }
def FnExactIsValidSpaceUptoSaid : Prop := fnExactIsValidSpaceUptoRow.holds Try.pinned (OpenSpec.upto fnExactIsValidSpaceSpec)

/-- 'laws.FnExactCountWithin', WHERE WHAT IT READS IS OF BULK AT MOST 1048576: true; the input reads as it did. -/
def fnExactCountWithinUptoRow : OpenClaim := { program := "ytobildkjikhdiaa", sum := "327e4b96282cd53f9ba4112c54266fe5a0bb84044f30fb3063e2e5d30a1065dd", func := "loop.example/g01921/laws.FnExactCountWithin", spec := "fnExactCountWithin", apart := false, narrowed := true }
def FnExactCountWithinUptoSaid : Prop := fnExactCountWithinUptoRow.holds Try.pinned (OpenSpec.upto fnExactCountWithinSpec)

/-- 'laws.FnExactPlanShare', WHERE WHAT IT READS IS OF BULK AT MOST 1048576: true; the input reads as it did. -/
def fnExactPlanShareUptoRow : OpenClaim := { program := "ytobildkjikhdiaa", sum := "327e4b96282cd53f9ba4112c54266fe5a0bb84044f30fb3063e2e5d30a1065dd", func := "loop.example/g01921/laws.FnExactPlanShare", spec := "fnExactPlanShare", apart := false, narrowed := true }
def FnExactPlanShareUptoSaid : Prop := fnExactPlanShareUptoRow.holds Try.pinned (OpenSpec.upto fnExactPlanShareSpec)

/-- 'laws.FnExactEqualBouquets', WHERE WHAT IT READS IS OF BULK AT MOST 1048576: true; the input reads as it did. -/
def fnExactEqualBouquetsUptoRow : OpenClaim := { program := "ytobildkjikhdiaa", sum := "327e4b96282cd53f9ba4112c54266fe5a0bb84044f30fb3063e2e5d30a1065dd", func := "loop.example/g01921/laws.FnExactEqualBouquets", spec := "fnExactEqualBouquets", unfollowed := true, recurses := true, apart := false, narrowed := true }
def FnExactEqualBouquetsUptoSaid : Prop := fnExactEqualBouquetsUptoRow.holds Try.pinned (OpenSpec.upto fnExactEqualBouquetsSpec)

/-- 'laws.FnExactCostRange', WHERE WHAT IT READS IS OF BULK AT MOST 1048576: true; the input reads as it did. -/
def fnExactCostRangeUptoRow : OpenClaim := { program := "ytobildkjikhdiaa", sum := "327e4b96282cd53f9ba4112c54266fe5a0bb84044f30fb3063e2e5d30a1065dd", func := "loop.example/g01921/laws.FnExactCostRange", spec := "fnExactCostRange", apart := false, narrowed := true }
def FnExactCostRangeUptoSaid : Prop := fnExactCostRangeUptoRow.holds Try.pinned (OpenSpec.upto fnExactCostRangeSpec)

/-- 'laws.FnExactSuboptimalityFactor', WHERE WHAT IT READS IS OF BULK AT MOST 1048576: true; the input reads as it did. -/
def fnExactSuboptimalityFactorUptoRow : OpenClaim := { program := "ytobildkjikhdiaa", sum := "327e4b96282cd53f9ba4112c54266fe5a0bb84044f30fb3063e2e5d30a1065dd", func := "loop.example/g01921/laws.FnExactSuboptimalityFactor", spec := "fnExactSuboptimalityFactor", apart := false, narrowed := true }
def FnExactSuboptimalityFactorUptoSaid : Prop := fnExactSuboptimalityFactorUptoRow.holds Try.pinned (OpenSpec.upto fnExactSuboptimalityFactorSpec)

/-- 'laws.FnExactSpaceCost', WHERE WHAT IT READS IS OF BULK AT MOST 1048576: true; the input reads as it did. -/
def fnExactSpaceCostUptoRow : OpenClaim := { program := "ytobildkjikhdiaa", sum := "327e4b96282cd53f9ba4112c54266fe5a0bb84044f30fb3063e2e5d30a1065dd", func := "loop.example/g01921/laws.FnExactSpaceCost", spec := "fnExactSpaceCost", apart := false, narrowed := true }
def FnExactSpaceCostUptoSaid : Prop := fnExactSpaceCostUptoRow.holds Try.pinned (OpenSpec.upto fnExactSpaceCostSpec)

/-- 'laws.FnExactIsBelowFrontier', WHERE WHAT IT READS IS OF BULK AT MOST 1048576: true; the input reads as it did. -/
def fnExactIsBelowFrontierUptoRow : OpenClaim := { program := "ytobildkjikhdiaa", sum := "327e4b96282cd53f9ba4112c54266fe5a0bb84044f30fb3063e2e5d30a1065dd", func := "loop.example/g01921/laws.FnExactIsBelowFrontier", spec := "fnExactIsBelowFrontier", unfollowed := true, recurses := true, apart := false, narrowed := true }
def FnExactIsBelowFrontierUptoSaid : Prop := fnExactIsBelowFrontierUptoRow.holds Try.pinned (OpenSpec.upto fnExactIsBelowFrontierSpec)

/-- 'laws.FnExactFrontierPlans', WHERE WHAT IT READS IS OF BULK AT MOST 1048576: true; the input reads as it did. -/
def fnExactFrontierPlansUptoRow : OpenClaim := { program := "ytobildkjikhdiaa", sum := "327e4b96282cd53f9ba4112c54266fe5a0bb84044f30fb3063e2e5d30a1065dd", func := "loop.example/g01921/laws.FnExactFrontierPlans", spec := "fnExactFrontierPlans", apart := false, narrowed := true }
def FnExactFrontierPlansUptoSaid : Prop := fnExactFrontierPlansUptoRow.holds Try.pinned (OpenSpec.upto fnExactFrontierPlansSpec)

end Rows
end Go.Proofs.Ytobildkjikhdiaa
