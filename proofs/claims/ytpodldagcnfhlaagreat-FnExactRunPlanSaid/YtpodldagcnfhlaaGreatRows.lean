/-
  No cell of these rows narrows 'for every input' (looked for: loops, veiled, ifaces, maps, wideKeys, modest, calm, conditions, laid).
  DERIVED. THE GIVEN ROWS OF THIS SEAT. 5 by the template 'for every input the law returns true; each argument reads behind the call as it read before'; 0 by the template 'total and deterministic' (their statements: YtpodldagcnfhlaaGreatTotals.lean).
  GIVEN WITH THE SEED: the statements are not yours to turn. If you find one false, say at which input.
  Laid BY PROGRAM, IN A SANDBOX (cutbox-rows.mjs): the forced cells as the released guide's own fill.sh prints them over the translation 6323b729411f7fb6… (all of the seat's roots in one cut). By AI agents, Wed Nov 11 2026. No macro, syntax, notation, axiom, sorry.
-/
import Derived.Test.YtpodldagcnfhlaaGreatChecked
import GoSem.Claim
import GoSem.ClaimJoined
import GoSem.ClaimMapViews
import Derived.JoinedTies
import Derived.KernelRfl
namespace Go.Proofs.YtpodldagcnfhlaaGreat
/- THE CELL 'sum', in the pinned program and in every row, IS THE sha256 OF THE DUMP (.gsa) THAT YtpodldagcnfhlaaGreatProg.lean LOADS. Nothing in Lean hashes anything: it is a label: what it is worth is what the hold of that sum in a sandbox is worth. -/
noncomputable def Tryz.pinned : Pinned := { name := "ytpodldagcnfhlaagreat", sum := "6323b729411f7fb6ec709e9bf7593ba8e46627e5fe0b085ab23f6687bcfc35b9", checked := Tryz.checked }
namespace Rows
def none {H : Type} : Left H := { results := [], args := [] }

/-- 'laws.FnStreams': WHATEVER THE INPUT: true; the input reads as it did. -/
def fnStreamsSpec : ChangeSpec := { name := "fnStreams", fn := fun _ => fun
  | [d] => { results := [.lit (.bool true)], args := [d] }
  | _ => none }
def fnStreamsRow : OpenClaim := { program := "ytpodldagcnfhlaagreat", sum := "6323b729411f7fb6ec709e9bf7593ba8e46627e5fe0b085ab23f6687bcfc35b9", func := "loop.example/g01921/laws.FnStreams", spec := "fnStreams", unfollowed := true, recurses := true, apart := false }
def FnStreamsSaid : Prop := fnStreamsRow.holds Tryz.pinned (OpenSpec.ofChange fnStreamsSpec)

/-- ITS FALSE NEIGHBOUR: 'it returns false'. Refute it at one input. -/
def fnStreamsWrong : ChangeSpec := { name := "fnStreams", fn := fun _ => fun
  | [d] => { results := [.lit (.bool false)], args := [d] }
  | _ => none }
def FnStreamsWrongFalsely : Prop := fnStreamsRow.holds Tryz.pinned (OpenSpec.ofChange fnStreamsWrong)

/-- 'laws.FnExactRunSizes': WHATEVER THE INPUT: true; the input reads as it did. -/
def fnExactRunSizesSpec : ChangeSpec := { name := "fnExactRunSizes", fn := fun _ => fun
  | [d1, d2, d3] => { results := [.lit (.bool true)], args := [d1, d2, d3] }
  | _ => none }
def fnExactRunSizesRow : OpenClaim := { program := "ytpodldagcnfhlaagreat", sum := "6323b729411f7fb6ec709e9bf7593ba8e46627e5fe0b085ab23f6687bcfc35b9", func := "loop.example/g01921/laws.FnExactRunSizes", spec := "fnExactRunSizes", unfollowed := true, recurses := true, apart := false }
def FnExactRunSizesSaid : Prop := fnExactRunSizesRow.holds Tryz.pinned (OpenSpec.ofChange fnExactRunSizesSpec)

/-- ITS FALSE NEIGHBOUR: 'it returns false'. Refute it at one input. -/
def fnExactRunSizesWrong : ChangeSpec := { name := "fnExactRunSizes", fn := fun _ => fun
  | [d1, d2, d3] => { results := [.lit (.bool false)], args := [d1, d2, d3] }
  | _ => none }
def FnExactRunSizesWrongFalsely : Prop := fnExactRunSizesRow.holds Tryz.pinned (OpenSpec.ofChange fnExactRunSizesWrong)

/-- 'laws.FnExactRunPlan': WHATEVER THE INPUT: true; the input reads as it did. -/
def fnExactRunPlanSpec : ChangeSpec := { name := "fnExactRunPlan", fn := fun _ => fun
  | [d1, d2, d3] => { results := [.lit (.bool true)], args := [d1, d2, d3] }
  | _ => none }
def fnExactRunPlanRow : OpenClaim := { program := "ytpodldagcnfhlaagreat", sum := "6323b729411f7fb6ec709e9bf7593ba8e46627e5fe0b085ab23f6687bcfc35b9", func := "loop.example/g01921/laws.FnExactRunPlan", spec := "fnExactRunPlan", unfollowed := true, recurses := true, apart := false }
def FnExactRunPlanSaid : Prop := fnExactRunPlanRow.holds Tryz.pinned (OpenSpec.ofChange fnExactRunPlanSpec)

/-- ITS FALSE NEIGHBOUR: 'it returns false'. Refute it at one input. -/
def fnExactRunPlanWrong : ChangeSpec := { name := "fnExactRunPlan", fn := fun _ => fun
  | [d1, d2, d3] => { results := [.lit (.bool false)], args := [d1, d2, d3] }
  | _ => none }
def FnExactRunPlanWrongFalsely : Prop := fnExactRunPlanRow.holds Tryz.pinned (OpenSpec.ofChange fnExactRunPlanWrong)

/-- 'laws.FnExactActualCost': WHATEVER THE INPUT: true; the input reads as it did. -/
def fnExactActualCostSpec : ChangeSpec := { name := "fnExactActualCost", fn := fun _ => fun
  | [d1, d2, d3, d4] => { results := [.lit (.bool true)], args := [d1, d2, d3, d4] }
  | _ => none }
def fnExactActualCostRow : OpenClaim := { program := "ytpodldagcnfhlaagreat", sum := "6323b729411f7fb6ec709e9bf7593ba8e46627e5fe0b085ab23f6687bcfc35b9", func := "loop.example/g01921/laws.FnExactActualCost", spec := "fnExactActualCost", unfollowed := true, recurses := true, apart := false }
def FnExactActualCostSaid : Prop := fnExactActualCostRow.holds Tryz.pinned (OpenSpec.ofChange fnExactActualCostSpec)

/-- ITS FALSE NEIGHBOUR: 'it returns false'. Refute it at one input. -/
def fnExactActualCostWrong : ChangeSpec := { name := "fnExactActualCost", fn := fun _ => fun
  | [d1, d2, d3, d4] => { results := [.lit (.bool false)], args := [d1, d2, d3, d4] }
  | _ => none }
def FnExactActualCostWrongFalsely : Prop := fnExactActualCostRow.holds Tryz.pinned (OpenSpec.ofChange fnExactActualCostWrong)

/-- 'laws.FnExactRunWithBudget': WHATEVER THE INPUT: true; the input reads as it did. -/
def fnExactRunWithBudgetSpec : ChangeSpec := { name := "fnExactRunWithBudget", fn := fun _ => fun
  | [d1, d2, d3, d4, d5] => { results := [.lit (.bool true)], args := [d1, d2, d3, d4, d5] }
  | _ => none }
def fnExactRunWithBudgetRow : OpenClaim := { program := "ytpodldagcnfhlaagreat", sum := "6323b729411f7fb6ec709e9bf7593ba8e46627e5fe0b085ab23f6687bcfc35b9", func := "loop.example/g01921/laws.FnExactRunWithBudget", spec := "fnExactRunWithBudget", unfollowed := true, recurses := true, apart := false }
def FnExactRunWithBudgetSaid : Prop := fnExactRunWithBudgetRow.holds Tryz.pinned (OpenSpec.ofChange fnExactRunWithBudgetSpec)

/-- ITS FALSE NEIGHBOUR: 'it returns false'. Refute it at one input. -/
def fnExactRunWithBudgetWrong : ChangeSpec := { name := "fnExactRunWithBudget", fn := fun _ => fun
  | [d1, d2, d3, d4, d5] => { results := [.lit (.bool false)], args := [d1, d2, d3, d4, d5] }
  | _ => none }
def FnExactRunWithBudgetWrongFalsely : Prop := fnExactRunWithBudgetRow.holds Tryz.pinned (OpenSpec.ofChange fnExactRunWithBudgetWrong)

/- THE SECOND FORM. 'bulk': how many values and letters a reading holds, each counted each time it is reached (what is shared counts as often as it is met; a slice's spare places count too). A statement '..UptoSaid' is the law's where the arguments, and the package variables that the reading takes, are together of bulk at most 1048576: NARROWER than '..Said'. Prove '..Said' where nothing that the law and all that it calls make is longer than what came in: it says more and counts as full. Else prove '..UptoSaid'. A law counts once. -/
mutual
def uptoBulk {H : Type} : DataW H → Nat
  | .lit (.string bytes) => bytes.length + 1
  | .lit _ => 1
  | .nil => 1
  | .ptr d => uptoBulk d + 1
  | .slice elems spare => uptoBulkAll elems + uptoBulkAll spare + 1
  | .agg parts => uptoBulkAll parts + 1
  | .iface _ d => uptoBulk d + 1
  | .map entries => uptoBulkEntries entries + 1
  | .held _ => 1
def uptoBulkAll {H : Type} : List (DataW H) → Nat
  | [] => 0
  | d :: r => uptoBulk d + uptoBulkAll r
def uptoBulkEntries {H : Type} : List (Lit × DataW H) → Nat
  | [] => 0
  | x :: r => uptoBulkEntry x + uptoBulkEntries r
def uptoBulkEntry {H : Type} : Lit × DataW H → Nat
  | (.string bytes, d) => bytes.length + uptoBulk d + 1
  | (_, d) => uptoBulk d + 1
 end
def uptoSmall : (H : Type) → List (DataW H) → Bool := fun _ ds => decide (uptoBulkAll ds ≤ 1048576)
def OpenSpec.upto (s : _root_.Go.ChangeSpec) : _root_.Go.OpenSpec := { _root_.Go.OpenSpec.ofChange s with cond := some uptoSmall }

/-- 'laws.FnStreams', WHERE WHAT IT READS IS OF BULK AT MOST 1048576: true; the input reads as it did. -/
def fnStreamsUptoRow : OpenClaim := { program := "ytpodldagcnfhlaagreat", sum := "6323b729411f7fb6ec709e9bf7593ba8e46627e5fe0b085ab23f6687bcfc35b9", func := "loop.example/g01921/laws.FnStreams", spec := "fnStreams", unfollowed := true, recurses := true, apart := false, narrowed := true }
def FnStreamsUptoSaid : Prop := fnStreamsUptoRow.holds Tryz.pinned (OpenSpec.upto fnStreamsSpec)

/-- 'laws.FnExactRunSizes', WHERE WHAT IT READS IS OF BULK AT MOST 1048576: true; the input reads as it did. -/
def fnExactRunSizesUptoRow : OpenClaim := { program := "ytpodldagcnfhlaagreat", sum := "6323b729411f7fb6ec709e9bf7593ba8e46627e5fe0b085ab23f6687bcfc35b9", func := "loop.example/g01921/laws.FnExactRunSizes", spec := "fnExactRunSizes", unfollowed := true, recurses := true, apart := false, narrowed := true }
def FnExactRunSizesUptoSaid : Prop := fnExactRunSizesUptoRow.holds Tryz.pinned (OpenSpec.upto fnExactRunSizesSpec)

/-- 'laws.FnExactRunPlan', WHERE WHAT IT READS IS OF BULK AT MOST 1048576: true; the input reads as it did. -/
def fnExactRunPlanUptoRow : OpenClaim := { program := "ytpodldagcnfhlaagreat", sum := "6323b729411f7fb6ec709e9bf7593ba8e46627e5fe0b085ab23f6687bcfc35b9", func := "loop.example/g01921/laws.FnExactRunPlan", spec := "fnExactRunPlan", unfollowed := true, recurses := true, apart := false, narrowed := true }
def FnExactRunPlanUptoSaid : Prop := fnExactRunPlanUptoRow.holds Tryz.pinned (OpenSpec.upto fnExactRunPlanSpec)

/-- 'laws.FnExactActualCost', WHERE WHAT IT READS IS OF BULK AT MOST 1048576: true; the input reads as it did. -/
def fnExactActualCostUptoRow : OpenClaim := { program := "ytpodldagcnfhlaagreat", sum := "6323b729411f7fb6ec709e9bf7593ba8e46627e5fe0b085ab23f6687bcfc35b9", func := "loop.example/g01921/laws.FnExactActualCost", spec := "fnExactActualCost", unfollowed := true, recurses := true, apart := false, narrowed := true }
def FnExactActualCostUptoSaid : Prop := fnExactActualCostUptoRow.holds Tryz.pinned (OpenSpec.upto fnExactActualCostSpec)

/-- 'laws.FnExactRunWithBudget', WHERE WHAT IT READS IS OF BULK AT MOST 1048576: true; the input reads as it did. -/
def fnExactRunWithBudgetUptoRow : OpenClaim := { program := "ytpodldagcnfhlaagreat", sum := "6323b729411f7fb6ec709e9bf7593ba8e46627e5fe0b085ab23f6687bcfc35b9", func := "loop.example/g01921/laws.FnExactRunWithBudget", spec := "fnExactRunWithBudget", unfollowed := true, recurses := true, apart := false, narrowed := true }
def FnExactRunWithBudgetUptoSaid : Prop := fnExactRunWithBudgetUptoRow.holds Tryz.pinned (OpenSpec.upto fnExactRunWithBudgetSpec)

end Rows
end Go.Proofs.YtpodldagcnfhlaaGreat
