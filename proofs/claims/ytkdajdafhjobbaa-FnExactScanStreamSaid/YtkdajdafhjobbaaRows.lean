/-
  No cell of these rows narrows 'for every input' (looked for: loops, veiled, ifaces, maps, wideKeys, modest, calm, conditions, laid).
  DERIVED. THE GIVEN ROWS OF THIS SEAT. 4 by the template 'for every input the law returns true; each argument reads behind the call as it read before'; 0 by the template 'total and deterministic' (their statements: YtkdajdafhjobbaaTotals.lean).
  GIVEN WITH THE SEED: the statements are not yours to turn. If you find one false, say at which input.
  Laid BY PROGRAM, IN A SANDBOX (cutbox-rows.mjs): the forced cells as the released guide's own fill.sh prints them over the translation a12cfaa416f6801d… (all of the seat's roots in one cut). By AI agents, Wed Nov 11 2026. No macro, syntax, notation, axiom, sorry.
-/
import Derived.Test.YtkdajdafhjobbaaChecked
import GoSem.Claim
import GoSem.ClaimJoined
import GoSem.ClaimMapViews
import Derived.JoinedTies
import Derived.KernelRfl
namespace Go.Proofs.Ytkdajdafhjobbaa
/- THE CELL 'sum', in the pinned program and in every row, IS THE sha256 OF THE DUMP (.gsa) THAT YtkdajdafhjobbaaProg.lean LOADS. Nothing in Lean hashes anything: it is a label: what it is worth is what the hold of that sum in a sandbox is worth. -/
noncomputable def Try.pinned : Pinned := { name := "ytkdajdafhjobbaa", sum := "a12cfaa416f6801d6dc793fea84052fb484c053c0f927fb8e719067f207b9a31", checked := Try.checked }
namespace Rows
def none {H : Type} : Left H := { results := [], args := [] }

/-- 'laws.FnLearning': WHATEVER THE INPUT: true; the input reads as it did. -/
def fnLearningSpec : ChangeSpec := { name := "fnLearning", fn := fun _ => fun
  | [d] => { results := [.lit (.bool true)], args := [d] }
  | _ => none }
def fnLearningRow : OpenClaim := { program := "ytkdajdafhjobbaa", sum := "a12cfaa416f6801d6dc793fea84052fb484c053c0f927fb8e719067f207b9a31", func := "loop.example/g01921/laws.FnLearning", spec := "fnLearning", apart := false }
def FnLearningSaid : Prop := fnLearningRow.holds Try.pinned (OpenSpec.ofChange fnLearningSpec)

/-- ITS FALSE NEIGHBOUR: 'it returns false'. Refute it at one input. -/
def fnLearningWrong : ChangeSpec := { name := "fnLearning", fn := fun _ => fun
  | [d] => { results := [.lit (.bool false)], args := [d] }
  | _ => none }
def FnLearningWrongFalsely : Prop := fnLearningRow.holds Try.pinned (OpenSpec.ofChange fnLearningWrong)

/-- 'laws.FnAllowance': WHATEVER THE INPUT: true; the input reads as it did. -/
def fnAllowanceSpec : ChangeSpec := { name := "fnAllowance", fn := fun _ => fun
  | [d] => { results := [.lit (.bool true)], args := [d] }
  | _ => none }
def fnAllowanceRow : OpenClaim := { program := "ytkdajdafhjobbaa", sum := "a12cfaa416f6801d6dc793fea84052fb484c053c0f927fb8e719067f207b9a31", func := "loop.example/g01921/laws.FnAllowance", spec := "fnAllowance", recurses := true, apart := false }
def FnAllowanceSaid : Prop := fnAllowanceRow.holds Try.pinned (OpenSpec.ofChange fnAllowanceSpec)

/-- ITS FALSE NEIGHBOUR: 'it returns false'. Refute it at one input. -/
def fnAllowanceWrong : ChangeSpec := { name := "fnAllowance", fn := fun _ => fun
  | [d] => { results := [.lit (.bool false)], args := [d] }
  | _ => none }
def FnAllowanceWrongFalsely : Prop := fnAllowanceRow.holds Try.pinned (OpenSpec.ofChange fnAllowanceWrong)

/-- 'laws.FnExactScanStream': WHATEVER THE INPUT: true; the input reads as it did. -/
def fnExactScanStreamSpec : ChangeSpec := { name := "fnExactScanStream", fn := fun _ => fun
  | [d1, d2, d3] => { results := [.lit (.bool true)], args := [d1, d2, d3] }
  | _ => none }
def fnExactScanStreamRow : OpenClaim := { program := "ytkdajdafhjobbaa", sum := "a12cfaa416f6801d6dc793fea84052fb484c053c0f927fb8e719067f207b9a31", func := "loop.example/g01921/laws.FnExactScanStream", spec := "fnExactScanStream", unfollowed := true, recurses := true, apart := false }
def FnExactScanStreamSaid : Prop := fnExactScanStreamRow.holds Try.pinned (OpenSpec.ofChange fnExactScanStreamSpec)

/-- ITS FALSE NEIGHBOUR: 'it returns false'. Refute it at one input. -/
def fnExactScanStreamWrong : ChangeSpec := { name := "fnExactScanStream", fn := fun _ => fun
  | [d1, d2, d3] => { results := [.lit (.bool false)], args := [d1, d2, d3] }
  | _ => none }
def FnExactScanStreamWrongFalsely : Prop := fnExactScanStreamRow.holds Try.pinned (OpenSpec.ofChange fnExactScanStreamWrong)

/-- 'laws.FnJoins': WHATEVER THE INPUT: true; the input reads as it did. -/
def fnJoinsSpec : ChangeSpec := { name := "fnJoins", fn := fun _ => fun
  | [d] => { results := [.lit (.bool true)], args := [d] }
  | _ => none }
def fnJoinsRow : OpenClaim := { program := "ytkdajdafhjobbaa", sum := "a12cfaa416f6801d6dc793fea84052fb484c053c0f927fb8e719067f207b9a31", func := "loop.example/g01921/laws.FnJoins", spec := "fnJoins", unfollowed := true, recurses := true, apart := false }
def FnJoinsSaid : Prop := fnJoinsRow.holds Try.pinned (OpenSpec.ofChange fnJoinsSpec)

/-- ITS FALSE NEIGHBOUR: 'it returns false'. Refute it at one input. -/
def fnJoinsWrong : ChangeSpec := { name := "fnJoins", fn := fun _ => fun
  | [d] => { results := [.lit (.bool false)], args := [d] }
  | _ => none }
def FnJoinsWrongFalsely : Prop := fnJoinsRow.holds Try.pinned (OpenSpec.ofChange fnJoinsWrong)

/- THE SECOND FORM. 'bulk': how many values and letters a reading holds, each counted each time it is reached (what is shared counts as often as it is met; a slice's spare places count too). A statement '..UptoSaid' is the law's where the arguments, and the package variables that the reading takes, are together of bulk at most 1048576: NARROWER than '..Said'. Prove '..Said' where nothing that the law and all that it calls make is longer than what came in: it says more and counts as full. Else prove '..UptoSaid'. A law counts once. -/
mutual
def uptoBulk {H : Type} : DataW H → Nat
  | .lit (.string bytes) => bytes.length + 1
  | .lit _ => 1
  | .nil => 1
  | .ptr d => uptoBulk d + 1
  | .slice elems spare => uptoBulkAll elems + uptoBulkAll spare + 1
  | .agg parts => uptoBulkAll parts + 1
  | .iface _ d => uptoBulk d + 1
  | .map entries => uptoBulkEntries entries + 1
  | .held _ => 1
def uptoBulkAll {H : Type} : List (DataW H) → Nat
  | [] => 0
  | d :: r => uptoBulk d + uptoBulkAll r
def uptoBulkEntries {H : Type} : List (Lit × DataW H) → Nat
  | [] => 0
  | x :: r => uptoBulkEntry x + uptoBulkEntries r
def uptoBulkEntry {H : Type} : Lit × DataW H → Nat
  | (.string bytes, d) => bytes.length + uptoBulk d + 1
  | (_, d) => uptoBulk d + 1
 end
def uptoSmall : (H : Type) → List (DataW H) → Bool := fun _ ds => decide (uptoBulkAll ds ≤ 1048576)
def OpenSpec.upto (s : _root_.Go.ChangeSpec) : _root_.Go.OpenSpec := { _root_.Go.OpenSpec.ofChange s with cond := some uptoSmall }

/-- 'laws.FnLearning', WHERE WHAT IT READS IS OF BULK AT MOST 1048576: true; the input reads as it did. -/
def fnLearningUptoRow : OpenClaim := { program := "ytkdajdafhjobbaa", sum := "a12cfaa416f6801d6dc793fea84052fb484c053c0f927fb8e719067f207b9a31", func := "loop.example/g01921/laws.FnLearning", spec := "fnLearning", apart := false, narrowed := true }
def FnLearningUptoSaid : Prop := fnLearningUptoRow.holds Try.pinned (OpenSpec.upto fnLearningSpec)

/-- 'laws.FnAllowance', WHERE WHAT IT READS IS OF BULK AT MOST 1048576: true; the input reads as it did. -/
def fnAllowanceUptoRow : OpenClaim := { program := "ytkdajdafhjobbaa", sum := "a12cfaa416f6801d6dc793fea84052fb484c053c0f927fb8e719067f207b9a31", func := "loop.example/g01921/laws.FnAllowance", spec := "fnAllowance", recurses := true, apart := false, narrowed := true }
def FnAllowanceUptoSaid : Prop := fnAllowanceUptoRow.holds Try.pinned (OpenSpec.upto fnAllowanceSpec)

/-- 'laws.FnExactScanStream', WHERE WHAT IT READS IS OF BULK AT MOST 1048576: true; the input reads as it did. -/
def fnExactScanStreamUptoRow : OpenClaim := { program := "ytkdajdafhjobbaa", sum := "a12cfaa416f6801d6dc793fea84052fb484c053c0f927fb8e719067f207b9a31", func := "loop.example/g01921/laws.FnExactScanStream", spec := "fnExactScanStream", unfollowed := true, recurses := true, apart := false, narrowed := true }
def FnExactScanStreamUptoSaid : Prop := fnExactScanStreamUptoRow.holds Try.pinned (OpenSpec.upto fnExactScanStreamSpec)

/-- 'laws.FnJoins', WHERE WHAT IT READS IS OF BULK AT MOST 1048576: true; the input reads as it did. -/
def fnJoinsUptoRow : OpenClaim := { program := "ytkdajdafhjobbaa", sum := "a12cfaa416f6801d6dc793fea84052fb484c053c0f927fb8e719067f207b9a31", func := "loop.example/g01921/laws.FnJoins", spec := "fnJoins", unfollowed := true, recurses := true, apart := false, narrowed := true }
def FnJoinsUptoSaid : Prop := fnJoinsUptoRow.holds Try.pinned (OpenSpec.upto fnJoinsSpec)

end Rows
end Go.Proofs.Ytkdajdafhjobbaa
