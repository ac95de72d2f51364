/-
  No cell of these rows narrows 'for every input' (looked for: loops, veiled, ifaces, maps, wideKeys, modest, calm, conditions, laid).
  DERIVED. THE GIVEN ROWS OF THIS SEAT. 4 by the template 'for every input the law returns true; each argument reads behind the call as it read before'; 0 by the template 'total and deterministic' (their statements: YtnlcfkpcmfljeaaGreatTotals.lean).
  GIVEN WITH THE SEED: the statements are not yours to turn. If you find one false, say at which input.
  Laid BY PROGRAM, IN A SANDBOX (cutbox-rows.mjs): the forced cells as the released guide's own fill.sh prints them over the translation 73e496c2149b8eb8… (all of the seat's roots in one cut). By AI agents, Wed Nov 11 2026. No macro, syntax, notation, axiom, sorry.
-/
import Derived.Test.YtnlcfkpcmfljeaaGreatChecked
import GoSem.Claim
import GoSem.ClaimJoined
import GoSem.ClaimMapViews
import Derived.JoinedTies
import Derived.KernelRfl
namespace Go.Proofs.YtnlcfkpcmfljeaaGreat
/- THE CELL 'sum', in the pinned program and in every row, IS THE sha256 OF THE DUMP (.gsa) THAT YtnlcfkpcmfljeaaGreatProg.lean LOADS. Nothing in Lean hashes anything: it is a label: what it is worth is what the hold of that sum in a sandbox is worth. -/
noncomputable def Tryz.pinned : Pinned := { name := "ytnlcfkpcmfljeaagreat", sum := "73e496c2149b8eb8ffd8ac6fe15a84c4762f259eb748777c2957f9be1b44ef49", checked := Tryz.checked }
namespace Rows
def none {H : Type} : Left H := { results := [], args := [] }

/-- 'laws.FnExactBuildSpace': WHATEVER THE INPUT: true; the input reads as it did. -/
def fnExactBuildSpaceSpec : ChangeSpec := { name := "fnExactBuildSpace", fn := fun _ => fun
  | [d1, d2, d3] => { results := [.lit (.bool true)], args := [d1, d2, d3] }
  | _ => none }
def fnExactBuildSpaceRow : OpenClaim := { program := "ytnlcfkpcmfljeaagreat", sum := "73e496c2149b8eb8ffd8ac6fe15a84c4762f259eb748777c2957f9be1b44ef49", func := "loop.example/g01921/laws.FnExactBuildSpace", spec := "fnExactBuildSpace", unfollowed := true, recurses := true, apart := false }
def FnExactBuildSpaceSaid : Prop := fnExactBuildSpaceRow.holds Tryz.pinned (OpenSpec.ofChange fnExactBuildSpaceSpec)

/-- ITS FALSE NEIGHBOUR: 'it returns false'. Refute it at one input. -/
def fnExactBuildSpaceWrong : ChangeSpec := { name := "fnExactBuildSpace", fn := fun _ => fun
  | [d1, d2, d3] => { results := [.lit (.bool false)], args := [d1, d2, d3] }
  | _ => none }
def FnExactBuildSpaceWrongFalsely : Prop := fnExactBuildSpaceRow.holds Tryz.pinned (OpenSpec.ofChange fnExactBuildSpaceWrong)

/-- 'laws.FnSpace': WHATEVER THE INPUT: true; the input reads as it did. -/
def fnSpaceSpec : ChangeSpec := { name := "fnSpace", fn := fun _ => fun
  | [d] => { results := [.lit (.bool true)], args := [d] }
  | _ => none }
def fnSpaceRow : OpenClaim := { program := "ytnlcfkpcmfljeaagreat", sum := "73e496c2149b8eb8ffd8ac6fe15a84c4762f259eb748777c2957f9be1b44ef49", func := "loop.example/g01921/laws.FnSpace", spec := "fnSpace", unfollowed := true, recurses := true, apart := false }
def FnSpaceSaid : Prop := fnSpaceRow.holds Tryz.pinned (OpenSpec.ofChange fnSpaceSpec)

/-- ITS FALSE NEIGHBOUR: 'it returns false'. Refute it at one input. -/
def fnSpaceWrong : ChangeSpec := { name := "fnSpace", fn := fun _ => fun
  | [d] => { results := [.lit (.bool false)], args := [d] }
  | _ => none }
def FnSpaceWrongFalsely : Prop := fnSpaceRow.holds Tryz.pinned (OpenSpec.ofChange fnSpaceWrong)

/-- 'laws.FnExactNextRun': WHATEVER THE INPUT: true; the input reads as it did. -/
def fnExactNextRunSpec : ChangeSpec := { name := "fnExactNextRun", fn := fun _ => fun
  | [d1, d2, d3, d4, d5, d6] => { results := [.lit (.bool true)], args := [d1, d2, d3, d4, d5, d6] }
  | _ => none }
def fnExactNextRunRow : OpenClaim := { program := "ytnlcfkpcmfljeaagreat", sum := "73e496c2149b8eb8ffd8ac6fe15a84c4762f259eb748777c2957f9be1b44ef49", func := "loop.example/g01921/laws.FnExactNextRun", spec := "fnExactNextRun", apart := false }
def FnExactNextRunSaid : Prop := fnExactNextRunRow.holds Tryz.pinned (OpenSpec.ofChange fnExactNextRunSpec)

/-- ITS FALSE NEIGHBOUR: 'it returns false'. Refute it at one input. -/
def fnExactNextRunWrong : ChangeSpec := { name := "fnExactNextRun", fn := fun _ => fun
  | [d1, d2, d3, d4, d5, d6] => { results := [.lit (.bool false)], args := [d1, d2, d3, d4, d5, d6] }
  | _ => none }
def FnExactNextRunWrongFalsely : Prop := fnExactNextRunRow.holds Tryz.pinned (OpenSpec.ofChange fnExactNextRunWrong)

/-- 'laws.FnExactIsProvedBouquet': WHATEVER THE INPUT: true; the input reads as it did. -/
def fnExactIsProvedBouquetSpec : ChangeSpec := { name := "fnExactIsProvedBouquet", fn := fun _ => fun
  | [d1, d2, d3] => { results := [.lit (.bool true)], args := [d1, d2, d3] }
  | _ => none }
def fnExactIsProvedBouquetRow : OpenClaim := { program := "ytnlcfkpcmfljeaagreat", sum := "73e496c2149b8eb8ffd8ac6fe15a84c4762f259eb748777c2957f9be1b44ef49", func := "loop.example/g01921/laws.FnExactIsProvedBouquet", spec := "fnExactIsProvedBouquet", unfollowed := true, recurses := true, apart := false }
def FnExactIsProvedBouquetSaid : Prop := fnExactIsProvedBouquetRow.holds Tryz.pinned (OpenSpec.ofChange fnExactIsProvedBouquetSpec)

/-- ITS FALSE NEIGHBOUR: 'it returns false'. Refute it at one input. -/
def fnExactIsProvedBouquetWrong : ChangeSpec := { name := "fnExactIsProvedBouquet", fn := fun _ => fun
  | [d1, d2, d3] => { results := [.lit (.bool false)], args := [d1, d2, d3] }
  | _ => none }
def FnExactIsProvedBouquetWrongFalsely : Prop := fnExactIsProvedBouquetRow.holds Tryz.pinned (OpenSpec.ofChange fnExactIsProvedBouquetWrong)

/- THE SECOND FORM. 'bulk': how many values and letters a reading holds, each counted each time it is reached (what is shared counts as often as it is met; a slice's spare places count too). A statement '..UptoSaid' is the law's where the arguments, and the package variables that the reading takes, are together of bulk at most 1048576: NARROWER than '..Said'. Prove '..Said' where nothing that the law and all that it calls make is longer than what came in: it says more and counts as full. Else prove '..UptoSaid'. A law counts once. -/
mutual
def uptoBulk {H : Type} : DataW H → Nat
  | .lit (.string bytes) => bytes.length + 1
  | .lit _ => 1
  | .nil => 1
  | .ptr d => uptoBulk d + 1
  | .slice elems spare => uptoBulkAll elems + uptoBulkAll spare + 1
  | .agg parts => uptoBulkAll parts + 1
  | .iface _ d => uptoBulk d + 1
  | .map entries => uptoBulkEntries entries + 1
  | .held _ => 1
def uptoBulkAll {H : Type} : List (DataW H) → Nat
  | [] => 0
  | d :: r => uptoBulk d + uptoBulkAll r
def uptoBulkEntries {H : Type} : List (Lit × DataW H) → Nat
  | [] => 0
  | x :: r => uptoBulkEntry x + uptoBulkEntries r
def uptoBulkEntry {H : Type} : Lit × DataW H → Nat
  | (.string bytes, d) => bytes.length + uptoBulk d + 1
  | (_, d) => uptoBulk d + 1
 end
def uptoSmall : (H : Type) → List (DataW H) → Bool := fun _ ds => decide (uptoBulkAll ds ≤ 1048576)
def OpenSpec.upto (s : _root_.Go.ChangeSpec) : _root_.Go.OpenSpec := { _root_.Go.OpenSpec.ofChange s with cond := some uptoSmall }

/-- 'laws.FnExactBuildSpace', WHERE WHAT IT READS IS OF BULK AT MOST 1048576: true; the input reads as it did. -/
def fnExactBuildSpaceUptoRow : OpenClaim := { program := "ytnlcfkpcmfljeaagreat", sum := "73e496c2149b8eb8ffd8ac6fe15a84c4762f259eb748777c2957f9be1b44ef49", func := "loop.example/g01921/laws.FnExactBuildSpace", spec := "fnExactBuildSpace", unfollowed := true, recurses := true, apart := false, narrowed := true }
def FnExactBuildSpaceUptoSaid : Prop := fnExactBuildSpaceUptoRow.holds Tryz.pinned (OpenSpec.upto fnExactBuildSpaceSpec)

/-- 'laws.FnSpace', WHERE WHAT IT READS IS OF BULK AT MOST 1048576: true; the input reads as it did. -/
def fnSpaceUptoRow : OpenClaim := { program := "ytnlcfkpcmfljeaagreat", sum := "73e496c2149b8eb8ffd8ac6fe15a84c4762f259eb748777c2957f9be1b44ef49", func := "loop.example/g01921/laws.FnSpace", spec := "fnSpace", unfollowed := true, recurses := true, apart := false, narrowed := true }
def FnSpaceUptoSaid : Prop := fnSpaceUptoRow.holds Tryz.pinned (OpenSpec.upto fnSpaceSpec)

/-- 'laws.FnExactNextRun', WHERE WHAT IT READS IS OF BULK AT MOST 1048576: true; the input reads as it did. -/
def fnExactNextRunUptoRow : OpenClaim := { program := "ytnlcfkpcmfljeaagreat", sum := "73e496c2149b8eb8ffd8ac6fe15a84c4762f259eb748777c2957f9be1b44ef49", func := "loop.example/g01921/laws.FnExactNextRun", spec := "fnExactNextRun", apart := false, narrowed := true }
def FnExactNextRunUptoSaid : Prop := fnExactNextRunUptoRow.holds Tryz.pinned (OpenSpec.upto fnExactNextRunSpec)

/-- 'laws.FnExactIsProvedBouquet', WHERE WHAT IT READS IS OF BULK AT MOST 1048576: true; the input reads as it did. -/
def fnExactIsProvedBouquetUptoRow : OpenClaim := { program := "ytnlcfkpcmfljeaagreat", sum := "73e496c2149b8eb8ffd8ac6fe15a84c4762f259eb748777c2957f9be1b44ef49", func := "loop.example/g01921/laws.FnExactIsProvedBouquet", spec := "fnExactIsProvedBouquet", unfollowed := true, recurses := true, apart := false, narrowed := true }
def FnExactIsProvedBouquetUptoSaid : Prop := fnExactIsProvedBouquetUptoRow.holds Tryz.pinned (OpenSpec.upto fnExactIsProvedBouquetSpec)

end Rows
end Go.Proofs.YtnlcfkpcmfljeaaGreat
