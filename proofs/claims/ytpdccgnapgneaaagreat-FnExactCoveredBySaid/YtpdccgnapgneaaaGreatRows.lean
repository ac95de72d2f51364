/-
  No cell of these rows narrows 'for every input' (looked for: loops, veiled, ifaces, maps, wideKeys, modest, calm, conditions, laid).
  DERIVED. THE GIVEN ROWS OF THIS SEAT. 4 by the template 'for every input the law returns true; each argument reads behind the call as it read before'; 0 by the template 'total and deterministic' (their statements: YtpdccgnapgneaaaGreatTotals.lean).
  GIVEN WITH THE SEED: the statements are not yours to turn. If you find one false, say at which input.
  Laid BY PROGRAM, IN A SANDBOX (cutbox-rows.mjs): the forced cells as the released guide's own fill.sh prints them over the translation 66d3d383a82eac0b… (all of the seat's roots in one cut). By AI agents, Wed Nov 11 2026. No macro, syntax, notation, axiom, sorry.
-/
import Derived.Test.YtpdccgnapgneaaaGreatChecked
import GoSem.Claim
import GoSem.ClaimJoined
import GoSem.ClaimMapViews
import Derived.JoinedTies
import Derived.KernelRfl
namespace Go.Proofs.YtpdccgnapgneaaaGreat
/- THE CELL 'sum', in the pinned program and in every row, IS THE sha256 OF THE DUMP (.gsa) THAT YtpdccgnapgneaaaGreatProg.lean LOADS. Nothing in Lean hashes anything: it is a label: what it is worth is what the hold of that sum in a sandbox is worth. -/
noncomputable def Tryz.pinned : Pinned := { name := "ytpdccgnapgneaaagreat", sum := "66d3d383a82eac0bfc1398766a1fe4828ece59a53a7142f37bc749baeedd3f0e", checked := Tryz.checked }
namespace Rows
def none {H : Type} : Left H := { results := [], args := [] }

/-- 'laws.FnExactCoversLocation': WHATEVER THE INPUT: true; the input reads as it did. -/
def fnExactCoversLocationSpec : ChangeSpec := { name := "fnExactCoversLocation", fn := fun _ => fun
  | [d1, d2, d3, d4, d5, d6] => { results := [.lit (.bool true)], args := [d1, d2, d3, d4, d5, d6] }
  | _ => none }
def fnExactCoversLocationRow : OpenClaim := { program := "ytpdccgnapgneaaagreat", sum := "66d3d383a82eac0bfc1398766a1fe4828ece59a53a7142f37bc749baeedd3f0e", func := "loop.example/g01921/laws.FnExactCoversLocation", spec := "fnExactCoversLocation", apart := false }
def FnExactCoversLocationSaid : Prop := fnExactCoversLocationRow.holds Tryz.pinned (OpenSpec.ofChange fnExactCoversLocationSpec)

/-- ITS FALSE NEIGHBOUR: 'it returns false'. Refute it at one input. -/
def fnExactCoversLocationWrong : ChangeSpec := { name := "fnExactCoversLocation", fn := fun _ => fun
  | [d1, d2, d3, d4, d5, d6] => { results := [.lit (.bool false)], args := [d1, d2, d3, d4, d5, d6] }
  | _ => none }
def FnExactCoversLocationWrongFalsely : Prop := fnExactCoversLocationRow.holds Tryz.pinned (OpenSpec.ofChange fnExactCoversLocationWrong)

/-- 'laws.FnExactIsPlanCover': WHATEVER THE INPUT: true; the input reads as it did. -/
def fnExactIsPlanCoverSpec : ChangeSpec := { name := "fnExactIsPlanCover", fn := fun _ => fun
  | [d1, d2, d3, d4, d5, d6] => { results := [.lit (.bool true)], args := [d1, d2, d3, d4, d5, d6] }
  | _ => none }
def fnExactIsPlanCoverRow : OpenClaim := { program := "ytpdccgnapgneaaagreat", sum := "66d3d383a82eac0bfc1398766a1fe4828ece59a53a7142f37bc749baeedd3f0e", func := "loop.example/g01921/laws.FnExactIsPlanCover", spec := "fnExactIsPlanCover", unfollowed := true, recurses := true, apart := false }
def FnExactIsPlanCoverSaid : Prop := fnExactIsPlanCoverRow.holds Tryz.pinned (OpenSpec.ofChange fnExactIsPlanCoverSpec)

/-- ITS FALSE NEIGHBOUR: 'it returns false'. Refute it at one input. -/
def fnExactIsPlanCoverWrong : ChangeSpec := { name := "fnExactIsPlanCover", fn := fun _ => fun
  | [d1, d2, d3, d4, d5, d6] => { results := [.lit (.bool false)], args := [d1, d2, d3, d4, d5, d6] }
  | _ => none }
def FnExactIsPlanCoverWrongFalsely : Prop := fnExactIsPlanCoverRow.holds Tryz.pinned (OpenSpec.ofChange fnExactIsPlanCoverWrong)

/-- 'laws.FnExactCoveredBy': WHATEVER THE INPUT: true; the input reads as it did. -/
def fnExactCoveredBySpec : ChangeSpec := { name := "fnExactCoveredBy", fn := fun _ => fun
  | [d1, d2, d3, d4, d5, d6] => { results := [.lit (.bool true)], args := [d1, d2, d3, d4, d5, d6] }
  | _ => none }
def fnExactCoveredByRow : OpenClaim := { program := "ytpdccgnapgneaaagreat", sum := "66d3d383a82eac0bfc1398766a1fe4828ece59a53a7142f37bc749baeedd3f0e", func := "loop.example/g01921/laws.FnExactCoveredBy", spec := "fnExactCoveredBy", apart := false }
def FnExactCoveredBySaid : Prop := fnExactCoveredByRow.holds Tryz.pinned (OpenSpec.ofChange fnExactCoveredBySpec)

/-- ITS FALSE NEIGHBOUR: 'it returns false'. Refute it at one input. -/
def fnExactCoveredByWrong : ChangeSpec := { name := "fnExactCoveredBy", fn := fun _ => fun
  | [d1, d2, d3, d4, d5, d6] => { results := [.lit (.bool false)], args := [d1, d2, d3, d4, d5, d6] }
  | _ => none }
def FnExactCoveredByWrongFalsely : Prop := fnExactCoveredByRow.holds Tryz.pinned (OpenSpec.ofChange fnExactCoveredByWrong)

/-- 'laws.FnExactSimulateBouquet': WHATEVER THE INPUT: true; the input reads as it did. -/
def fnExactSimulateBouquetSpec : ChangeSpec := { name := "fnExactSimulateBouquet", fn := fun _ => fun
  | [d1, d2, d3, d4] => { results := [.lit (.bool true)], args := [d1, d2, d3, d4] }
  | _ => none }
def fnExactSimulateBouquetRow : OpenClaim := { program := "ytpdccgnapgneaaagreat", sum := "66d3d383a82eac0bfc1398766a1fe4828ece59a53a7142f37bc749baeedd3f0e", func := "loop.example/g01921/laws.FnExactSimulateBouquet", spec := "fnExactSimulateBouquet", apart := false }
def FnExactSimulateBouquetSaid : Prop := fnExactSimulateBouquetRow.holds Tryz.pinned (OpenSpec.ofChange fnExactSimulateBouquetSpec)

/-- ITS FALSE NEIGHBOUR: 'it returns false'. Refute it at one input. -/
def fnExactSimulateBouquetWrong : ChangeSpec := { name := "fnExactSimulateBouquet", fn := fun _ => fun
  | [d1, d2, d3, d4] => { results := [.lit (.bool false)], args := [d1, d2, d3, d4] }
  | _ => none }
def FnExactSimulateBouquetWrongFalsely : Prop := fnExactSimulateBouquetRow.holds Tryz.pinned (OpenSpec.ofChange fnExactSimulateBouquetWrong)

/- THE SECOND FORM. 'bulk': how many values and letters a reading holds, each counted each time it is reached (what is shared counts as often as it is met; a slice's spare places count too). A statement '..UptoSaid' is the law's where the arguments, and the package variables that the reading takes, are together of bulk at most 1048576: NARROWER than '..Said'. Prove '..Said' where nothing that the law and all that it calls make is longer than what came in: it says more and counts as full. Else prove '..UptoSaid'. A law counts once. -/
mutual
def uptoBulk {H : Type} : DataW H → Nat
  | .lit (.string bytes) => bytes.length + 1
  | .lit _ => 1
  | .nil => 1
  | .ptr d => uptoBulk d + 1
  | .slice elems spare => uptoBulkAll elems + uptoBulkAll spare + 1
  | .agg parts => uptoBulkAll parts + 1
  | .iface _ d => uptoBulk d + 1
  | .map entries => uptoBulkEntries entries + 1
  | .held _ => 1
def uptoBulkAll {H : Type} : List (DataW H) → Nat
  | [] => 0
  | d :: r => uptoBulk d + uptoBulkAll r
def uptoBulkEntries {H : Type} : List (Lit × DataW H) → Nat
  | [] => 0
  | x :: r => uptoBulkEntry x + uptoBulkEntries r
def uptoBulkEntry {H : Type} : Lit × DataW H → Nat
  | (.string bytes, d) => bytes.length + uptoBulk d + 1
  | (_, d) => uptoBulk d + 1
 end
def uptoSmall : (H : Type) → List (DataW H) → Bool := fun _ ds => decide (uptoBulkAll ds ≤ 1048576)
def OpenSpec.upto (s : _root_.Go.ChangeSpec) : _root_.Go.OpenSpec := { _root_.Go.OpenSpec.ofChange s with cond := some uptoSmall }

/-- 'laws.FnExactCoversLocation', WHERE WHAT IT READS IS OF BULK AT MOST 1048576: true; the input reads as it did. -/
def fnExactCoversLocationUptoRow : OpenClaim := { program := "ytpdccgnapgneaaagreat", sum := "66d3d383a82eac0bfc1398766a1fe4828ece59a53a7142f37bc749baeedd3f0e", func := "loop.example/g01921/laws.FnExactCoversLocation", spec := "fnExactCoversLocation", apart := false, narrowed := true }
def FnExactCoversLocationUptoSaid : Prop := fnExactCoversLocationUptoRow.holds Tryz.pinned (OpenSpec.upto fnExactCoversLocationSpec)

/-- 'laws.FnExactIsPlanCover', WHERE WHAT IT READS IS OF BULK AT MOST 1048576: true; the input reads as it did. -/
def fnExactIsPlanCoverUptoRow : OpenClaim := { program := "ytpdccgnapgneaaagreat", sum := "66d3d383a82eac0bfc1398766a1fe4828ece59a53a7142f37bc749baeedd3f0e", func := "loop.example/g01921/laws.FnExactIsPlanCover", spec := "fnExactIsPlanCover", unfollowed := true, recurses := true, apart := false, narrowed := true }
def FnExactIsPlanCoverUptoSaid : Prop := fnExactIsPlanCoverUptoRow.holds Tryz.pinned (OpenSpec.upto fnExactIsPlanCoverSpec)

/-- 'laws.FnExactCoveredBy', WHERE WHAT IT READS IS OF BULK AT MOST 1048576: true; the input reads as it did. -/
def fnExactCoveredByUptoRow : OpenClaim := { program := "ytpdccgnapgneaaagreat", sum := "66d3d383a82eac0bfc1398766a1fe4828ece59a53a7142f37bc749baeedd3f0e", func := "loop.example/g01921/laws.FnExactCoveredBy", spec := "fnExactCoveredBy", apart := false, narrowed := true }
def FnExactCoveredByUptoSaid : Prop := fnExactCoveredByUptoRow.holds Tryz.pinned (OpenSpec.upto fnExactCoveredBySpec)

/-- 'laws.FnExactSimulateBouquet', WHERE WHAT IT READS IS OF BULK AT MOST 1048576: true; the input reads as it did. -/
def fnExactSimulateBouquetUptoRow : OpenClaim := { program := "ytpdccgnapgneaaagreat", sum := "66d3d383a82eac0bfc1398766a1fe4828ece59a53a7142f37bc749baeedd3f0e", func := "loop.example/g01921/laws.FnExactSimulateBouquet", spec := "fnExactSimulateBouquet", apart := false, narrowed := true }
def FnExactSimulateBouquetUptoSaid : Prop := fnExactSimulateBouquetUptoRow.holds Tryz.pinned (OpenSpec.upto fnExactSimulateBouquetSpec)

end Rows
end Go.Proofs.YtpdccgnapgneaaaGreat
