/-
  To
-/
import Derived.Test.YtceeggmfedpdkaaTypes
namespace Go.Proofs.Ytceeggmfedpdkaa
open Go.RowKit
set_option linter.unusedVariables false
set_option linter.unusedSimpArgs false

theorem eiIntS : Ei Try.prog 38 37 (.slice none 0 0) (rSlice NB 3 rInt).size 24 := ⟨by kernel_rfl, by kernel_rfl, rfl⟩
theorem eiTable : Ei Try.prog 54 124 (.agg #[.string ByteArray.empty, .int .i64 0, .slice none 0 0]) (rTable NB).size 48 := ⟨by kernel_rfl, by kernel_rfl, rfl⟩
theorem eiAtom : Ei Try.prog 57 143 (.agg #[.string ByteArray.empty, .slice none 0 0]) (rAtom NB).size 40 := ⟨by kernel_rfl, by kernel_rfl, rfl⟩
theorem eiCostStep : Ei Try.prog 24 105 (.agg #[.int .i64 0, .int .i64 0]) (rCostStep NB).size 16 := ⟨by kernel_rfl, by kernel_rfl, rfl⟩
theorem eiPlanStep : Ei Try.prog 60 130 (.agg #[.int .i64 0, .int .i64 0, .int .i64 0]) (rPlanStep NB).size 24 := ⟨by kernel_rfl, by kernel_rfl, rfl⟩






















































end Go.Proofs.Ytceeggmfedpdkaa
