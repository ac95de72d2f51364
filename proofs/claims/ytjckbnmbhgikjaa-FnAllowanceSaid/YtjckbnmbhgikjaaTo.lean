/-
  To
-/
import Derived.Test.YtjckbnmbhgikjaaTypes
namespace Go.Proofs.Ytjckbnmbhgikjaa
open Go.RowKit
set_option linter.unusedVariables false
set_option linter.unusedSimpArgs false

theorem eiIntS:Ei Try.prog 82 51 (.slice none 0 0) (rSlice NB 3 rInt).size 24:=⟨by kernel_rfl,by kernel_rfl,rfl⟩
theorem eiTable:Ei Try.prog 38 84 (.agg #[.string ByteArray.empty,.int .i64 0,.slice none 0 0]) (rTable NB).size 48:=⟨by kernel_rfl,by kernel_rfl,rfl⟩
theorem eiAtom:Ei Try.prog 41 100 (.agg #[.string ByteArray.empty,.slice none 0 0]) (rAtom NB).size 40:=⟨by kernel_rfl,by kernel_rfl,rfl⟩
theorem eiCostStep:Ei Try.prog 24 70 (.agg #[.int .i64 0,.int .i64 0]) (rCostStep NB).size 16:=⟨by kernel_rfl,by kernel_rfl,rfl⟩
theorem eiPlanStep:Ei Try.prog 44 90 (.agg #[.int .i64 0,.int .i64 0,.int .i64 0]) (rPlanStep NB).size 24:=⟨by kernel_rfl,by kernel_rfl,rfl⟩






















































end Go.Proofs.Ytjckbnmbhgikjaa
