/-
  To
-/
import Derived.Test.YtnlcfkpcmfljeaaGreatTypes
set_option linter.unusedSimpArgs false
set_option linter.unusedVariables false
namespace Go.Proofs.YtnlcfkpcmfljeaaGreat
open Go.RowKit
theorem eiIntS:Ei Tryz.prog 83 30 (.slice none 0 0) (rSlice NB 3 rInt).size 24:=⟨by kernel_rfl,by kernel_rfl,rfl⟩
theorem eiCostStep:Ei Tryz.prog 42 205 (.agg #[.int .i64 0,.int .i64 0]) (rCostStep NB).size 16:=⟨by kernel_rfl,by kernel_rfl,rfl⟩
theorem eiPlanStep:Ei Tryz.prog 74 173 (.agg #[.int .i64 0,.int .i64 0,.int .i64 0]) (rPlanStep NB).size 24:=⟨by kernel_rfl,by kernel_rfl,rfl⟩
theorem eiPlan:Ei Tryz.prog 37 76 (.agg #[.slice none 0 0]) (rPlan NB).size 24:=⟨by kernel_rfl,by kernel_rfl,rfl⟩
end Go.Proofs.YtnlcfkpcmfljeaaGreat
