/-
  To
-/
import Derived.Test.YtblbnbfghlkkfaaGreatTypes
namespace Go.Proofs.YtblbnbfghlkkfaaGreat
open Go.RowKit
set_option linter.unusedVariables false
set_option linter.unusedSimpArgs false

theorem eiIntS:Ei Tryz.prog 155 32 (.slice none 0 0) (rSlice NB 3 rInt).size 24:=⟨by kernel_rfl,by kernel_rfl,rfl⟩
theorem eiAtom:Ei Tryz.prog 29 148 (.agg #[.string ByteArray.empty,.slice none 0 0]) (rAtom NB).size 40:=⟨by kernel_rfl,by kernel_rfl,rfl⟩
theorem eiCostStep:Ei Tryz.prog 24 142 (.agg #[.int .i64 0,.int .i64 0]) (rCostStep NB).size 16:=⟨by kernel_rfl,by kernel_rfl,rfl⟩
theorem eiPlanStep:Ei Tryz.prog 71 140 (.agg #[.int .i64 0,.int .i64 0,.int .i64 0]) (rPlanStep NB).size 24:=⟨by kernel_rfl,by kernel_rfl,rfl⟩
theorem eiPlan:Ei Tryz.prog 35 73 (.agg #[.slice none 0 0]) (rPlan NB).size 24:=⟨by kernel_rfl,by kernel_rfl,rfl⟩






















































end Go.Proofs.YtblbnbfghlkkfaaGreat
