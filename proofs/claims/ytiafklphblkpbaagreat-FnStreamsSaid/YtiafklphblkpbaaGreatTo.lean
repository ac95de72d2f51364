/-
  To
-/
import Derived.Test.YtiafklphblkpbaaGreatTypes
namespace Go.Proofs.YtiafklphblkpbaaGreat
open Go.RowKit
set_option linter.unusedVariables false
set_option linter.unusedSimpArgs false

theorem eiIntS:Ei Tryz.prog 49 24 (.slice none 0 0) (rSlice NB 3 rInt).size 24:=⟨by kernel_rfl,by kernel_rfl,rfl⟩
theorem eiTable:Ei Tryz.prog 41 82 (.agg #[.string ByteArray.empty,.int .i64 0,.slice none 0 0]) (rTable NB).size 48:=⟨by kernel_rfl,by kernel_rfl,rfl⟩
theorem eiAtom:Ei Tryz.prog 44 57 (.agg #[.string ByteArray.empty,.slice none 0 0]) (rAtom NB).size 40:=⟨by kernel_rfl,by kernel_rfl,rfl⟩
theorem eiCostStep:Ei Tryz.prog 62 183 (.agg #[.int .i64 0,.int .i64 0]) (rCostStep NB).size 16:=⟨by kernel_rfl,by kernel_rfl,rfl⟩
theorem eiPlanStep:Ei Tryz.prog 160 205 (.agg #[.int .i64 0,.int .i64 0,.int .i64 0]) (rPlanStep NB).size 24:=⟨by kernel_rfl,by kernel_rfl,rfl⟩
theorem eiPlan:Ei Tryz.prog 27 162 (.agg #[.slice none 0 0]) (rPlan NB).size 24:=⟨by kernel_rfl,by kernel_rfl,rfl⟩






















































end Go.Proofs.YtiafklphblkpbaaGreat
