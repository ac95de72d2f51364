/-
  Fmi
-/
import Derived.Test.YtnbikckbnbgjkaaDoorFmt
import Derived.Test.YtnbikckbnbgjkaaDoorShelf
import Derived.Lib.SmallJoins
import Derived.Lib.AppendIntMem
namespace Go.Proofs.YtnbikckbnbgjkaaDoor
open Go.RowKit
set_option linter.unusedVariables false
set_option linter.unusedSimpArgs false

/-- the library's table of the powers of ten -/
def Tab (w : World) : Prop := Lib.TabIs Tryd.prog w "internal/strconv.uint64pow10" .u64 Lib.pow10Tab
theorem globalTab : ∃ g, Tryd.prog.globalNamed "internal/strconv.uint64pow10" = some g := by
 have h : (Tryd.prog.globalNamed "internal/strconv.uint64pow10").isSome = true := by kernel_rfl
 exact Option.isSome_iff_exists.1 h
theorem Tab.below {w w' : World} (h : Tab w) (hb : Below w.heap.size w w') : Tab w' := by
 obtain ⟨g, hg⟩ := globalTab
 exact Joins.var_stays hg h hb (Nat.le_refl _)
set_option maxRecDepth 100000 in
set_option maxHeartbeats 1600000 in
theorem iFormatInt_c (n : Int) (w : World) (h : I64 n) (ht : Tab w) : Calls Tryd.prog 27 #[.int .i64 n] w fun e w' => e = .returned (.string (fmtI n)) ∧ Below w.heap.size w w' := by
 have K := Lib.hid (Tryd.strconv_Itoa n h.1 h.2 w ht)
 go_enter Tryd.func27, Tryd.ntmps27
 go_wp2_with (go_at_call 53; refine K.out.mono ?_; rintro e w' ⟨rfl, k, os, rfl⟩)
 go_ret
 exact ⟨rfl, Lib.below_grow _ _ (Nat.le_refl _) _ _⟩
end Go.Proofs.YtnbikckbnbgjkaaDoor
