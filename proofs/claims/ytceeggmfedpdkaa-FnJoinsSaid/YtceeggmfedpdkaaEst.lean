/-
  Est
-/
import Derived.Test.YtceeggmfedpdkaaEqLib
import Derived.Test.YtceeggmfedpdkaaEqObs
import Derived.Test.YtceeggmfedpdkaaStrP
namespace Go.Proofs.Ytceeggmfedpdkaa
open Go.RowKit
theorem stm_eq (x y : StreamD) : (x = y) ↔ (x.fVars = y.fVars ∧ x.fRows = y.fRows) := by cases x; cases y; simp
set_option maxHeartbeats 800000 in
theorem iEqualStreams_c (cs cs' : List Value) (x y : StreamD) (w : World) (h : (rStream NB).rep w cs x) (h' : (rStream NB).rep w cs' y) :
  Calls Try.prog 19 #[.agg cs.toArray, .agg cs'.toArray] w fun e w' => e = .returned (.bool (decide (x = y))) ∧ Below w.heap.size w w' := by
 obtain ⟨A1, n1, c1, A2, n2, c2, rfl, h1, h2⟩ := rStream_rep.1 h
 obtain ⟨A3, n3, c3, A4, n4, c4, rfl, h3, h4⟩ := rStream_rep.1 h'
 clear h h'
 have hA := (Below.refl w.heap.size w).alloc (Nat.le_refl _) (.cells #[.slice A1 n1 c1, .slice A2 n2 c2] 40)
 have hB := hA.alloc (by simp) (.cells #[.slice A3 n3 c3, .slice A4 n4 c4] 40)
 have bx := (Bx.new w [.slice A1 n1 c1, .slice A2 n2 c2] 40).below ((Below.refl _ _).alloc (Nat.le_refl _) (.cells #[.slice A3 n3 c3, .slice A4 n4 c4] 40))
 have by_ := Bx.new (w.alloc (.cells #[.slice A1 n1 c1, .slice A2 n2 c2] 40)) [.slice A3 n3 c3, .slice A4 n4 c4] 40
 simp only [World.size_alloc] at by_
 go_enter Try.func19, Try.ntmps19
 go_wp2_with fail
 refine (equalInts_c _ _ _ _ _ _ _ _ _ (h1.below rInt_ok hB) (h3.below rInt_ok hB)).mono ?_
 rintro e w1 ⟨rfl, hq⟩
 have hb1 := hq.below (World.heap ((w.alloc (.cells #[.slice A1 n1 c1, .slice A2 n2 c2] 40)).alloc (.cells #[.slice A3 n3 c3, .slice A4 n4 c4] 40))).size
 clear hq hA
 replace hB := hB.trans (hb1.mono hB.size)
 replace bx := bx.below hb1
 replace by_ := by_.below hb1
 clear hb1
 have b0 := bx 1 _ rfl
 have b1 := by_ 1 _ rfl
 by_cases e1 : x.fVars = y.fVars
 ·have d1 : decide (x.fVars = y.fVars) = true := by simp [e1]
  have E1 := Lib.hid e1; clear e1
  go_wp2_with fail
  refine (equalRows_c _ _ _ _ _ _ _ _ _ (h2.below (rSlice_ok _ _ rInt_ok) hB) (h4.below (rSlice_ok _ _ rInt_ok) hB)).mono ?_
  rintro e w2 ⟨rfl, hq⟩
  replace hB := hB.trans ((hq.below w1.heap.size).mono hB.size)
  go_wp2
  go_ret
  exact ⟨ret_bool (by rw [decide_eq_decide, stm_eq, E1.out]; simp), hB⟩
 ·have d1 : decide (x.fVars = y.fVars) = false := by simp [e1]
  go_wp2
  go_ret
  exact ⟨ret_bool (a := false) (by symm; rw [decide_eq_false_iff_not, stm_eq]; exact fun hh => e1 hh.1), hB⟩
end Go.Proofs.Ytceeggmfedpdkaa
