/-
  Contracts: runs compared.
-/
import Derived.Test.YtajdikbammfbjaaAns
namespace Go.Proofs.Ytajdikbammfbjaa
open Go.RowKit

theorem run_eq (x y : RunD) : (x = y) ↔ (x.fDone = y.fDone ∧ x.fCost = y.fCost ∧ x.fSteps = y.fSteps ∧ x.fSeen = y.fSeen ∧ x.fAnswer = y.fAnswer) := by cases x; cases y; simp

set_option maxRecDepth 100000 in
set_option maxHeartbeats 1600000 in
theorem iEqualRuns_c (cs cs' : List Value) (x y : RunD) (w : World) (h : (rRun NB).rep w cs x) (h' : (rRun NB).rep w cs' y) :
    Calls Try.prog 58 #[.agg cs.toArray, .agg cs'.toArray] w fun e w' => e = .returned (.bool (decide (x = y))) ∧ Below w.heap.size w w' := by
  obtain ⟨A1, n1, c1, A2, n2, c2, A3, n3, c3, rfl, i1, i2, h1, h2, h3⟩ := rRun_rep.1 h
  obtain ⟨A4, n4, c4, A5, n5, c5, A6, n6, c6, rfl, i3, i4, h4, h5, h6⟩ := rRun_rep.1 h'
  clear h h'
  have hA := (Below.refl w.heap.size w).alloc (Nat.le_refl _) (.cells #[.bool x.fDone, .int .i64 x.fCost, .int .i64 x.fSteps, .slice A1 n1 c1, .slice A2 n2 c2, .slice A3 n3 c3] 89)
  have hB := hA.alloc (by simp) (.cells #[.bool y.fDone, .int .i64 y.fCost, .int .i64 y.fSteps, .slice A4 n4 c4, .slice A5 n5 c5, .slice A6 n6 c6] 89)
  clear hA
  by_cases e1 : x.fDone = y.fDone
  rotate_left
  · have d1 : (x.fDone == y.fDone) = false := by simp [e1]
    go_enter Try.func58, Try.ntmps58
    go_wp2
    go_ret
    exact ⟨ret_bool (a := false) (by symm; rw [decide_eq_false_iff_not, run_eq]; exact fun hh => e1 hh.1), hB⟩
  have d1 : (x.fDone == y.fDone) = true := by simp [e1]
  have E1 := Lib.hid e1; clear e1
  by_cases e2 : x.fCost = y.fCost
  rotate_left
  · have d2 : (x.fCost == y.fCost) = false := by simp [e2]
    go_enter Try.func58, Try.ntmps58
    go_wp2
    go_ret
    exact ⟨ret_bool (a := false) (by symm; rw [decide_eq_false_iff_not, run_eq]; exact fun hh => e2 hh.2.1), hB⟩
  have d2 : (x.fCost == y.fCost) = true := by simp [e2]
  have E2 := Lib.hid e2; clear e2
  by_cases e3 : x.fSteps = y.fSteps
  rotate_left
  · have d3 : (x.fSteps == y.fSteps) = false := by simp [e3]
    go_enter Try.func58, Try.ntmps58
    go_wp2
    go_ret
    exact ⟨ret_bool (a := false) (by symm; rw [decide_eq_false_iff_not, run_eq]; exact fun hh => e3 hh.2.2.1), hB⟩
  have d3 : (x.fSteps == y.fSteps) = true := by simp [e3]
  have E3 := Lib.hid e3; clear e3
  have bx := (Bx.new w [.bool x.fDone, .int .i64 x.fCost, .int .i64 x.fSteps, .slice A1 n1 c1, .slice A2 n2 c2, .slice A3 n3 c3] 89).below ((Below.refl _ _).alloc (Nat.le_refl _) (.cells #[.bool y.fDone, .int .i64 y.fCost, .int .i64 y.fSteps, .slice A4 n4 c4, .slice A5 n5 c5, .slice A6 n6 c6] 89))
  have by_ := Bx.new (w.alloc (.cells #[.bool x.fDone, .int .i64 x.fCost, .int .i64 x.fSteps, .slice A1 n1 c1, .slice A2 n2 c2, .slice A3 n3 c3] 89)) [.bool y.fDone, .int .i64 y.fCost, .int .i64 y.fSteps, .slice A4 n4 c4, .slice A5 n5 c5, .slice A6 n6 c6] 89
  simp only [World.size_alloc] at by_
  go_enter Try.func58, Try.ntmps58
  go_wp2_with fail
  refine (equalObs_c _ _ _ _ _ _ _ _ _ (h1.below (rObservation_ok _) hB) (h4.below (rObservation_ok _) hB)).mono ?_
  rintro e w1 ⟨rfl, hq⟩
  have hb1 := hq.below (World.heap ((w.alloc (.cells #[.bool x.fDone, .int .i64 x.fCost, .int .i64 x.fSteps, .slice A1 n1 c1, .slice A2 n2 c2, .slice A3 n3 c3] 89)).alloc (.cells #[.bool y.fDone, .int .i64 y.fCost, .int .i64 y.fSteps, .slice A4 n4 c4, .slice A5 n5 c5, .slice A6 n6 c6] 89))).size
  clear hq
  replace hB := hB.trans (hb1.mono hB.size)
  replace bx := bx.below hb1
  replace by_ := by_.below hb1
  clear hb1
  have b0 := bx 4 _ rfl
  have b1 := bx 5 _ rfl
  have b2 := by_ 4 _ rfl
  have b3 := by_ 5 _ rfl
  by_cases e4 : x.fSeen = y.fSeen
  · have d4 : decide (x.fSeen = y.fSeen) = true := by simp [e4]
    have E4 := Lib.hid e4; clear e4
    go_wp2_with fail
    refine (iEqualAnswers_c _ _ x.fAnswer y.fAnswer _ (rAnswer_rep.2 ⟨A2, n2, c2, A3, n3, c3, rfl, h2.below rInt_ok hB, h3.below (rSlice_ok _ _ rInt_ok) hB⟩) (rAnswer_rep.2 ⟨A5, n5, c5, A6, n6, c6, rfl, h5.below rInt_ok hB, h6.below (rSlice_ok _ _ rInt_ok) hB⟩)).mono ?_
    rintro e w2 ⟨rfl, hb2⟩
    replace hB := hB.trans (hb2.mono hB.size)
    go_wp2
    go_ret
    exact ⟨ret_bool (by rw [decide_eq_decide, run_eq, E1.out, E2.out, E3.out, E4.out]; simp), hB⟩
  · have d4 : decide (x.fSeen = y.fSeen) = false := by simp [e4]
    go_wp2
    go_ret
    exact ⟨ret_bool (a := false) (by symm; rw [decide_eq_false_iff_not, run_eq]; exact fun hh => e4 hh.2.2.2.1), hB⟩
set_option maxRecDepth 100000 in
set_option maxHeartbeats 1600000 in
theorem sEqualRuns_c (cs cs' : List Value) (x y : RunD) (w : World) (h : (rRun NB).rep w cs x) (h' : (rRun NB).rep w cs' y) :
    Calls Try.prog 56 #[.agg cs.toArray, .agg cs'.toArray] w fun e w' => e = .returned (.bool (decide (x = y))) ∧ Below w.heap.size w w' := by
  obtain ⟨A1, n1, c1, A2, n2, c2, A3, n3, c3, rfl, i1, i2, h1, h2, h3⟩ := rRun_rep.1 h
  obtain ⟨A4, n4, c4, A5, n5, c5, A6, n6, c6, rfl, i3, i4, h4, h5, h6⟩ := rRun_rep.1 h'
  clear h h'
  have hn1 := h1.bound
  have hn4 := h4.bound
  have hA := (Below.refl w.heap.size w).alloc (Nat.le_refl _) (.cells #[.bool x.fDone, .int .i64 x.fCost, .int .i64 x.fSteps, .slice A1 n1 c1, .slice A2 n2 c2, .slice A3 n3 c3] 89)
  have hB := hA.alloc (by simp) (.cells #[.bool y.fDone, .int .i64 y.fCost, .int .i64 y.fSteps, .slice A4 n4 c4, .slice A5 n5 c5, .slice A6 n6 c6] 89)
  clear hA
  by_cases e1 : x.fDone = y.fDone
  rotate_left
  · have d1 : (x.fDone == y.fDone) = false := by simp [e1]
    go_enter Try.func56, Try.ntmps56
    go_wp2
    go_ret
    exact ⟨ret_bool (a := false) (by symm; rw [decide_eq_false_iff_not, run_eq]; exact fun hh => e1 hh.1), hB⟩
  have d1 : (x.fDone == y.fDone) = true := by simp [e1]
  have E1 := Lib.hid e1; clear e1
  by_cases e2 : x.fCost = y.fCost
  rotate_left
  · have d2 : (x.fCost != y.fCost) = true := by simp [e2]
    go_enter Try.func56, Try.ntmps56
    go_wp2
    go_ret
    exact ⟨ret_bool (a := false) (by symm; rw [decide_eq_false_iff_not, run_eq]; exact fun hh => e2 hh.2.1), hB⟩
  have d2 : (x.fCost != y.fCost) = false := by simp [e2]
  have E2 := Lib.hid e2; clear e2
  by_cases e3 : x.fSteps = y.fSteps
  rotate_left
  · have d3 : (x.fSteps != y.fSteps) = true := by simp [e3]
    go_enter Try.func56, Try.ntmps56
    go_wp2
    go_ret
    exact ⟨ret_bool (a := false) (by symm; rw [decide_eq_false_iff_not, run_eq]; exact fun hh => e3 hh.2.2.1), hB⟩
  have d3 : (x.fSteps != y.fSteps) = false := by simp [e3]
  have E3 := Lib.hid e3; clear e3
  by_cases e4 : n1 = n4
  rotate_left
  · have d4 : ((n1 : Int) != (n4 : Int)) = true := by simp; omega
    go_enter Try.func56, Try.ntmps56
    go_wp2
    go_ret
    exact ⟨ret_bool (a := false) (by symm; rw [decide_eq_false_iff_not, run_eq]; exact fun hh => e4 (by rw [← h1.len, ← h4.len, hh.2.2.2.1])), hB⟩
  subst e4
  have d4 : ((n1 : Int) != (n1 : Int)) = false := by simp
  have bx := (Bx.new w [.bool x.fDone, .int .i64 x.fCost, .int .i64 x.fSteps, .slice A1 n1 c1, .slice A2 n2 c2, .slice A3 n3 c3] 89).below ((Below.refl _ _).alloc (Nat.le_refl _) (.cells #[.bool y.fDone, .int .i64 y.fCost, .int .i64 y.fSteps, .slice A4 n1 c4, .slice A5 n5 c5, .slice A6 n6 c6] 89))
  have by_ := Bx.new (w.alloc (.cells #[.bool x.fDone, .int .i64 x.fCost, .int .i64 x.fSteps, .slice A1 n1 c1, .slice A2 n2 c2, .slice A3 n3 c3] 89)) [.bool y.fDone, .int .i64 y.fCost, .int .i64 y.fSteps, .slice A4 n1 c4, .slice A5 n5 c5, .slice A6 n6 c6] 89
  simp only [World.size_alloc] at by_
  go_enter Try.func56, Try.ntmps56
  go_wp2_with fail
  refine (sEqualAnswers_c _ _ x.fAnswer y.fAnswer _ (rAnswer_rep.2 ⟨A2, n2, c2, A3, n3, c3, rfl, h2.below rInt_ok hB, h3.below (rSlice_ok _ _ rInt_ok) hB⟩) (rAnswer_rep.2 ⟨A5, n5, c5, A6, n6, c6, rfl, h5.below rInt_ok hB, h6.below (rSlice_ok _ _ rInt_ok) hB⟩)).mono ?_
  rintro e w1 ⟨rfl, hb1⟩
  replace hB := hB.trans (hb1.mono hB.size)
  replace bx := bx.below hb1
  replace by_ := by_.below hb1
  clear hb1
  by_cases e5 : x.fAnswer = y.fAnswer
  rotate_left
  · have d5 : decide (x.fAnswer = y.fAnswer) = false := by simp [e5]
    go_wp2
    go_ret
    exact ⟨ret_bool (a := false) (by symm; rw [decide_eq_false_iff_not, run_eq]; exact fun hh => e5 hh.2.2.2.2), hB⟩
  have d5 : decide (x.fAnswer = y.fAnswer) = true := by simp [e5]
  have E5 := Lib.hid e5; clear e5
  go_wp2
  go_loopw [5] (fun i wr => ∃ k : Nat, k ≤ n1 ∧ i = .int .i64 k ∧ x.fSeen.take k = y.fSeen.take k ∧ Below w.heap.size w wr ∧ Bx wr w.heap.size [.bool x.fDone, .int .i64 x.fCost, .int .i64 x.fSteps, .slice A1 n1 c1, .slice A2 n2 c2, .slice A3 n3 c3] ∧ Bx wr (w.heap.size + 1) [.bool y.fDone, .int .i64 y.fCost, .int .i64 y.fSteps, .slice A4 n1 c4, .slice A5 n5 c5, .slice A6 n6 c6]) (fun i _ => n1 - (intOf i).toNat)
  case atStart => exact ⟨0, Nat.zero_le _, rfl, rfl, hB, bx, by_⟩
  case round =>
    clear bx by_ hB
    obtain ⟨k, hk, rfl, heq, hB, bx, by_⟩ := hrel
    have HE := Lib.hid heq; clear heq
    have b0 := bx 3 _ rfl
    have b1 := by_ 3 _ rfl
    by_cases hlt : k < n1
    · obtain ⟨b, off, r, rfl, p0, p1, p2, _, _, hxk⟩ := (h1.below (rObservation_ok _) hB).obs hlt
      obtain ⟨b', off', r', rfl, p0', p1', p2', _, _, hxk'⟩ := (h4.below (rObservation_ok _) hB).obs hlt
      have hop := fun W => neqObs r r' W
      have g1 := guardObs
      by_cases hx : r = r'
      · have hb : decide (r = r') = true := by simp [hx]
        have HX := Lib.hid hx; clear hx
        go_wp2
        go_quiet (fail)
        go_wp2
        go_roundw
        case rel => exact ⟨k + 1, by omega, by go_num, take_eq_snoc HE.out hxk.out (HX.out ▸ hxk'.out), below_drewN hB _, bx, by_⟩
        case measure => simp [intOf]; omega
      · have hb : decide (r = r') = false := by simp [hx]
        go_wp2
        go_quiet (fail)
        go_wp2
        go_ret
        exact ⟨ret_bool (a := false) (by symm; rw [decide_eq_false_iff_not, run_eq]; exact fun hh => ne_of_at hxk.out hxk'.out hx hh.2.2.2.1), below_drewN hB _⟩
    · go_wp2
      go_ret
      have e6 : x.fSeen = y.fSeen := by rw [← take_all h1.len hlt, ← take_all h4.len hlt]; exact HE.out
      exact ⟨ret_bool (a := true) (by symm; rw [decide_eq_true_iff, run_eq]; exact ⟨E1.out, E2.out, E3.out, e6, E5.out⟩), hB⟩
end Go.Proofs.Ytajdikbammfbjaa
