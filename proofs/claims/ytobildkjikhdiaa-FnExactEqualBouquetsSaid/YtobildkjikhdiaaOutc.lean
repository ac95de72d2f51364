/-
  Contracts: boxes and outcomes compared. Printed by mk_outc.py.
-/
import Derived.Test.YtobildkjikhdiaaAns
import Derived.Test.YtobildkjikhdiaaEqLib
namespace Go.Proofs.Ytobildkjikhdiaa
open Go.RowKit

theorem box_eq (x y : BoxD) : (x = y) ↔ (x.fLow = y.fLow ∧ x.fHigh = y.fHigh) := by cases x; cases y; simp
theorem outcome_eq (x y : OutcomeD) : (x = y) ↔ (x.fAnswer = y.fAnswer ∧ x.fTotal = y.fTotal ∧ x.fNotes = y.fNotes ∧ x.fBox = y.fBox) := by cases x; cases y; simp
theorem beq_eq_decide (a : Int) : (a == 0) = decide (a = 0) := by rw [Bool.eq_iff_iff]; simp

set_option maxRecDepth 100000 in
set_option maxHeartbeats 800000 in
theorem iEqualBoxes_c (cs cs' : List Value) (x y : BoxD) (w : World) (h : (rBox NB).rep w cs x) (h' : (rBox NB).rep w cs' y) :
    Calls Try.prog 28 #[.agg cs.toArray, .agg cs'.toArray] w fun e w' => e = .returned (.bool (decide (x = y))) ∧ Below w.heap.size w w' := by
  obtain ⟨A1, n1, c1, A2, n2, c2, rfl, h1, h2⟩ := rBox_rep.1 h
  obtain ⟨A3, n3, c3, A4, n4, c4, rfl, h3, h4⟩ := rBox_rep.1 h'
  clear h h'
  have hB := ((Below.refl w.heap.size w).alloc (Nat.le_refl _) (.cells #[.slice A1 n1 c1, .slice A2 n2 c2] 28)).alloc (by simp) (.cells #[.slice A3 n3 c3, .slice A4 n4 c4] 28)
  have bx := (Bx.new w [.slice A1 n1 c1, .slice A2 n2 c2] 28).below ((Below.refl _ _).alloc (Nat.le_refl _) (.cells #[.slice A3 n3 c3, .slice A4 n4 c4] 28))
  have by_ := Bx.new (w.alloc (.cells #[.slice A1 n1 c1, .slice A2 n2 c2] 28)) [.slice A3 n3 c3, .slice A4 n4 c4] 28
  simp only [World.size_alloc] at by_
  go_enter Try.func28, Try.ntmps28
  go_wp2_with fail
  refine (equalInts_c _ _ _ _ _ _ _ _ _ (h1.below rInt_ok hB) (h3.below rInt_ok hB)).mono ?_
  rintro e w1 ⟨rfl, hq⟩
  have hb1 := hq.below (World.heap ((w.alloc (.cells #[.slice A1 n1 c1, .slice A2 n2 c2] 28)).alloc (.cells #[.slice A3 n3 c3, .slice A4 n4 c4] 28))).size
  clear hq
  replace hB := hB.trans (hb1.mono hB.size)
  replace bx := bx.below hb1
  replace by_ := by_.below hb1
  clear hb1
  have b0 := bx 1 _ rfl
  have b1 := by_ 1 _ rfl
  by_cases e1 : x.fLow = y.fLow
  · have d1 : decide (x.fLow = y.fLow) = true := by simp [e1]
    have E1 := Lib.hid e1; clear e1
    go_wp2_with fail
    refine (equalInts_c _ _ _ _ _ _ _ _ _ (h2.below rInt_ok hB) (h4.below rInt_ok hB)).mono ?_
    rintro e w2 ⟨rfl, hq⟩
    replace hB := hB.trans ((hq.below w1.heap.size).mono hB.size)
    go_wp2
    go_ret
    exact ⟨ret_bool (by rw [decide_eq_decide, box_eq, E1.out]; simp), hB⟩
  · have d1 : decide (x.fLow = y.fLow) = false := by simp [e1]
    go_wp2
    go_ret
    exact ⟨ret_bool (a := false) (by symm; rw [decide_eq_false_iff_not, box_eq]; exact fun hh => e1 hh.1), hB⟩
set_option maxRecDepth 100000 in
set_option maxHeartbeats 800000 in
theorem sEqualBoxes_c (cs cs' : List Value) (x y : BoxD) (w : World) (h : (rBox NB).rep w cs x) (h' : (rBox NB).rep w cs' y) :
    Calls Try.prog 94 #[.agg cs.toArray, .agg cs'.toArray] w fun e w' => e = .returned (.bool (decide (x = y))) ∧ Below w.heap.size w w' := by
  obtain ⟨A1, n1, c1, A2, n2, c2, rfl, h1, h2⟩ := rBox_rep.1 h
  obtain ⟨A3, n3, c3, A4, n4, c4, rfl, h3, h4⟩ := rBox_rep.1 h'
  clear h h'
  have hB := ((Below.refl w.heap.size w).alloc (Nat.le_refl _) (.cells #[.slice A1 n1 c1, .slice A2 n2 c2] 28)).alloc (by simp) (.cells #[.slice A3 n3 c3, .slice A4 n4 c4] 28)
  have bx := (Bx.new w [.slice A1 n1 c1, .slice A2 n2 c2] 28).below ((Below.refl _ _).alloc (Nat.le_refl _) (.cells #[.slice A3 n3 c3, .slice A4 n4 c4] 28))
  have by_ := Bx.new (w.alloc (.cells #[.slice A1 n1 c1, .slice A2 n2 c2] 28)) [.slice A3 n3 c3, .slice A4 n4 c4] 28
  simp only [World.size_alloc] at by_
  go_enter Try.func94, Try.ntmps94
  go_wp2_with fail
  refine (sCompareRows_c _ _ _ _ _ _ _ _ _ (h1.below rInt_ok hB) (h3.below rInt_ok hB)).mono ?_
  rintro e w1 ⟨rfl, hq⟩
  have hb1 := hq.below (World.heap ((w.alloc (.cells #[.slice A1 n1 c1, .slice A2 n2 c2] 28)).alloc (.cells #[.slice A3 n3 c3, .slice A4 n4 c4] 28))).size
  clear hq
  replace hB := hB.trans (hb1.mono hB.size)
  replace bx := bx.below hb1
  replace by_ := by_.below hb1
  clear hb1
  have b0 := bx 1 _ rfl
  have b1 := by_ 1 _ rfl
  by_cases e1 : x.fLow = y.fLow
  · have d1 : (cmpRows x.fLow y.fLow == 0) = true := by simp [cmpRows_zero.2 e1]
    have E1 := Lib.hid e1; clear e1
    go_wp2_with fail
    refine (sCompareRows_c _ _ _ _ _ _ _ _ _ (h2.below rInt_ok hB) (h4.below rInt_ok hB)).mono ?_
    rintro e w2 ⟨rfl, hq⟩
    replace hB := hB.trans ((hq.below w1.heap.size).mono hB.size)
    go_wp2
    go_ret
    exact ⟨ret_bool (by rw [beq_eq_decide, decide_eq_decide, cmpRows_zero, box_eq, E1.out]; simp), hB⟩
  · have d1 : (cmpRows x.fLow y.fLow == 0) = false := by simp [cmpRows_zero, e1]
    go_wp2
    go_ret
    exact ⟨ret_bool (a := false) (by symm; rw [decide_eq_false_iff_not, box_eq]; exact fun hh => e1 hh.1), hB⟩
set_option maxRecDepth 100000 in
set_option maxHeartbeats 1600000 in
theorem iEqualOutcomes_c (cs cs' : List Value) (x y : OutcomeD) (w : World) (h : (rOutcome NB).rep w cs x) (h' : (rOutcome NB).rep w cs' y) :
    Calls Try.prog 42 #[.agg cs.toArray, .agg cs'.toArray] w fun e w' => e = .returned (.bool (decide (x = y))) ∧ Below w.heap.size w w' := by
  obtain ⟨A1, n1, c1, A2, n2, c2, A3, n3, c3, A4, n4, c4, A5, n5, c5, rfl, h1, h2, i1, h3, h4, h5⟩ := rOutcome_rep.1 h
  obtain ⟨qA1, qn1, qc1, qA2, qn2, qc2, qA3, qn3, qc3, qA4, qn4, qc4, qA5, qn5, qc5, rfl, k1, k2, i2, k3, k4, k5⟩ := rOutcome_rep.1 h'
  clear h h'
  have hB := ((Below.refl w.heap.size w).alloc (Nat.le_refl _) (.cells #[.slice A1 n1 c1, .slice A2 n2 c2, .int .i64 x.fTotal, .slice A3 n3 c3, .slice A4 n4 c4, .slice A5 n5 c5] 66)).alloc (by simp) (.cells #[.slice qA1 qn1 qc1, .slice qA2 qn2 qc2, .int .i64 y.fTotal, .slice qA3 qn3 qc3, .slice qA4 qn4 qc4, .slice qA5 qn5 qc5] 66)
  have bx := (Bx.new w [.slice A1 n1 c1, .slice A2 n2 c2, .int .i64 x.fTotal, .slice A3 n3 c3, .slice A4 n4 c4, .slice A5 n5 c5] 66).below ((Below.refl _ _).alloc (Nat.le_refl _) (.cells #[.slice qA1 qn1 qc1, .slice qA2 qn2 qc2, .int .i64 y.fTotal, .slice qA3 qn3 qc3, .slice qA4 qn4 qc4, .slice qA5 qn5 qc5] 66))
  have by_ := Bx.new (w.alloc (.cells #[.slice A1 n1 c1, .slice A2 n2 c2, .int .i64 x.fTotal, .slice A3 n3 c3, .slice A4 n4 c4, .slice A5 n5 c5] 66)) [.slice qA1 qn1 qc1, .slice qA2 qn2 qc2, .int .i64 y.fTotal, .slice qA3 qn3 qc3, .slice qA4 qn4 qc4, .slice qA5 qn5 qc5] 66
  simp only [World.size_alloc] at by_
  go_enter Try.func42, Try.ntmps42
  go_wp2_with fail
  refine (iEqualAnswers_c _ _ x.fAnswer y.fAnswer _ (rAnswer_rep.2 ⟨A1, n1, c1, A2, n2, c2, rfl, h1.below rInt_ok hB, h2.below (rSlice_ok _ _ rInt_ok) hB⟩) (rAnswer_rep.2 ⟨qA1, qn1, qc1, qA2, qn2, qc2, rfl, k1.below rInt_ok hB, k2.below (rSlice_ok _ _ rInt_ok) hB⟩)).mono ?_
  rintro e w1 ⟨rfl, hb1⟩
  replace hB := hB.trans (hb1.mono hB.size)
  replace bx := bx.below hb1
  replace by_ := by_.below hb1
  clear hb1
  have x2 := bx 2 _ rfl
  have y2 := by_ 2 _ rfl
  have x3 := bx 3 _ rfl
  have y3 := by_ 3 _ rfl
  have x4 := bx 4 _ rfl
  have y4 := by_ 4 _ rfl
  have x5 := bx 5 _ rfl
  have y5 := by_ 5 _ rfl
  by_cases e1 : x.fAnswer = y.fAnswer
  rotate_left
  · have d1 : decide (x.fAnswer = y.fAnswer) = false := by simp [e1]
    go_wp2
    go_ret
    exact ⟨ret_bool (a := false) (by symm; rw [decide_eq_false_iff_not, outcome_eq]; exact fun hh => e1 hh.1), hB⟩
  have d1 : decide (x.fAnswer = y.fAnswer) = true := by simp [e1]
  have E1 := Lib.hid e1; clear e1
  by_cases e2 : x.fTotal = y.fTotal
  rotate_left
  · have d2 : (x.fTotal == y.fTotal) = false := by simp [e2]
    go_wp2
    go_ret
    exact ⟨ret_bool (a := false) (by symm; rw [decide_eq_false_iff_not, outcome_eq]; exact fun hh => e2 hh.2.1), hB⟩
  have d2 : (x.fTotal == y.fTotal) = true := by simp [e2]
  have E2 := Lib.hid e2; clear e2
  go_wp2_with fail
  refine (equalRunNote_c _ _ _ _ _ _ _ _ _ (h3.below (rRunNote_ok _) hB) (k3.below (rRunNote_ok _) hB)).mono ?_
  rintro e w2 ⟨rfl, hq⟩
  have hb2 := hq.below w1.heap.size
  clear hq x2 x3 x4 x5 y2 y3 y4 y5
  replace hB := hB.trans (hb2.mono hB.size)
  replace bx := bx.below hb2
  replace by_ := by_.below hb2
  clear hb2
  have x4 := bx 4 _ rfl
  have y4 := by_ 4 _ rfl
  have x5 := bx 5 _ rfl
  have y5 := by_ 5 _ rfl
  by_cases e3 : x.fNotes = y.fNotes
  rotate_left
  · have d3 : decide (x.fNotes = y.fNotes) = false := by simp [e3]
    go_wp2
    go_ret
    exact ⟨ret_bool (a := false) (by symm; rw [decide_eq_false_iff_not, outcome_eq]; exact fun hh => e3 hh.2.2.1), hB⟩
  have d3 : decide (x.fNotes = y.fNotes) = true := by simp [e3]
  have E3 := Lib.hid e3; clear e3
  go_wp2_with fail
  refine (iEqualBoxes_c _ _ x.fBox y.fBox _ (rBox_rep.2 ⟨A4, n4, c4, A5, n5, c5, rfl, h4.below rInt_ok hB, h5.below rInt_ok hB⟩) (rBox_rep.2 ⟨qA4, qn4, qc4, qA5, qn5, qc5, rfl, k4.below rInt_ok hB, k5.below rInt_ok hB⟩)).mono ?_
  rintro e w3 ⟨rfl, hb3⟩
  replace hB := hB.trans (hb3.mono hB.size)
  go_wp2
  go_ret
  exact ⟨ret_bool (by rw [decide_eq_decide, outcome_eq, E1.out, E2.out, E3.out]; simp), hB⟩
set_option maxRecDepth 100000 in
set_option maxHeartbeats 1600000 in
theorem sEqualOutcomes_c (cs cs' : List Value) (x y : OutcomeD) (w : World) (h : (rOutcome NB).rep w cs x) (h' : (rOutcome NB).rep w cs' y) :
    Calls Try.prog 40 #[.agg cs.toArray, .agg cs'.toArray] w fun e w' => e = .returned (.bool (decide (x = y))) ∧ Below w.heap.size w w' := by
  obtain ⟨A1, n1, c1, A2, n2, c2, A3, n3, c3, A4, n4, c4, A5, n5, c5, rfl, h1, h2, i1, h3, h4, h5⟩ := rOutcome_rep.1 h
  obtain ⟨qA1, qn1, qc1, qA2, qn2, qc2, qA3, qn3, qc3, qA4, qn4, qc4, qA5, qn5, qc5, rfl, k1, k2, i2, k3, k4, k5⟩ := rOutcome_rep.1 h'
  clear h h'
  have hB := ((Below.refl w.heap.size w).alloc (Nat.le_refl _) (.cells #[.slice A1 n1 c1, .slice A2 n2 c2, .int .i64 x.fTotal, .slice A3 n3 c3, .slice A4 n4 c4, .slice A5 n5 c5] 66)).alloc (by simp) (.cells #[.slice qA1 qn1 qc1, .slice qA2 qn2 qc2, .int .i64 y.fTotal, .slice qA3 qn3 qc3, .slice qA4 qn4 qc4, .slice qA5 qn5 qc5] 66)
  have bx := (Bx.new w [.slice A1 n1 c1, .slice A2 n2 c2, .int .i64 x.fTotal, .slice A3 n3 c3, .slice A4 n4 c4, .slice A5 n5 c5] 66).below ((Below.refl _ _).alloc (Nat.le_refl _) (.cells #[.slice qA1 qn1 qc1, .slice qA2 qn2 qc2, .int .i64 y.fTotal, .slice qA3 qn3 qc3, .slice qA4 qn4 qc4, .slice qA5 qn5 qc5] 66))
  have by_ := Bx.new (w.alloc (.cells #[.slice A1 n1 c1, .slice A2 n2 c2, .int .i64 x.fTotal, .slice A3 n3 c3, .slice A4 n4 c4, .slice A5 n5 c5] 66)) [.slice qA1 qn1 qc1, .slice qA2 qn2 qc2, .int .i64 y.fTotal, .slice qA3 qn3 qc3, .slice qA4 qn4 qc4, .slice qA5 qn5 qc5] 66
  simp only [World.size_alloc] at by_
  have hn3 := h3.bound
  have hk3 := k3.bound
  go_enter Try.func40, Try.ntmps40
  go_wp2_with fail
  refine (sEqualAnswers_c _ _ x.fAnswer y.fAnswer _ (rAnswer_rep.2 ⟨A1, n1, c1, A2, n2, c2, rfl, h1.below rInt_ok hB, h2.below (rSlice_ok _ _ rInt_ok) hB⟩) (rAnswer_rep.2 ⟨qA1, qn1, qc1, qA2, qn2, qc2, rfl, k1.below rInt_ok hB, k2.below (rSlice_ok _ _ rInt_ok) hB⟩)).mono ?_
  rintro e w1 ⟨rfl, hb1⟩
  replace hB := hB.trans (hb1.mono hB.size)
  replace bx := bx.below hb1
  replace by_ := by_.below hb1
  clear hb1
  have x2 := bx 2 _ rfl
  have y2 := by_ 2 _ rfl
  have x3 := bx 3 _ rfl
  have y3 := by_ 3 _ rfl
  have x4 := bx 4 _ rfl
  have y4 := by_ 4 _ rfl
  have x5 := bx 5 _ rfl
  have y5 := by_ 5 _ rfl
  by_cases e1 : x.fAnswer = y.fAnswer
  rotate_left
  · have d1 : decide (x.fAnswer = y.fAnswer) = false := by simp [e1]
    go_wp2
    go_ret
    exact ⟨ret_bool (a := false) (by symm; rw [decide_eq_false_iff_not, outcome_eq]; exact fun hh => e1 hh.1), hB⟩
  have d1 : decide (x.fAnswer = y.fAnswer) = true := by simp [e1]
  have E1 := Lib.hid e1; clear e1
  by_cases e2 : x.fTotal = y.fTotal
  rotate_left
  · have d2 : (x.fTotal != y.fTotal) = true := by simp [e2]
    go_wp2
    go_ret
    exact ⟨ret_bool (a := false) (by symm; rw [decide_eq_false_iff_not, outcome_eq]; exact fun hh => e2 hh.2.1), hB⟩
  have d2 : (x.fTotal != y.fTotal) = false := by simp [e2]
  have E2 := Lib.hid e2; clear e2
  go_wp2_with fail
  refine (sEqualBoxes_c _ _ x.fBox y.fBox _ (rBox_rep.2 ⟨A4, n4, c4, A5, n5, c5, rfl, h4.below rInt_ok hB, h5.below rInt_ok hB⟩) (rBox_rep.2 ⟨qA4, qn4, qc4, qA5, qn5, qc5, rfl, k4.below rInt_ok hB, k5.below rInt_ok hB⟩)).mono ?_
  rintro e w2 ⟨rfl, hb2⟩
  clear x2 x3 x4 x5 y2 y3 y4 y5
  replace hB := hB.trans (hb2.mono hB.size)
  replace bx := bx.below hb2
  replace by_ := by_.below hb2
  clear hb2
  have x3 := bx 3 _ rfl
  have y3 := by_ 3 _ rfl
  by_cases e3 : x.fBox = y.fBox
  rotate_left
  · have d3 : decide (x.fBox = y.fBox) = false := by simp [e3]
    go_wp2
    go_ret
    exact ⟨ret_bool (a := false) (by symm; rw [decide_eq_false_iff_not, outcome_eq]; exact fun hh => e3 hh.2.2.2), hB⟩
  have d3 : decide (x.fBox = y.fBox) = true := by simp [e3]
  have E3 := Lib.hid e3; clear e3
  by_cases e4 : n3 = qn3
  rotate_left
  · have d4 : ((n3 : Int) != (qn3 : Int)) = true := by simp; omega
    go_wp2
    go_ret
    exact ⟨ret_bool (a := false) (by symm; rw [decide_eq_false_iff_not, outcome_eq]; exact fun hh => e4 (by rw [← h3.len, ← k3.len, hh.2.2.1])), hB⟩
  subst e4
  have d4 : ((n3 : Int) != (n3 : Int)) = false := by simp
  go_wp2
  go_loopw [5] (fun i wr => ∃ k : Nat, k ≤ n3 ∧ i = .int .i64 k ∧ x.fNotes.take k = y.fNotes.take k ∧ Below w.heap.size w wr ∧ Bx wr w.heap.size [.slice A1 n1 c1, .slice A2 n2 c2, .int .i64 x.fTotal, .slice A3 n3 c3, .slice A4 n4 c4, .slice A5 n5 c5] ∧ Bx wr (w.heap.size + 1) [.slice qA1 qn1 qc1, .slice qA2 qn2 qc2, .int .i64 y.fTotal, .slice qA3 n3 qc3, .slice qA4 qn4 qc4, .slice qA5 qn5 qc5]) (fun i _ => n3 - (intOf i).toNat)
  case atStart => exact ⟨0, Nat.zero_le _, rfl, rfl, hB, bx, by_⟩
  case round =>
    clear x3 y3 bx by_ hB
    obtain ⟨k, hk, rfl, heq, hB, bx, by_⟩ := hrel
    have HE := Lib.hid heq; clear heq
    have x3 := bx 3 _ rfl
    have y3 := by_ 3 _ rfl
    by_cases hlt : k < n3
    · obtain ⟨b, off, r, rfl, p0, p1, p2, p3, p4, _, _, _, _, hxk⟩ := (h3.below (rRunNote_ok _) hB).eRunNote hlt
      obtain ⟨b', off', r', rfl, p0', p1', p2', p3', p4', _, _, _, _, hxk'⟩ := (k3.below (rRunNote_ok _) hB).eRunNote hlt
      have hop := fun W => neqRunNote r r' W
      have g1 := guardRunNote
      by_cases hx : r = r'
      · have hb : decide (r = r') = true := by simp [hx]
        have HX := Lib.hid hx; clear hx
        go_wp2
        go_quiet (fail)
        go_wp2
        go_roundw
        case rel => exact ⟨k + 1, by omega, by go_num, take_eq_snoc HE.out hxk.out (HX.out ▸ hxk'.out), below_drewN hB _, bx, by_⟩
        case measure => simp [intOf]; omega
      · have hb : decide (r = r') = false := by simp [hx]
        go_wp2
        go_quiet (fail)
        go_wp2
        go_ret
        exact ⟨ret_bool (a := false) (by symm; rw [decide_eq_false_iff_not, outcome_eq]; exact fun hh => ne_of_at hxk.out hxk'.out hx hh.2.2.1), below_drewN hB _⟩
    · go_wp2
      go_ret
      have e6 : x.fNotes = y.fNotes := by rw [← take_all h3.len hlt, ← take_all k3.len hlt]; exact HE.out
      exact ⟨ret_bool (a := true) (by symm; rw [decide_eq_true_iff, outcome_eq]; exact ⟨E1.out, E2.out, e6, E3.out⟩), hB⟩
end Go.Proofs.Ytobildkjikhdiaa
