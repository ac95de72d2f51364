/-
  Contracts: CountWithin, PlanShare. Printed by mk_count.py.
-/
import Derived.Test.YtobildkjikhdiaaSpace
import Derived.Test.YtobildkjikhdiaaNotes
namespace Go.Proofs.Ytobildkjikhdiaa
open Go.RowKit
set_option linter.unusedVariables false

def countIn (x : SpaceD) (l : List Int) (p : Int → Bool) : Nat := if validSpace x then l.countP p else 0

set_option maxRecDepth 100000 in
set_option maxHeartbeats 1600000 in
theorem iCountWithin_c (cs : List Value) (x : SpaceD) (q : Int) (w : World) (h : (rSpace NB).rep w cs x) :
    Calls Try.prog 50 #[.agg cs.toArray, .int .i64 q] w fun e w' => e = .returned (.int .i64 ((countIn x x.fCosts (fun c => decide (c ≤ q)) : Nat) : Int)) ∧ Below w.heap.size w w' := by
  have hrep := h
  obtain ⟨A1, n1, c1, A2, n2, c2, A3, n3, c3, A4, n4, c4, A5, n5, c5, rfl, h1, h2, h3, h4, h5⟩ := rSpace_rep.1 h
  clear h h1 h2 h5
  have hn3 := h3.bound
  have hn4 := h4.bound
  have hB := (Below.refl w.heap.size w).alloc (Nat.le_refl _) (.cells #[.slice A1 n1 c1, .slice A2 n2 c2, .slice A3 n3 c3, .slice A4 n4 c4, .slice A5 n5 c5] 76)
  have bx := Bx.new w [.slice A1 n1 c1, .slice A2 n2 c2, .slice A3 n3 c3, .slice A4 n4 c4, .slice A5 n5 c5] 76
  go_enter Try.func50, Try.ntmps50
  go_wp2_with fail
  refine (iIsValidSpace_c _ x _ ((rSpace_ok NB).keep hrep (cells_below hB))).mono ?_
  rintro e w1 ⟨rfl, hb1⟩
  replace hB := hB.trans (hb1.mono hB.size)
  replace bx := bx.below hb1
  clear hb1
  have bI := bx 2 _ rfl
  cases hv : validSpace x
  · go_wp2
    go_ret
    exact ⟨ret_int (a := 0) (by simp [countIn, hv]), hB⟩
  have HV := Lib.hid hv; clear hv
  go_wp2
  go_loopw [5, 14] (fun c i wr => ∃ k m : Nat, k ≤ n3 ∧ i = .int .i64 k ∧ c = .int .i64 m ∧ m ≤ k ∧ m = ((x.fCosts.take k).countP (fun c => decide (c ≤ q)) : Nat) ∧ Below w.heap.size w wr) (fun _ i _ => n3 - (intOf i).toNat)
  case atStart => exact ⟨0, 0, Nat.zero_le _, rfl, rfl, Nat.le_refl _, rfl, hB⟩
  case round =>
    clear hB bx bI
    obtain ⟨k, m, hk, rfl, rfl, hmk, hm, hB⟩ := hrel
    have HM := Lib.hid hm; clear hm
    by_cases hlt : k < n3
    · obtain ⟨b, off, y, rfl, hc, hI, hy⟩ := (h3.below rInt_ok hB).ati hlt
      have HS := Lib.hid (countP_snoc (fun c => decide (c ≤ q)) hy.out)
      by_cases hx : y ≤ q
      · have d1 : decide (y ≤ q) = true := by simpa using hx
        go_wp2
        go_roundw
        case rel => exact ⟨k + 1, m + 1, by omega, by go_num, by go_num, by omega, by rw [HS.out, ← HM.out]; simp [hx], hB⟩
        case measure => simp [intOf]; omega
      · have d1 : decide (y ≤ q) = false := by simpa using hx
        go_wp2
        go_roundw
        case rel => exact ⟨k + 1, m, by omega, by go_num, by go_num, by omega, by rw [HS.out, ← HM.out]; simp [hx], hB⟩
        case measure => simp [intOf]; omega
    · go_wp2
      go_ret
      exact ⟨ret_int (by rw [HM.out, take_all h3.len hlt, countIn, HV.out]; rfl), hB⟩
set_option maxRecDepth 100000 in
set_option maxHeartbeats 1600000 in
theorem iPlanShare_c (cs : List Value) (x : SpaceD) (q : Int) (w : World) (h : (rSpace NB).rep w cs x) :
    Calls Try.prog 52 #[.agg cs.toArray, .int .i64 q] w fun e w' => e = .returned (.int .i64 ((countIn x x.fChoices (fun c => c == q) : Nat) : Int)) ∧ Below w.heap.size w w' := by
  have hrep := h
  obtain ⟨A1, n1, c1, A2, n2, c2, A3, n3, c3, A4, n4, c4, A5, n5, c5, rfl, h1, h2, h3, h4, h5⟩ := rSpace_rep.1 h
  clear h h1 h2 h5
  have hn3 := h3.bound
  have hn4 := h4.bound
  have hB := (Below.refl w.heap.size w).alloc (Nat.le_refl _) (.cells #[.slice A1 n1 c1, .slice A2 n2 c2, .slice A3 n3 c3, .slice A4 n4 c4, .slice A5 n5 c5] 76)
  have bx := Bx.new w [.slice A1 n1 c1, .slice A2 n2 c2, .slice A3 n3 c3, .slice A4 n4 c4, .slice A5 n5 c5] 76
  go_enter Try.func52, Try.ntmps52
  go_wp2_with fail
  refine (iIsValidSpace_c _ x _ ((rSpace_ok NB).keep hrep (cells_below hB))).mono ?_
  rintro e w1 ⟨rfl, hb1⟩
  replace hB := hB.trans (hb1.mono hB.size)
  replace bx := bx.below hb1
  clear hb1
  have bI := bx 3 _ rfl
  cases hv : validSpace x
  · go_wp2
    go_ret
    exact ⟨ret_int (a := 0) (by simp [countIn, hv]), hB⟩
  have HV := Lib.hid hv; clear hv
  go_wp2
  go_loopw [5, 14] (fun c i wr => ∃ k m : Nat, k ≤ n4 ∧ i = .int .i64 k ∧ c = .int .i64 m ∧ m ≤ k ∧ m = ((x.fChoices.take k).countP (fun c => c == q) : Nat) ∧ Below w.heap.size w wr) (fun _ i _ => n4 - (intOf i).toNat)
  case atStart => exact ⟨0, 0, Nat.zero_le _, rfl, rfl, Nat.le_refl _, rfl, hB⟩
  case round =>
    clear hB bx bI
    obtain ⟨k, m, hk, rfl, rfl, hmk, hm, hB⟩ := hrel
    have HM := Lib.hid hm; clear hm
    by_cases hlt : k < n4
    · obtain ⟨b, off, y, rfl, hc, hI, hy⟩ := (h4.below rInt_ok hB).ati hlt
      have HS := Lib.hid (countP_snoc (fun c => c == q) hy.out)
      by_cases hx : y = q
      · have d1 : (y == q) = true := by simp [hx]
        have HX := Lib.hid hx; clear hx
        go_wp2
        go_roundw
        case rel => exact ⟨k + 1, m + 1, by omega, by go_num, by go_num, by omega, by rw [HS.out, ← HM.out]; simp [HX.out], hB⟩
        case measure => simp [intOf]; omega
      · have d1 : (y == q) = false := by simp [hx]
        go_wp2
        go_roundw
        case rel => exact ⟨k + 1, m, by omega, by go_num, by go_num, by omega, by rw [HS.out, ← HM.out]; simp [hx], hB⟩
        case measure => simp [intOf]; omega
    · go_wp2
      go_ret
      exact ⟨ret_int (by rw [HM.out, take_all h4.len hlt, countIn, HV.out]; rfl), hB⟩
set_option maxRecDepth 100000 in
set_option maxHeartbeats 1600000 in
theorem sCountWithin_c (cs : List Value) (x : SpaceD) (q : Int) (w : World) (h : (rSpace NB).rep w cs x) :
    Calls Try.prog 49 #[.agg cs.toArray, .int .i64 q] w fun e w' => e = .returned (.int .i64 ((countIn x x.fCosts (fun c => decide (c ≤ q)) : Nat) : Int)) ∧ Below w.heap.size w w' := by
  have hrep := h
  obtain ⟨A1, n1, c1, A2, n2, c2, A3, n3, c3, A4, n4, c4, A5, n5, c5, rfl, h1, h2, h3, h4, h5⟩ := rSpace_rep.1 h
  clear h h1 h2 h5
  have hn3 := h3.bound
  have hn4 := h4.bound
  have hB := (Below.refl w.heap.size w).alloc (Nat.le_refl _) (.cells #[.slice A1 n1 c1, .slice A2 n2 c2, .slice A3 n3 c3, .slice A4 n4 c4, .slice A5 n5 c5] 76)
  have bx := Bx.new w [.slice A1 n1 c1, .slice A2 n2 c2, .slice A3 n3 c3, .slice A4 n4 c4, .slice A5 n5 c5] 76
  go_enter Try.func49, Try.ntmps49
  go_wp2
  go_loopw [5, 6] (fun c i wr => ∃ k m : Nat, k ≤ n3 ∧ (0 < k → validSpace x = true) ∧ i = .int .i64 k ∧ c = .int .i64 m ∧ m ≤ k ∧ m = ((x.fCosts.take k).countP (fun c => decide (c ≤ q)) : Nat) ∧ Below w.heap.size w wr ∧ Bx wr w.heap.size [.slice A1 n1 c1, .slice A2 n2 c2, .slice A3 n3 c3, .slice A4 n4 c4, .slice A5 n5 c5]) (fun _ i _ => n3 - (intOf i).toNat)
  case atStart => exact ⟨0, 0, Nat.zero_le _, by omega, rfl, rfl, Nat.le_refl _, rfl, hB, bx⟩
  case round =>
    clear hB bx
    obtain ⟨k, m, hk, hkv, rfl, rfl, hmk, hm, hB, bx⟩ := hrel
    have HM := Lib.hid hm; clear hm
    have HK := Lib.hid hkv; clear hkv
    have z0 := bx 0 _ rfl
    have z1 := bx 1 _ rfl
    have z2 := bx 2 _ rfl
    have z3 := bx 3 _ rfl
    have z4 := bx 4 _ rfl
    by_cases hlt : k < n3
    · obtain ⟨b, off, y, rfl, hc, hI, hy⟩ := (h3.below rInt_ok hB).ati hlt
      have HS := Lib.hid (countP_snoc (fun c => decide (c ≤ q)) hy.out)
      have dk : decide (k < n3) = true := by simp [hlt]
      go_wp2_with fail
      refine (sIsValidSpace_c _ x _ ((rSpace_ok NB).keep hrep (cells_below hB))).mono ?_
      rintro e w1 ⟨rfl, hb1⟩
      replace hB := hB.trans (hb1.mono hB.size)
      replace bx := bx.below hb1
      replace hc := cells_below hb1 _ _ hc
      clear hb1 z0 z1 z2 z3 z4
      have bI := bx 2 _ rfl
      cases hv : validSpace x
      · go_wp2
        go_ret
        have hk0 : k = 0 := by rcases Nat.eq_zero_or_pos k with h0 | h0; exact h0; rw [HK.out h0] at hv; cases hv
        exact ⟨ret_int (by rw [HM.out, hk0, countIn, hv]; simp), hB⟩
      have HV := Lib.hid hv; clear hv
      by_cases hx : y ≤ q
      · have d1 : decide (y ≤ q) = true := by simpa using hx
        go_wp2
        go_roundw
        case rel => exact ⟨k + 1, m + 1, by omega, fun _ => HV.out, by go_num, by go_num, by omega, by rw [HS.out, ← HM.out]; simp [hx], hB, bx⟩
        case measure => simp [intOf]; omega
      · have d1 : decide (y ≤ q) = false := by simpa using hx
        go_wp2
        go_roundw
        case rel => exact ⟨k + 1, m, by omega, fun _ => HV.out, by go_num, by go_num, by omega, by rw [HS.out, ← HM.out]; simp [hx], hB, bx⟩
        case measure => simp [intOf]; omega
    · have dk : decide (k < n3) = false := by simp; omega
      go_wp2
      go_ret
      refine ⟨ret_int ?_, hB⟩
      rw [HM.out, take_all h3.len (by omega)]
      cases hv : validSpace x
      · have hk0 : k = 0 := by rcases Nat.eq_zero_or_pos k with h0 | h0; exact h0; rw [HK.out h0] at hv; cases hv
        have : x.fCosts = [] := List.eq_nil_of_length_eq_zero (by rw [h3.len]; omega)
        rw [countIn, hv, this]; simp
      · rw [countIn, hv]; rfl
set_option maxRecDepth 100000 in
set_option maxHeartbeats 1600000 in
theorem sPlanShare_c (cs : List Value) (x : SpaceD) (q : Int) (w : World) (h : (rSpace NB).rep w cs x) :
    Calls Try.prog 51 #[.agg cs.toArray, .int .i64 q] w fun e w' => e = .returned (.int .i64 ((countIn x x.fChoices (fun c => c == q) : Nat) : Int)) ∧ Below w.heap.size w w' := by
  have hrep := h
  obtain ⟨A1, n1, c1, A2, n2, c2, A3, n3, c3, A4, n4, c4, A5, n5, c5, rfl, h1, h2, h3, h4, h5⟩ := rSpace_rep.1 h
  clear h h1 h2 h5
  have hn3 := h3.bound
  have hn4 := h4.bound
  have hB := (Below.refl w.heap.size w).alloc (Nat.le_refl _) (.cells #[.slice A1 n1 c1, .slice A2 n2 c2, .slice A3 n3 c3, .slice A4 n4 c4, .slice A5 n5 c5] 76)
  have bx := Bx.new w [.slice A1 n1 c1, .slice A2 n2 c2, .slice A3 n3 c3, .slice A4 n4 c4, .slice A5 n5 c5] 76
  go_enter Try.func51, Try.ntmps51
  go_wp2
  go_loopw [5, 6] (fun c i wr => ∃ k m : Nat, k ≤ n4 ∧ (0 < k → validSpace x = true) ∧ i = .int .i64 k ∧ c = .int .i64 m ∧ m ≤ k ∧ m = ((x.fChoices.take k).countP (fun c => c == q) : Nat) ∧ Below w.heap.size w wr ∧ Bx wr w.heap.size [.slice A1 n1 c1, .slice A2 n2 c2, .slice A3 n3 c3, .slice A4 n4 c4, .slice A5 n5 c5]) (fun _ i _ => n4 - (intOf i).toNat)
  case atStart => exact ⟨0, 0, Nat.zero_le _, by omega, rfl, rfl, Nat.le_refl _, rfl, hB, bx⟩
  case round =>
    clear hB bx
    obtain ⟨k, m, hk, hkv, rfl, rfl, hmk, hm, hB, bx⟩ := hrel
    have HM := Lib.hid hm; clear hm
    have HK := Lib.hid hkv; clear hkv
    have z0 := bx 0 _ rfl
    have z1 := bx 1 _ rfl
    have z2 := bx 2 _ rfl
    have z3 := bx 3 _ rfl
    have z4 := bx 4 _ rfl
    by_cases hlt : k < n4
    · obtain ⟨b, off, y, rfl, hc, hI, hy⟩ := (h4.below rInt_ok hB).ati hlt
      have HS := Lib.hid (countP_snoc (fun c => c == q) hy.out)
      have dk : decide (k < n4) = true := by simp [hlt]
      go_wp2_with fail
      refine (sIsValidSpace_c _ x _ ((rSpace_ok NB).keep hrep (cells_below hB))).mono ?_
      rintro e w1 ⟨rfl, hb1⟩
      replace hB := hB.trans (hb1.mono hB.size)
      replace bx := bx.below hb1
      replace hc := cells_below hb1 _ _ hc
      clear hb1 z0 z1 z2 z3 z4
      have bI := bx 3 _ rfl
      cases hv : validSpace x
      · go_wp2
        go_ret
        have hk0 : k = 0 := by rcases Nat.eq_zero_or_pos k with h0 | h0; exact h0; rw [HK.out h0] at hv; cases hv
        exact ⟨ret_int (by rw [HM.out, hk0, countIn, hv]; simp), hB⟩
      have HV := Lib.hid hv; clear hv
      by_cases hx : y = q
      · have d1 : (y == q) = true := by simp [hx]
        have HX := Lib.hid hx; clear hx
        go_wp2
        go_roundw
        case rel => exact ⟨k + 1, m + 1, by omega, fun _ => HV.out, by go_num, by go_num, by omega, by rw [HS.out, ← HM.out]; simp [HX.out], hB, bx⟩
        case measure => simp [intOf]; omega
      · have d1 : (y == q) = false := by simp [hx]
        go_wp2
        go_roundw
        case rel => exact ⟨k + 1, m, by omega, fun _ => HV.out, by go_num, by go_num, by omega, by rw [HS.out, ← HM.out]; simp [hx], hB, bx⟩
        case measure => simp [intOf]; omega
    · have dk : decide (k < n4) = false := by simp; omega
      go_wp2
      go_ret
      refine ⟨ret_int ?_, hB⟩
      rw [HM.out, take_all h4.len (by omega)]
      cases hv : validSpace x
      · have hk0 : k = 0 := by rcases Nat.eq_zero_or_pos k with h0 | h0; exact h0; rw [HK.out h0] at hv; cases hv
        have : x.fChoices = [] := List.eq_nil_of_length_eq_zero (by rw [h4.len]; omega)
        rw [countIn, hv, this]; simp
      · rw [countIn, hv]; rfl
end Go.Proofs.Ytobildkjikhdiaa
