/-
  Contracts: greatest common divisors and rationals.
-/
import Derived.Test.YtobildkjikhdiaaTypes
import Derived.RegionTactic
namespace Go.Proofs.Ytobildkjikhdiaa
open Go.RowKit

theorem gcd_tmod (a b : Int) : Int.gcd b (a.tmod b) = Int.gcd a b := by
  show Nat.gcd b.natAbs (a.tmod b).natAbs = Nat.gcd a.natAbs b.natAbs
  rw [Int.natAbs_tmod, Nat.gcd_comm a.natAbs, Nat.gcd_rec b.natAbs a.natAbs, Nat.gcd_comm]

theorem natAbs_tmod_lt (a b : Int) (hb : b ≠ 0) : (a.tmod b).natAbs < b.natAbs := by
  rw [Int.natAbs_tmod]; exact Nat.mod_lt _ (by omega)

/-- a is an int, and so is its opposite -/
def Opp (a : Int) : Prop := -9223372036854775807 ≤ a ∧ a ≤ 9223372036854775807
theorem Opp.tmod {a b : Int} (hb : Opp b) (h0 : b ≠ 0) : Opp (a.tmod b) := by
  have := natAbs_tmod_lt a b h0
  unfold Opp at *; omega

set_option maxHeartbeats 400000 in
theorem iGcd_c (a b : Int) (w : World) (ha : Opp a) (hb : Opp b) :
    Calls Try.prog 146 #[.int .i64 a, .int .i64 b] w fun e w' => e = .returned (.int .i64 (Int.gcd a b)) ∧ Qt w w' := by
  have ha1 := ha.1; have ha2 := ha.2; have hb1 := hb.1; have hb2 := hb.2
  go_enter Try.func146, Try.ntmps146
  go_wp2
  go_loopw [0, 1] (fun x y wr => ∃ a' b' : Int, x = .int .i64 a' ∧ y = .int .i64 b' ∧ Opp a' ∧ Opp b' ∧ Int.gcd a' b' = Int.gcd a b ∧ ∃ q, wr = w.drewN q) (fun _ y _ => (intOf y).natAbs)
  case atStart => exact ⟨a, b, rfl, rfl, ha, hb, rfl, 0, rfl⟩
  case round =>
    obtain ⟨a', b', rfl, rfl, hA, hB, hg, q, rfl⟩ := hrel
    have HG := Lib.hid hg; clear hg
    have hA1 := hA.1; have hA2 := hA.2; have hB1 := hB.1; have hB2 := hB.2
    by_cases h0 : b' = 0
    · subst h0
      have hz : ((0 : Int) != 0) = false := by simp
      by_cases hs : 0 ≤ a'
      all_goals
        go_wp2
        go_ret
        exact ⟨ret_int (by have := HG.out; rw [Int.gcd_zero_right] at this; omega), _, rfl⟩
    · have hz : (b' != 0) = true := by simp [h0]
      have ht := Opp.tmod (a := a') hB h0
      have hl := natAbs_tmod_lt a' b' h0
      have he := Lib.hid ((gcd_tmod a' b').trans HG.out)
      go_wp2
      go_quiet (fail)
      go_wp2
      go_roundw
      case rel => exact ⟨b', a'.tmod b', rfl, rfl, hB, ht, he.out, _, World.drewN_drewN _ _ _⟩
      case measure => simpa [intOf] using hl
set_option maxHeartbeats 400000 in
theorem sGcd_c (a b : Int) (w : World) (ha : Opp a) (hb : Opp b) (h0 : 0 ≤ a) (h0' : 0 ≤ b) :
    Calls Try.prog 143 #[.int .i64 a, .int .i64 b] w fun e w' => e = .returned (.int .i64 (Int.gcd a b)) ∧ w = w' := by
  have ha1 := ha.1; have ha2 := ha.2; have hb1 := hb.1; have hb2 := hb.2
  go_enter Try.func143, Try.ntmps143
  go_wp2
  go_loop [0, 1] (fun x y => ∃ a' b' : Int, x = .int .i64 a' ∧ y = .int .i64 b' ∧ Opp a' ∧ Opp b' ∧ 0 ≤ a' ∧ 0 ≤ b' ∧ Int.gcd a' b' = Int.gcd a b) (fun _ y => (intOf y).natAbs)
  case atStart => exact ⟨a, b, rfl, rfl, ha, hb, h0, h0', rfl⟩
  case round =>
    obtain ⟨a', b', rfl, rfl, hA, hB, hp, hp', hg⟩ := hrel
    have HG := Lib.hid hg; clear hg
    have hA1 := hA.1; have hA2 := hA.2; have hB1 := hB.1; have hB2 := hB.2
    by_cases h0 : b' = 0
    · subst h0
      have hz : ((0 : Int) != 0) = false := by simp
      go_wp2
      go_ret
      exact ⟨ret_int (by have := HG.out; rw [Int.gcd_zero_right] at this; omega), rfl⟩
    · have hz : (b' != 0) = true := by simp [h0]
      have ht := Opp.tmod (a := a') hB h0
      have hl := natAbs_tmod_lt a' b' h0
      have he := Lib.hid ((gcd_tmod a' b').trans HG.out)
      have em : a'.tmod b' = a' % b' := Int.tmod_eq_emod_of_nonneg hp
      have hnn : 0 ≤ a' % b' := Int.emod_nonneg _ h0
      rw [em] at ht hl he
      clear em
      go_wp2
      go_round
      case rel => exact ⟨b', a' % b', rfl, rfl, hB, ht, hp', hnn, he.out⟩
      case measure => simpa [intOf] using hl
theorem l2Abs_c (a : Int) (w : World) (ha : Opp a) : Calls Try.prog 144 #[.int .i64 a] w fun e w' => e = .returned (.int .i64 (a.natAbs : Int)) ∧ w = w' := by
  have ha1 := ha.1; have ha2 := ha.2
  by_cases h : a < 0
  all_goals
    go_enter Try.func144, Try.ntmps144
    go_wp2
    go_ret
    exact ⟨ret_int (by omega), rfl⟩

theorem sGcd_q (a b : Int) (w : World) (ha : Opp a) (hb : Opp b) (h0 : 0 ≤ a) (h0' : 0 ≤ b) : Calls Try.prog 143 #[.int .i64 a, .int .i64 b] w fun e w' => e = .returned (.int .i64 (Int.gcd a b)) ∧ w' = w := (sGcd_c a b w ha hb h0 h0').mono fun _ _ ⟨h, q⟩ => ⟨h, q.symm⟩
theorem l2Abs_q (a : Int) (w : World) (ha : Opp a) : Calls Try.prog 144 #[.int .i64 a] w fun e w' => e = .returned (.int .i64 (a.natAbs : Int)) ∧ w' = w := (l2Abs_c a w ha).mono fun _ _ ⟨h, q⟩ => ⟨h, q.symm⟩
def validR (x : RationalD) : Bool := inR x.fDen 1 2147483647 && (inR x.fNum (-2147483647) 2147483647 && (((Int.gcd x.fNum x.fDen : Nat) : Int) == 1))
theorem gcd_natAbs (a b : Int) : Int.gcd ((a.natAbs : Nat) : Int) b = Int.gcd a b := by
  show Nat.gcd (((a.natAbs : Nat) : Int)).natAbs b.natAbs = Nat.gcd a.natAbs b.natAbs
  rw [Int.natAbs_natCast]

set_option maxHeartbeats 400000 in
theorem iIsValidRational_c (cs : List Value) (x : RationalD) (w : World) (h : (rRational NB).rep w cs x) :
    Calls Try.prog 147 #[.agg cs.toArray] w fun e w' => e = .returned (.bool (validR x)) ∧ Below w.heap.size w w' := by
  obtain ⟨rfl, i1, i2⟩ := rRational_rep.1 h
  obtain ⟨n, d⟩ := x
  simp only at i1 i2 ⊢
  clear h
  have hB := (Below.refl w.heap.size w).alloc (Nat.le_refl _) (.cells #[.int .i64 n, .int .i64 d] 93)
  cases h1 : inR d 1 2147483647
  · go_enter Try.func147, Try.ntmps147
    go_wp2_with (go_at_call 89; refine (within_c _ _ _ _).mono ?_; rintro e w' ⟨rfl, rfl⟩)
    go_ret
    exact ⟨ret_bool (a := false) (by simp [validR, h1]), hB⟩
  · cases h2 : inR n (-2147483647) 2147483647
    · go_enter Try.func147, Try.ntmps147
      go_wp2_with (go_at_call 89; refine (within_c _ _ _ _).mono ?_; rintro e w' ⟨rfl, rfl⟩)
      go_ret
      exact ⟨ret_bool (a := false) (by simp [validR, h2]), hB⟩
    · have h1' := inR_t.1 h1
      have h2' := inR_t.1 h2
      go_enter Try.func147, Try.ntmps147
      go_wp2_with (first | (go_at_call 89; refine (within_c _ _ _ _).mono ?_; rintro e w' ⟨rfl, rfl⟩) | (go_at_call 146; refine (iGcd_c n d _ ⟨by omega, by omega⟩ ⟨by omega, by omega⟩).mono ?_; rintro e w1 ⟨rfl, hq⟩))
      go_ret
      exact ⟨ret_bool (by simp [validR, h1, h2]), hB.trans (hq.below _)⟩
set_option maxRecDepth 100000 in
set_option maxHeartbeats 400000 in
theorem sIsValidRational_c (cs : List Value) (x : RationalD) (w : World) (h : (rRational NB).rep w cs x) :
    Calls Try.prog 145 #[.agg cs.toArray] w fun e w' => e = .returned (.bool (validR x)) ∧ Below w.heap.size w w' := by
  obtain ⟨rfl, i1, i2⟩ := rRational_rep.1 h
  obtain ⟨n, d⟩ := x
  simp only at i1 i2 ⊢
  clear h
  have hB := (Below.refl w.heap.size w).alloc (Nat.le_refl _) (.cells #[.int .i64 n, .int .i64 d] 93)
  cases h1 : inR d 1 2147483647
  · have K1 := Lib.hid (fun W => l1In_v h1 W)
    go_enter Try.func145, Try.ntmps145
    go_wp2_with fail
    go_quiet ((go_at_call_of 90 (Value.int IntKind.i64 d); exact Calls.quiet_of_same (K1.out _)))
    go_wp2
    go_ret
    exact ⟨ret_bool (a := false) (by simp [validR, h1]), below_drewN hB _⟩
  · have K1 := Lib.hid (fun W => l1In_v h1 W)
    cases h2 : inR n (-2147483647) 2147483647
    · have K2 := Lib.hid (fun W => l1In_v h2 W)
      have H1 := Lib.hid h1
      have H2 := Lib.hid h2
      clear h1 h2
      go_enter Try.func145, Try.ntmps145
      go_wp2_with fail
      go_quiet ((first | (go_at_call_of 90 (Value.int IntKind.i64 d); exact Calls.quiet_of_same (K1.out _)) | (go_at_call_of 90 (Value.int IntKind.i64 n); exact Calls.quiet_of_same (K2.out _))))
      go_wp2
      go_ret
      exact ⟨ret_bool (a := false) (by simp [validR, H2.out]), below_drewN hB _⟩
    · have K2 := Lib.hid (fun W => l1In_v h2 W)
      have H1 := Lib.hid h1
      have H2 := Lib.hid h2
      have h1' := inR_t.1 h1
      have h2' := inR_t.1 h2
      have K3 := Lib.hid (fun W => l2Abs_q n W ⟨by omega, by omega⟩)
      have K4 := Lib.hid (fun W => sGcd_q (n.natAbs : Int) d W ⟨by omega, by omega⟩ ⟨by omega, by omega⟩ (by omega) (by omega))
      clear h1 h2
      go_enter Try.func145, Try.ntmps145
      go_wp2_with fail
      go_quiet ((first | (go_at_call_of 90 (Value.int IntKind.i64 d); exact Calls.quiet_of_same (K1.out _)) | (go_at_call_of 90 (Value.int IntKind.i64 n); exact Calls.quiet_of_same (K2.out _)) | (go_at_call 144; exact Calls.quiet_of_same (K3.out _)) | (go_at_call 143; exact Calls.quiet_of_same (K4.out _))))
      go_wp2
      go_ret
      exact ⟨ret_bool (by simp only [validR, H1.out, H2.out, gcd_natAbs, Bool.true_and]), below_drewN hB _⟩

end Go.Proofs.Ytobildkjikhdiaa
