/-
  Contracts: MakeRational at numbers that are not negative, MeasuredRatio.
-/
import Derived.Test.YtobildkjikhdiaaRat
import Derived.RegionTactic
namespace Go.Proofs.Ytobildkjikhdiaa
open Go.RowKit

def mkR (num den : Int) : RationalD × Bool :=
  if validR ⟨num / ((Int.gcd num den : Nat) : Int), den / ((Int.gcd num den : Nat) : Int)⟩ then (⟨num / ((Int.gcd num den : Nat) : Int), den / ((Int.gcd num den : Nat) : Int)⟩, true) else (⟨0, 0⟩, false)
def RetR (x : RationalD × Bool) (w : World) (e : Ending) (w' : World) : Prop := e = .returned (.tuple #[.agg #[.int .i64 x.1.fNum, .int .i64 x.1.fDen], .bool x.2]) ∧ Below w.heap.size w w'

theorem gcd_bd {a b : Int} (hb : 1 ≤ b) : 1 ≤ ((Int.gcd a b : Nat) : Int) ∧ ((Int.gcd a b : Nat) : Int) ≤ b := by
  have h1 : Int.gcd a b ≠ 0 := by intro h; have := Int.gcd_eq_zero_iff.1 h; omega
  have h2 : Int.gcd a b ∣ b.natAbs := Nat.gcd_dvd_right _ _
  have h3 := Nat.le_of_dvd (by omega) h2
  omega

theorem div_bd {a g : Int} (h0 : 0 ≤ a) (hg : 1 ≤ g) : 0 ≤ a / g ∧ a / g ≤ a := ⟨Int.ediv_nonneg h0 (by omega), Int.ediv_le_self g h0⟩

set_option maxRecDepth 100000 in
set_option maxHeartbeats 1600000 in
theorem iMakeRational_c (num den : Int) (w : World) (h0 : 0 ≤ num) (h1 : num ≤ 4611686018427387904) (h2 : 1 ≤ den) (h3 : den ≤ 4611686018427387904) :
    Calls Try.prog 119 #[.int .i64 num, .int .i64 den] w (RetR (mkR num den) w) := by
  have hg := gcd_bd (a := num) h2
  have d1 : (den == 0) = false := by simp; omega
  have d2 : (den == -den) = false := by simp; omega
  have HR : Hid (mkR num den = mkR num den) := rfl
  generalize hmk : mkR num den = R
  have HM := Lib.hid hmk; clear hmk HR
  have hw : ∃ b5 : Bool, (num == -num) = b5 ∧ (b5 = true → (num != 0) = false) := ⟨_, rfl, fun h => by simp at h ⊢; omega⟩
  obtain ⟨b5, d3, d5⟩ := hw
  cases b5
  rotate_left
  · have d6 := d5 rfl
    clear d5
    go_enter Try.func119, Try.ntmps119
    go_wp2_with fail
    refine (iGcd_c num den _ ⟨by omega, by omega⟩ ⟨by omega, by omega⟩).mono ?_
    rintro e w1 ⟨rfl, hq⟩
    have bk := (Bk.new w [.int .i64 0, .int .i64 0] 93).below (hq.below _)
    have hB : Below w.heap.size w w1 := ((Below.refl _ _).alloc (Nat.le_refl _) _).trans (hq.below _)
    clear hq
    generalize hgg : ((Int.gcd num den : Nat) : Int) = g at *
    have HG := Lib.hid hgg; clear hgg
    have d4 : (g == 0) = false := by simp; omega
    have qn := div_bd h0 hg.1
    have qd := div_bd (a := den) (by omega) hg.1
    go_wp2_with fail
    go_region
    go_wp2_with fail
    have hA := (Below.refl w1.heap.size w1).alloc (Nat.le_refl _) (.cells #[.int .i64 (num / g), .int .i64 (den / g)] 93)
    have bk2 := Bk.new w1 [.int .i64 (num / g), .int .i64 (den / g)] 93
    replace bk := bk.below hA
    replace hB := hB.trans (hA.mono hB.size)
    refine (iIsValidRational_c _ ⟨num / g, den / g⟩ _ (rRational_rep.2 ⟨rfl, ⟨by simp only; omega, by simp only; omega⟩, ⟨by simp only; omega, by simp only; omega⟩⟩)).mono ?_
    rintro e w2 ⟨rfl, hb2⟩
    have hb2' : Below (w1.alloc (.cells #[.int .i64 (num / g), .int .i64 (den / g)] 93)).heap.size (w1.alloc (.cells #[.int .i64 (num / g), .int .i64 (den / g)] 93)) w2 := Below.trans ((Below.refl _ _).drew) hb2
    clear hb2
    replace bk := bk.below hb2'
    replace bk2 := bk2.below hb2'
    replace hB := hB.trans (hb2'.mono hB.size)
    clear hb2' hA
    have f0 := bk.frozen 0
    have f1 := bk.frozen 1
    have r0 := bk.bx 0 _ rfl
    have r1 := bk.bx 1 _ rfl
    have s0 := bk2.bx 0 _ rfl
    have s1 := bk2.bx 1 _ rfl
    have hlt := bk.lt
    cases hv : validR ⟨num / g, den / g⟩
    · have hR : R = (⟨0, 0⟩, false) := by rw [← HM.out]; unfold mkR; rw [HG.out, hv]; rfl
      subst hR
      clear HM
      go_wp2
      have q0 := (bk.set 0 (.int .i64 0)).bx 0 _ rfl
      have q1 := ((bk.set 0 (.int .i64 0)).set 1 (.int .i64 0)).bx 1 _ rfl
      refine bodyPost_ret (v := .tuple #[.agg #[.int .i64 0, .int .i64 0], .bool false]) (by simp [results, Try.results119, go_sem, q0, q1]) rfl ⟨rfl, ?_⟩
      exact (hB.setCell (Nat.le_refl _) _).setCell (Nat.le_refl _) _
    · have hR : R = (⟨num / g, den / g⟩, true) := by rw [← HM.out]; unfold mkR; rw [HG.out, hv]; rfl
      subst hR
      clear HM
      go_wp2
      have q0 := (bk.set 0 (.int .i64 (num / g))).bx 0 _ rfl
      have q1 := ((bk.set 0 (.int .i64 (num / g))).set 1 (.int .i64 (den / g))).bx 1 _ rfl
      refine bodyPost_ret (v := .tuple #[.agg #[.int .i64 (num / g), .int .i64 (den / g)], .bool true]) (by simp [results, Try.results119, go_sem, q0, q1]) rfl ⟨rfl, ?_⟩
      exact (hB.setCell (Nat.le_refl _) _).setCell (Nat.le_refl _) _
  · clear d5
    go_enter Try.func119, Try.ntmps119
    go_wp2_with fail
    refine (iGcd_c num den _ ⟨by omega, by omega⟩ ⟨by omega, by omega⟩).mono ?_
    rintro e w1 ⟨rfl, hq⟩
    have bk := (Bk.new w [.int .i64 0, .int .i64 0] 93).below (hq.below _)
    have hB : Below w.heap.size w w1 := ((Below.refl _ _).alloc (Nat.le_refl _) _).trans (hq.below _)
    clear hq
    generalize hgg : ((Int.gcd num den : Nat) : Int) = g at *
    have HG := Lib.hid hgg; clear hgg
    have d4 : (g == 0) = false := by simp; omega
    have qn := div_bd h0 hg.1
    have qd := div_bd (a := den) (by omega) hg.1
    go_wp2_with fail
    go_region
    go_wp2_with fail
    have hA := (Below.refl w1.heap.size w1).alloc (Nat.le_refl _) (.cells #[.int .i64 (num / g), .int .i64 (den / g)] 93)
    have bk2 := Bk.new w1 [.int .i64 (num / g), .int .i64 (den / g)] 93
    replace bk := bk.below hA
    replace hB := hB.trans (hA.mono hB.size)
    refine (iIsValidRational_c _ ⟨num / g, den / g⟩ _ (rRational_rep.2 ⟨rfl, ⟨by simp only; omega, by simp only; omega⟩, ⟨by simp only; omega, by simp only; omega⟩⟩)).mono ?_
    rintro e w2 ⟨rfl, hb2⟩
    have hb2' : Below (w1.alloc (.cells #[.int .i64 (num / g), .int .i64 (den / g)] 93)).heap.size (w1.alloc (.cells #[.int .i64 (num / g), .int .i64 (den / g)] 93)) w2 := Below.trans ((Below.refl _ _).drew) hb2
    clear hb2
    replace bk := bk.below hb2'
    replace bk2 := bk2.below hb2'
    replace hB := hB.trans (hb2'.mono hB.size)
    clear hb2' hA
    have f0 := bk.frozen 0
    have f1 := bk.frozen 1
    have r0 := bk.bx 0 _ rfl
    have r1 := bk.bx 1 _ rfl
    have s0 := bk2.bx 0 _ rfl
    have s1 := bk2.bx 1 _ rfl
    have hlt := bk.lt
    cases hv : validR ⟨num / g, den / g⟩
    · have hR : R = (⟨0, 0⟩, false) := by rw [← HM.out]; unfold mkR; rw [HG.out, hv]; rfl
      subst hR
      clear HM
      go_wp2
      have q0 := (bk.set 0 (.int .i64 0)).bx 0 _ rfl
      have q1 := ((bk.set 0 (.int .i64 0)).set 1 (.int .i64 0)).bx 1 _ rfl
      refine bodyPost_ret (v := .tuple #[.agg #[.int .i64 0, .int .i64 0], .bool false]) (by simp [results, Try.results119, go_sem, q0, q1]) rfl ⟨rfl, ?_⟩
      exact (hB.setCell (Nat.le_refl _) _).setCell (Nat.le_refl _) _
    · have hR : R = (⟨num / g, den / g⟩, true) := by rw [← HM.out]; unfold mkR; rw [HG.out, hv]; rfl
      subst hR
      clear HM
      go_wp2
      have q0 := (bk.set 0 (.int .i64 (num / g))).bx 0 _ rfl
      have q1 := ((bk.set 0 (.int .i64 (num / g))).set 1 (.int .i64 (den / g))).bx 1 _ rfl
      refine bodyPost_ret (v := .tuple #[.agg #[.int .i64 (num / g), .int .i64 (den / g)], .bool true]) (by simp [results, Try.results119, go_sem, q0, q1]) rfl ⟨rfl, ?_⟩
      exact (hB.setCell (Nat.le_refl _) _).setCell (Nat.le_refl _) _
set_option maxRecDepth 100000 in
set_option maxHeartbeats 1600000 in
theorem sMakeRational_c (num den : Int) (w : World) (h0 : 0 ≤ num) (h1 : num ≤ 4611686018427387904) (h2 : 1 ≤ den) (h3 : den ≤ 4611686018427387904) :
    Calls Try.prog 117 #[.int .i64 num, .int .i64 den] w (RetR (mkR num den) w) := by
  have hg := gcd_bd (a := num) h2
  have d1 : (den == 0) = false := by simp; omega
  generalize hmk : mkR num den = R
  have HM := Lib.hid hmk; clear hmk
  go_enter Try.func117, Try.ntmps117
  go_wp2_with fail
  refine (l2Abs_c num _ ⟨by omega, by omega⟩).mono ?_
  rintro e w0 ⟨rfl, rfl⟩
  go_wp2_with fail
  refine (sGcd_c (num.natAbs : Int) den _ ⟨by omega, by omega⟩ ⟨by omega, by omega⟩ (by omega) (by omega)).mono ?_
  rintro e w1 ⟨rfl, hw1⟩
  have hq := Below.of_eq hw1
  rw [gcd_natAbs]
  have bk := (Bk.new w [.int .i64 0, .int .i64 0] 93).below hq
  have hB : Below w.heap.size w w1 := ((Below.refl _ _).alloc (Nat.le_refl _) _).trans (hq.mono (by simp))
  clear hq hw1
  generalize hgg : ((Int.gcd num den : Nat) : Int) = g at *
  have HG := Lib.hid hgg; clear hgg
  have d4 : (g == 0) = false := by simp; omega
  have qn := div_bd h0 hg.1
  have qd := div_bd (a := den) (by omega) hg.1
  go_wp2_with fail
  go_region
  go_wp2_with fail
  have hA := (Below.refl w1.heap.size w1).alloc (Nat.le_refl _) (.cells #[.int .i64 (num / g), .int .i64 (den / g)] 93)
  have bk2 := Bk.new w1 [.int .i64 (num / g), .int .i64 (den / g)] 93
  replace bk := bk.below hA
  replace hB := hB.trans (hA.mono hB.size)
  refine (sIsValidRational_c _ ⟨num / g, den / g⟩ _ (rRational_rep.2 ⟨rfl, ⟨by simp only; omega, by simp only; omega⟩, ⟨by simp only; omega, by simp only; omega⟩⟩)).mono ?_
  rintro e w2 ⟨rfl, hb2⟩
  have hb2' : Below (w1.alloc (.cells #[.int .i64 (num / g), .int .i64 (den / g)] 93)).heap.size (w1.alloc (.cells #[.int .i64 (num / g), .int .i64 (den / g)] 93)) w2 := Below.trans ((Below.refl _ _).drew) hb2
  clear hb2
  replace bk := bk.below hb2'
  replace bk2 := bk2.below hb2'
  replace hB := hB.trans (hb2'.mono hB.size)
  clear hb2' hA
  have f0 := bk.frozen 0
  have f1 := bk.frozen 1
  have r0 := bk.bx 0 _ rfl
  have r1 := bk.bx 1 _ rfl
  have s0 := bk2.bx 0 _ rfl
  have s1 := bk2.bx 1 _ rfl
  have hlt := bk.lt
  cases hv : validR ⟨num / g, den / g⟩
  · have hR : R = (⟨0, 0⟩, false) := by rw [← HM.out]; unfold mkR; rw [HG.out, hv]; rfl
    subst hR
    clear HM
    go_wp2
    have q0 := (bk.set 0 (.int .i64 0)).bx 0 _ rfl
    have q1 := ((bk.set 0 (.int .i64 0)).set 1 (.int .i64 0)).bx 1 _ rfl
    refine bodyPost_ret (v := .tuple #[.agg #[.int .i64 0, .int .i64 0], .bool false]) (by simp [results, Try.results117, go_sem, q0, q1]) rfl ⟨rfl, ?_⟩
    exact (hB.setCell (Nat.le_refl _) _).setCell (Nat.le_refl _) _
  · have hR : R = (⟨num / g, den / g⟩, true) := by rw [← HM.out]; unfold mkR; rw [HG.out, hv]; rfl
    subst hR
    clear HM
    go_wp2
    have q0 := (bk.set 0 (.int .i64 (num / g))).bx 0 _ rfl
    have q1 := ((bk.set 0 (.int .i64 (num / g))).set 1 (.int .i64 (den / g))).bx 1 _ rfl
    refine bodyPost_ret (v := .tuple #[.agg #[.int .i64 (num / g), .int .i64 (den / g)], .bool true]) (by simp [results, Try.results117, go_sem, q0, q1]) rfl ⟨rfl, ?_⟩
    exact (hB.setCell (Nat.le_refl _) _).setCell (Nat.le_refl _) _

/-! ### MeasuredRatio -/
def measured (t o : Int) : RationalD × Bool := if inR t 0 1000000000000 && inR o 1 1000000000000 then mkR t o else (⟨0, 0⟩, false)
end Go.Proofs.Ytobildkjikhdiaa
