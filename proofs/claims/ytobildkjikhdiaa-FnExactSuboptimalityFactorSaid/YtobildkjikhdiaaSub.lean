/-
  Contracts: the factor of suboptimality.
-/
import Derived.Test.YtobildkjikhdiaaMake
import Derived.Test.YtobildkjikhdiaaDens
import Derived.Test.YtobildkjikhdiaaKeep
namespace Go.Proofs.Ytobildkjikhdiaa
open Go.RowKit
set_option linter.unusedVariables false
set_option linter.unusedSimpArgs false

def subFactor (b : BouquetD) : RationalD × Bool :=
  if inR (density b.fContours : Nat) 1 10000 && (inR b.fRatio 2 8 && inR b.fSlack 0 100) then mkR ((density b.fContours : Nat) * (100 + b.fSlack) * b.fRatio * b.fRatio) (100 * (b.fRatio - 1)) else (⟨0, 0⟩, false)
theorem mkR_own {num den : Int} (h0 : 0 ≤ num) (h1 : num ≤ 4611686018427387904) (h2 : 1 ≤ den) (h3 : den ≤ 4611686018427387904) (w : World) : (rRational NB).own w [] [.int .i64 (mkR num den).1.fNum, .int .i64 (mkR num den).1.fDen] (mkR num den).1 := by
  refine rRational_own.2 ⟨rfl, rfl, ?_, ?_⟩
  all_goals
    unfold mkR
    split
    · have g1 := gcd_bd (a := num) h2
      have d1 := div_bd h0 g1.1
      have d2 := div_bd (a := den) (by omega) g1.1
      constructor <;> dsimp only <;> omega
    · constructor <;> decide
theorem zeroR_own (w : World) : (rRational NB).own w [] [.int .i64 0, .int .i64 0] ⟨0, 0⟩ := rRational_own.2 ⟨rfl, rfl, ⟨by decide, by decide⟩, ⟨by decide, by decide⟩⟩

set_option maxRecDepth 100000 in
set_option maxHeartbeats 1600000 in
theorem sSuboptimalityFactor_c (csx : List Value) (x : BouquetD) (w : World) (hx : (rBouquet NB).rep w csx x) :
    Calls Try.prog 60 #[.agg csx.toArray] w (RetVB (rRational NB) (subFactor x).1 (.bool (subFactor x).2) w) := by
  have rx := hx
  obtain ⟨AxBoxLow, nxBoxLow, cxBoxLow, AxBoxHigh, nxBoxHigh, cxBoxHigh, AxBudgets, nxBudgets, cxBudgets, AxPlans, nxPlans, cxPlans, AxContours, nxContours, cxContours, rfl, hxVersion, hxRatio, hxSlack, hxBoxLow, hxBoxHigh, hxBudgets, hxPlans, hxContours⟩ := rBouquet_rep.1 hx
  clear hx
  have hB : Below w.heap.size w w := Below.refl _ _
  have hAx := (Below.refl (World.heap (w)).size (w)).alloc (Nat.le_refl _) (.cells #[.int .i64 x.fVersion, .int .i64 x.fRatio, .int .i64 x.fSlack, .slice AxBoxLow nxBoxLow cxBoxLow, .slice AxBoxHigh nxBoxHigh cxBoxHigh, .slice AxBudgets nxBudgets cxBudgets, .slice AxPlans nxPlans cxPlans, .slice AxContours nxContours cxContours] 87)
  replace hB := hB.trans (hAx.mono hB.size)
  have bxx := Bx.new (w) [.int .i64 x.fVersion, .int .i64 x.fRatio, .int .i64 x.fSlack, .slice AxBoxLow nxBoxLow cxBoxLow, .slice AxBoxHigh nxBoxHigh cxBoxHigh, .slice AxBudgets nxBudgets cxBudgets, .slice AxPlans nxPlans cxPlans, .slice AxContours nxContours cxContours] 87
  clear hAx
  obtain ⟨wa, hwa⟩ : ∃ wa, wa = w.alloc (.cells #[.int .i64 x.fVersion, .int .i64 x.fRatio, .int .i64 x.fSlack, .slice AxBoxLow nxBoxLow cxBoxLow, .slice AxBoxHigh nxBoxHigh cxBoxHigh, .slice AxBudgets nxBudgets cxBudgets, .slice AxPlans nxPlans cxPlans, .slice AxContours nxContours cxContours] 87) := ⟨_, rfl⟩
  rw [← hwa] at hB bxx
  have hBA := (Below.refl wa.heap.size wa).alloc (Nat.le_refl _) (.cells #[.int .i64 0, .int .i64 0] 93)
  have bkR := Bk.new wa [.int .i64 0, .int .i64 0] 93
  replace hB := hB.trans (hBA.mono hB.size)
  replace bxx := bxx.below hBA
  clear hBA
  rw [hwa] at hB bxx bkR
  simp only [World.size_alloc] at bkR
  clear hwa
  go_enter Try.func60, Try.ntmps60
  go_wp2_with fail
  refine (sBouquetDensity_c _ x _ ((rBouquet_ok NB).keep rx (cells_below hB))).mono ?_
  rintro e w1 ⟨rfl, hb1⟩
  replace hB := hB.trans (hb1.mono hB.size)
  replace bxx := bxx.below hb1
  replace bkR := bkR.below hb1
  clear hb1
  generalize hd : density x.fContours = d
  have HD := Lib.hid hd; clear hd
  have kx_1 := bxx 1 _ rfl
  have kx_2 := bxx 2 _ rfl
  have rf0 := bkR.frozen 0
  have rf1 := bkR.frozen 1
  have rc0 := bkR.bx 0 _ rfl
  have rc1 := bkR.bx 1 _ rfl
  have rl := bkR.lt
  have hne : (⟨0, 0⟩ : RationalD) = ⟨0, 0⟩ := rfl
  cases g1 : inR (d : Int) 1 10000
  · go_wp2_with (go_at_call 90; refine (l1In_c _ _ _ _).mono ?_; rintro e w' ⟨rfl, rfl⟩)
    have bk3 := (bkR.set 0 (.int .i64 0)).set 1 (.int .i64 0)
    have q0 := bk3.bx 0 _ rfl
    have q1 := bk3.bx 1 _ rfl
    refine bodyPost_ret (v := .tuple #[.agg #[.int .i64 0, .int .i64 0], .bool false]) (by simp [results, Try.results60, go_sem, q0, q1]) rfl ?_
    have he : subFactor x = (⟨0, 0⟩, false) := by simp [subFactor, HD.out, g1]
    rw [he]
    exact ⟨_, _, rfl, zeroR_own _, Fr.nil _, (hB.setCell (by simp) _).setCell (by simp) _⟩
  cases g2 : inR x.fRatio 2 8
  · go_wp2_with (go_at_call 90; refine (l1In_c _ _ _ _).mono ?_; rintro e w' ⟨rfl, rfl⟩)
    have bk3 := (bkR.set 0 (.int .i64 0)).set 1 (.int .i64 0)
    have q0 := bk3.bx 0 _ rfl
    have q1 := bk3.bx 1 _ rfl
    refine bodyPost_ret (v := .tuple #[.agg #[.int .i64 0, .int .i64 0], .bool false]) (by simp [results, Try.results60, go_sem, q0, q1]) rfl ?_
    have he : subFactor x = (⟨0, 0⟩, false) := by simp [subFactor, g2]
    rw [he]
    exact ⟨_, _, rfl, zeroR_own _, Fr.nil _, (hB.setCell (by simp) _).setCell (by simp) _⟩
  cases g3 : inR x.fSlack 0 100
  · go_wp2_with (go_at_call 90; refine (l1In_c _ _ _ _).mono ?_; rintro e w' ⟨rfl, rfl⟩)
    have bk3 := (bkR.set 0 (.int .i64 0)).set 1 (.int .i64 0)
    have q0 := bk3.bx 0 _ rfl
    have q1 := bk3.bx 1 _ rfl
    refine bodyPost_ret (v := .tuple #[.agg #[.int .i64 0, .int .i64 0], .bool false]) (by simp [results, Try.results60, go_sem, q0, q1]) rfl ?_
    have he : subFactor x = (⟨0, 0⟩, false) := by simp [subFactor, g3]
    rw [he]
    exact ⟨_, _, rfl, zeroR_own _, Fr.nil _, (hB.setCell (by simp) _).setCell (by simp) _⟩
  have g1' := inR_t.1 g1
  have g2' := inR_t.1 g2
  have g3' := inR_t.1 g3
  have a0 : 0 ≤ (d : Int) * (100 + x.fSlack) := Int.mul_nonneg (by omega) (by omega)
  have a1 : (d : Int) * (100 + x.fSlack) ≤ 10000 * 200 := Int.mul_le_mul g1'.2 (by omega) (by omega) (by omega)
  have b0 : 0 ≤ (d : Int) * (100 + x.fSlack) * x.fRatio := Int.mul_nonneg a0 (by omega)
  have b1 : (d : Int) * (100 + x.fSlack) * x.fRatio ≤ 10000 * 200 * 8 := Int.mul_le_mul a1 g2'.2 (by omega) (by omega)
  have c0 : 0 ≤ (d : Int) * (100 + x.fSlack) * x.fRatio * x.fRatio := Int.mul_nonneg b0 (by omega)
  have c1 : (d : Int) * (100 + x.fSlack) * x.fRatio * x.fRatio ≤ 10000 * 200 * 8 * 8 := Int.mul_le_mul b1 g2'.2 (by omega) (by omega)
  have he : subFactor x = mkR ((d : Int) * (100 + x.fSlack) * x.fRatio * x.fRatio) (100 * (x.fRatio - 1)) := by simp [subFactor, HD.out, g1, g2, g3]
  have m1 : IntKind.i64.wrap ((d : Int) * (100 + x.fSlack)) = (d : Int) * (100 + x.fSlack) := IntWalk.i64_in _ (by omega)
  have m2 : IntKind.i64.wrap ((d : Int) * (100 + x.fSlack) * x.fRatio) = (d : Int) * (100 + x.fSlack) * x.fRatio := IntWalk.i64_in _ (by omega)
  have m3 : IntKind.i64.wrap ((d : Int) * (100 + x.fSlack) * x.fRatio * x.fRatio) = (d : Int) * (100 + x.fSlack) * x.fRatio * x.fRatio := IntWalk.i64_in _ (by omega)
  have HE := Lib.hid he; clear he
  obtain ⟨N, hN⟩ : ∃ N, N = (d : Int) * (100 + x.fSlack) * x.fRatio * x.fRatio := ⟨_, rfl⟩
  have HN := Lib.hid hN
  go_wp2_with (go_at_call 90; refine (l1In_c _ _ _ _).mono ?_; rintro e w' ⟨rfl, rfl⟩)
  refine (sMakeRational_c _ _ _ c0 (by omega) (by omega) (by omega)).mono ?_
  rintro e w2 ⟨rfl, hb2⟩
  have hown := mkR_own (num := (d : Int) * (100 + x.fSlack) * x.fRatio * x.fRatio) (den := 100 * (x.fRatio - 1)) c0 (by omega) (by omega) (by omega)
  clear m1 m2 m3 hN kx_1 kx_2 rf0 rf1 rc0 rc1 rl
  generalize hR : mkR ((d : Int) * (100 + x.fSlack) * x.fRatio * x.fRatio) (100 * (x.fRatio - 1)) = R
  rw [hR] at hown
  have HE2 : Hid (subFactor x = R) := by show _ = _; rw [HE.out, hR]
  clear hR HE
  have HO := Lib.hid hown; clear hown a0 a1 b0 b1 c0 c1
  obtain ⟨⟨Rn, Rd⟩, Rb⟩ := R
  replace hB := hB.trans (hb2.mono hB.size)
  replace bkR := bkR.below hb2
  clear hb2
  have rf0 := bkR.frozen 0
  have rf1 := bkR.frozen 1
  have rc0 := bkR.bx 0 _ rfl
  have rc1 := bkR.bx 1 _ rfl
  have rl := bkR.lt
  go_wp2
  have bkf := ((bkR.set 0 (.int .i64 Rn)).set 1 (.int .i64 Rd)).below ((Below.refl _ _).alloc (Nat.le_refl _) (.cells #[.int .i64 Rn, .int .i64 Rd] 93))
  have q0 := bkf.bx 0 _ rfl
  have q1 := bkf.bx 1 _ rfl
  refine bodyPost_ret (v := .tuple #[.agg #[.int .i64 Rn, .int .i64 Rd], .bool Rb]) (by simp [results, Try.results60, go_sem, q0, q1]) rfl ?_
  rw [HE2.out]
  exact ⟨_, _, rfl, HO.out _, Fr.nil _, by first | exact (hB.setCell (Nat.le_succ _) _).setCell (Nat.le_succ _) _ | exact ((hB.setCell (Nat.le_succ _) _).setCell (Nat.le_succ _) _).alloc (by simp only [World.size_setCell]; exact hB.size) _⟩
set_option maxRecDepth 100000 in
set_option maxHeartbeats 1600000 in
theorem iSuboptimalityFactor_c (csx : List Value) (x : BouquetD) (w : World) (hx : (rBouquet NB).rep w csx x) :
    Calls Try.prog 61 #[.agg csx.toArray] w (RetVB (rRational NB) (subFactor x).1 (.bool (subFactor x).2) w) := by
  have rx := hx
  obtain ⟨AxBoxLow, nxBoxLow, cxBoxLow, AxBoxHigh, nxBoxHigh, cxBoxHigh, AxBudgets, nxBudgets, cxBudgets, AxPlans, nxPlans, cxPlans, AxContours, nxContours, cxContours, rfl, hxVersion, hxRatio, hxSlack, hxBoxLow, hxBoxHigh, hxBudgets, hxPlans, hxContours⟩ := rBouquet_rep.1 hx
  clear hx
  have hB : Below w.heap.size w w := Below.refl _ _
  have hAx := (Below.refl (World.heap (w)).size (w)).alloc (Nat.le_refl _) (.cells #[.int .i64 x.fVersion, .int .i64 x.fRatio, .int .i64 x.fSlack, .slice AxBoxLow nxBoxLow cxBoxLow, .slice AxBoxHigh nxBoxHigh cxBoxHigh, .slice AxBudgets nxBudgets cxBudgets, .slice AxPlans nxPlans cxPlans, .slice AxContours nxContours cxContours] 87)
  replace hB := hB.trans (hAx.mono hB.size)
  have bxx := Bx.new (w) [.int .i64 x.fVersion, .int .i64 x.fRatio, .int .i64 x.fSlack, .slice AxBoxLow nxBoxLow cxBoxLow, .slice AxBoxHigh nxBoxHigh cxBoxHigh, .slice AxBudgets nxBudgets cxBudgets, .slice AxPlans nxPlans cxPlans, .slice AxContours nxContours cxContours] 87
  clear hAx
  obtain ⟨wa, hwa⟩ : ∃ wa, wa = w.alloc (.cells #[.int .i64 x.fVersion, .int .i64 x.fRatio, .int .i64 x.fSlack, .slice AxBoxLow nxBoxLow cxBoxLow, .slice AxBoxHigh nxBoxHigh cxBoxHigh, .slice AxBudgets nxBudgets cxBudgets, .slice AxPlans nxPlans cxPlans, .slice AxContours nxContours cxContours] 87) := ⟨_, rfl⟩
  rw [← hwa] at hB bxx
  have hBA := (Below.refl wa.heap.size wa).alloc (Nat.le_refl _) (.cells #[.int .i64 0, .int .i64 0] 93)
  have bkR := Bk.new wa [.int .i64 0, .int .i64 0] 93
  replace hB := hB.trans (hBA.mono hB.size)
  replace bxx := bxx.below hBA
  clear hBA
  rw [hwa] at hB bxx bkR
  simp only [World.size_alloc] at bkR
  clear hwa
  go_enter Try.func61, Try.ntmps61
  go_wp2_with fail
  refine (iBouquetDensity_c _ x _ ((rBouquet_ok NB).keep rx (cells_below hB))).mono ?_
  rintro e w1 ⟨rfl, hb1⟩
  replace hB := hB.trans (hb1.mono hB.size)
  replace bxx := bxx.below hb1
  replace bkR := bkR.below hb1
  clear hb1
  generalize hd : density x.fContours = d
  have HD := Lib.hid hd; clear hd
  have kx_1 := bxx 1 _ rfl
  have kx_2 := bxx 2 _ rfl
  have rf0 := bkR.frozen 0
  have rf1 := bkR.frozen 1
  have rc0 := bkR.bx 0 _ rfl
  have rc1 := bkR.bx 1 _ rfl
  have rl := bkR.lt
  have hne : (⟨0, 0⟩ : RationalD) = ⟨0, 0⟩ := rfl
  cases g1 : inR (d : Int) 1 10000
  · go_wp2_with (go_at_call 89; refine (within_c _ _ _ _).mono ?_; rintro e w' ⟨rfl, rfl⟩)
    have bk3 := (bkR.set 0 (.int .i64 0)).set 1 (.int .i64 0)
    have q0 := bk3.bx 0 _ rfl
    have q1 := bk3.bx 1 _ rfl
    refine bodyPost_ret (v := .tuple #[.agg #[.int .i64 0, .int .i64 0], .bool false]) (by simp [results, Try.results61, go_sem, q0, q1]) rfl ?_
    have he : subFactor x = (⟨0, 0⟩, false) := by simp [subFactor, HD.out, g1]
    rw [he]
    exact ⟨_, _, rfl, zeroR_own _, Fr.nil _, (hB.setCell (by simp) _).setCell (by simp) _⟩
  cases g2 : inR x.fRatio 2 8
  · go_wp2_with (go_at_call 89; refine (within_c _ _ _ _).mono ?_; rintro e w' ⟨rfl, rfl⟩)
    have bk3 := (bkR.set 0 (.int .i64 0)).set 1 (.int .i64 0)
    have q0 := bk3.bx 0 _ rfl
    have q1 := bk3.bx 1 _ rfl
    refine bodyPost_ret (v := .tuple #[.agg #[.int .i64 0, .int .i64 0], .bool false]) (by simp [results, Try.results61, go_sem, q0, q1]) rfl ?_
    have he : subFactor x = (⟨0, 0⟩, false) := by simp [subFactor, g2]
    rw [he]
    exact ⟨_, _, rfl, zeroR_own _, Fr.nil _, (hB.setCell (by simp) _).setCell (by simp) _⟩
  cases g3 : inR x.fSlack 0 100
  · go_wp2_with (go_at_call 89; refine (within_c _ _ _ _).mono ?_; rintro e w' ⟨rfl, rfl⟩)
    have bk3 := (bkR.set 0 (.int .i64 0)).set 1 (.int .i64 0)
    have q0 := bk3.bx 0 _ rfl
    have q1 := bk3.bx 1 _ rfl
    refine bodyPost_ret (v := .tuple #[.agg #[.int .i64 0, .int .i64 0], .bool false]) (by simp [results, Try.results61, go_sem, q0, q1]) rfl ?_
    have he : subFactor x = (⟨0, 0⟩, false) := by simp [subFactor, g3]
    rw [he]
    exact ⟨_, _, rfl, zeroR_own _, Fr.nil _, (hB.setCell (by simp) _).setCell (by simp) _⟩
  have g1' := inR_t.1 g1
  have g2' := inR_t.1 g2
  have g3' := inR_t.1 g3
  have a0 : 0 ≤ (d : Int) * (100 + x.fSlack) := Int.mul_nonneg (by omega) (by omega)
  have a1 : (d : Int) * (100 + x.fSlack) ≤ 10000 * 200 := Int.mul_le_mul g1'.2 (by omega) (by omega) (by omega)
  have b0 : 0 ≤ (d : Int) * (100 + x.fSlack) * x.fRatio := Int.mul_nonneg a0 (by omega)
  have b1 : (d : Int) * (100 + x.fSlack) * x.fRatio ≤ 10000 * 200 * 8 := Int.mul_le_mul a1 g2'.2 (by omega) (by omega)
  have c0 : 0 ≤ (d : Int) * (100 + x.fSlack) * x.fRatio * x.fRatio := Int.mul_nonneg b0 (by omega)
  have c1 : (d : Int) * (100 + x.fSlack) * x.fRatio * x.fRatio ≤ 10000 * 200 * 8 * 8 := Int.mul_le_mul b1 g2'.2 (by omega) (by omega)
  have he : subFactor x = mkR ((d : Int) * (100 + x.fSlack) * x.fRatio * x.fRatio) (100 * (x.fRatio - 1)) := by simp [subFactor, HD.out, g1, g2, g3]
  have m1 : IntKind.i64.wrap ((d : Int) * (100 + x.fSlack)) = (d : Int) * (100 + x.fSlack) := IntWalk.i64_in _ (by omega)
  have m2 : IntKind.i64.wrap ((d : Int) * (100 + x.fSlack) * x.fRatio) = (d : Int) * (100 + x.fSlack) * x.fRatio := IntWalk.i64_in _ (by omega)
  have m3 : IntKind.i64.wrap ((d : Int) * (100 + x.fSlack) * x.fRatio * x.fRatio) = (d : Int) * (100 + x.fSlack) * x.fRatio * x.fRatio := IntWalk.i64_in _ (by omega)
  have HE := Lib.hid he; clear he
  obtain ⟨N, hN⟩ : ∃ N, N = (d : Int) * (100 + x.fSlack) * x.fRatio * x.fRatio := ⟨_, rfl⟩
  have HN := Lib.hid hN
  go_wp2_with (go_at_call 89; refine (within_c _ _ _ _).mono ?_; rintro e w' ⟨rfl, rfl⟩)
  refine (iMakeRational_c _ _ _ c0 (by omega) (by omega) (by omega)).mono ?_
  rintro e w2 ⟨rfl, hb2⟩
  have hown := mkR_own (num := (d : Int) * (100 + x.fSlack) * x.fRatio * x.fRatio) (den := 100 * (x.fRatio - 1)) c0 (by omega) (by omega) (by omega)
  clear m1 m2 m3 hN kx_1 kx_2 rf0 rf1 rc0 rc1 rl
  generalize hR : mkR ((d : Int) * (100 + x.fSlack) * x.fRatio * x.fRatio) (100 * (x.fRatio - 1)) = R
  rw [hR] at hown
  have HE2 : Hid (subFactor x = R) := by show _ = _; rw [HE.out, hR]
  clear hR HE
  have HO := Lib.hid hown; clear hown a0 a1 b0 b1 c0 c1
  obtain ⟨⟨Rn, Rd⟩, Rb⟩ := R
  replace hB := hB.trans (hb2.mono hB.size)
  replace bkR := bkR.below hb2
  clear hb2
  have rf0 := bkR.frozen 0
  have rf1 := bkR.frozen 1
  have rc0 := bkR.bx 0 _ rfl
  have rc1 := bkR.bx 1 _ rfl
  have rl := bkR.lt
  go_wp2
  have bkf := (bkR.set 0 (.int .i64 Rn)).set 1 (.int .i64 Rd)
  have q0 := bkf.bx 0 _ rfl
  have q1 := bkf.bx 1 _ rfl
  refine bodyPost_ret (v := .tuple #[.agg #[.int .i64 Rn, .int .i64 Rd], .bool Rb]) (by simp [results, Try.results61, go_sem, q0, q1]) rfl ?_
  rw [HE2.out]
  exact ⟨_, _, rfl, HO.out _, Fr.nil _, by first | exact (hB.setCell (Nat.le_succ _) _).setCell (Nat.le_succ _) _ | exact ((hB.setCell (Nat.le_succ _) _).setCell (Nat.le_succ _) _).alloc (by simp only [World.size_setCell]; exact hB.size) _⟩
end Go.Proofs.Ytobildkjikhdiaa
