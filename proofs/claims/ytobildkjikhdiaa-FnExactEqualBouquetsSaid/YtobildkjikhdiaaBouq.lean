/-
  Contracts: plans and bouquets compared.
-/
import Derived.Test.YtobildkjikhdiaaOutc
import Derived.Test.YtobildkjikhdiaaKeep
namespace Go.Proofs.Ytobildkjikhdiaa
open Go.RowKit
set_option linter.unusedVariables false
set_option linter.unusedSimpArgs false

theorem plan_eq (x y : PlanD) : (x = y) ↔ x.fSteps = y.fSteps := by cases x; cases y; simp
/-- the k-th plan of a slice of plans -/
theorem RS.plan {M : Nat} {w : World} {A : Option Addr} {n cap : Nat} {l : List PlanD} (h : RS M (rPlan NB) w A n cap l) {k : Nat} (hk : k < n) :
    ∃ b off x Ar nr cr, A = some ⟨b, off, none⟩ ∧ w.cell? ⟨b, off + k, none⟩ = some (.slice Ar nr cr) ∧ RS NB (rPlanStep NB) w Ar nr cr x.fSteps ∧ Hid (l[k]? = some x) := by
  obtain ⟨b, off, x, cs, e, hrep, hc, hx⟩ := h.at_ hk
  obtain ⟨A1, n1, c1, rfl, h1⟩ := rPlan_rep.1 hrep
  exact ⟨b, off, x, A1, n1, c1, e, by simpa [rPlan_size] using hc 0 _ rfl, h1, hx⟩

set_option maxRecDepth 100000 in
set_option maxHeartbeats 1600000 in
theorem iEqualPlans_c (csx : List Value) (x : PlanD) (csy : List Value) (y : PlanD) (w : World) (hx : (rPlan NB).rep w csx x) (hy : (rPlan NB).rep w csy y) :
    Calls Try.prog 111 #[.agg csx.toArray, .agg csy.toArray] w fun e w' => e = .returned (.bool (decide (x = y))) ∧ Below w.heap.size w w' := by
  have rx := hx
  obtain ⟨AxSteps, nxSteps, cxSteps, rfl, hxSteps⟩ := rPlan_rep.1 hx
  clear hx
  have ry := hy
  obtain ⟨AySteps, nySteps, cySteps, rfl, hySteps⟩ := rPlan_rep.1 hy
  clear hy
  have hB : Below w.heap.size w w := Below.refl _ _
  have hAx := (Below.refl (World.heap (w)).size (w)).alloc (Nat.le_refl _) (.cells #[.slice AxSteps nxSteps cxSteps] 135)
  replace hB := hB.trans (hAx.mono hB.size)
  have bxx := Bx.new (w) [.slice AxSteps nxSteps cxSteps] 135
  clear hAx
  have hAy := (Below.refl (World.heap ((w).alloc (.cells #[.slice AxSteps nxSteps cxSteps] 135))).size ((w).alloc (.cells #[.slice AxSteps nxSteps cxSteps] 135))).alloc (Nat.le_refl _) (.cells #[.slice AySteps nySteps cySteps] 135)
  replace hB := hB.trans (hAy.mono hB.size)
  replace bxx := bxx.below hAy
  have bxy := Bx.new ((w).alloc (.cells #[.slice AxSteps nxSteps cxSteps] 135)) [.slice AySteps nySteps cySteps] 135
  simp only [World.size_alloc] at bxy
  clear hAy
  go_enter Try.func111, Try.ntmps111
  go_wp2_with fail
  refine (equalPlanStep_c _ _ _ _ _ _ _ _ _ (hxSteps.below (rPlanStep_ok NB) hB) (hySteps.below (rPlanStep_ok NB) hB)).mono ?_
  rintro e w1 ⟨rfl, hq1⟩
  have hb1 := hq1.belowS; clear hq1
  replace hB := hB.trans (hb1.mono hB.size)
  replace bxx := bxx.below hb1
  replace bxy := bxy.below hb1
  clear hb1
  go_wp2
  go_ret
  exact ⟨ret_bool (by rw [decide_eq_decide, plan_eq]), hB⟩
set_option maxRecDepth 100000 in
set_option maxHeartbeats 1600000 in
theorem sEqualPlans_c (csx : List Value) (x : PlanD) (csy : List Value) (y : PlanD) (w : World) (hx : (rPlan NB).rep w csx x) (hy : (rPlan NB).rep w csy y) :
    Calls Try.prog 108 #[.agg csx.toArray, .agg csy.toArray] w fun e w' => e = .returned (.bool (decide (x = y))) ∧ Below w.heap.size w w' := by
  have rx := hx
  obtain ⟨AxSteps, nxSteps, cxSteps, rfl, hxSteps⟩ := rPlan_rep.1 hx
  clear hx
  have ry := hy
  obtain ⟨AySteps, nySteps, cySteps, rfl, hySteps⟩ := rPlan_rep.1 hy
  clear hy
  have hB : Below w.heap.size w w := Below.refl _ _
  have hAx := (Below.refl (World.heap (w)).size (w)).alloc (Nat.le_refl _) (.cells #[.slice AxSteps nxSteps cxSteps] 135)
  replace hB := hB.trans (hAx.mono hB.size)
  have bxx := Bx.new (w) [.slice AxSteps nxSteps cxSteps] 135
  clear hAx
  have hAy := (Below.refl (World.heap ((w).alloc (.cells #[.slice AxSteps nxSteps cxSteps] 135))).size ((w).alloc (.cells #[.slice AxSteps nxSteps cxSteps] 135))).alloc (Nat.le_refl _) (.cells #[.slice AySteps nySteps cySteps] 135)
  replace hB := hB.trans (hAy.mono hB.size)
  replace bxx := bxx.below hAy
  have bxy := Bx.new ((w).alloc (.cells #[.slice AxSteps nxSteps cxSteps] 135)) [.slice AySteps nySteps cySteps] 135
  simp only [World.size_alloc] at bxy
  clear hAy
  have hn1 := hxSteps.bound
  have hn2 := hySteps.bound
  by_cases hne : nxSteps = nySteps
  rotate_left
  · have hbb : ((nxSteps : Int) != (nySteps : Int)) = true := by simp; omega
    go_enter Try.func108, Try.ntmps108
    go_wp2
    go_ret
    exact ⟨ret_bool (a := false) (by symm; rw [decide_eq_false_iff_not, plan_eq]; exact fun hh => hne (by rw [← hxSteps.len, ← hySteps.len, hh])), hB⟩
  subst hne
  have hbb : ((nxSteps : Int) != (nxSteps : Int)) = false := by simp
  go_enter Try.func108, Try.ntmps108
  go_wp2
  go_loopw [5] (fun i wr => ∃ k : Nat, k ≤ nxSteps ∧ i = .int .i64 k ∧ x.fSteps.take k = y.fSteps.take k ∧ Below w.heap.size w wr ∧ Bx wr w.heap.size [.slice AxSteps nxSteps cxSteps] ∧ Bx wr (w.heap.size + 1) [.slice AySteps nxSteps cySteps]) (fun i _ => nxSteps - (intOf i).toNat)
  case atStart => exact ⟨0, Nat.zero_le _, rfl, rfl, hB, bxx, bxy⟩
  case round =>
    clear hB bxx bxy
    obtain ⟨k, hk, rfl, heq, hB, bxx, bxy⟩ := hrel
    have HE := Lib.hid heq; clear heq
    have kx_0 := bxx 0 _ rfl
    have ky_0 := bxy 0 _ rfl
    by_cases hlt : k < nxSteps
    · obtain ⟨b, off, r, rfl, p0, p1, p2, _, _, _, hxk⟩ := (hxSteps.below (rPlanStep_ok NB) hB).ePlanStep hlt
      obtain ⟨b', off', r', rfl, p0', p1', p2', _, _, _, hxk'⟩ := (hySteps.below (rPlanStep_ok NB) hB).ePlanStep hlt
      have hop := fun W => neqPlanStep r r' W
      have g1 := guardPlanStep
      by_cases hx : r = r'
      · have hb : decide (r = r') = true := by simp [hx]
        have HX := Lib.hid hx; clear hx
        go_wp2
        go_quiet (fail)
        go_wp2
        go_roundw
        case rel => exact ⟨k + 1, by omega, by go_num, take_eq_snoc HE.out hxk.out (HX.out ▸ hxk'.out), below_drewN hB _, bxx, bxy⟩
        case measure => simp [intOf]; omega
      · have hb : decide (r = r') = false := by simp [hx]
        go_wp2
        go_quiet (fail)
        go_wp2
        go_ret
        exact ⟨ret_bool (a := false) (by symm; rw [decide_eq_false_iff_not, plan_eq]; exact fun hh => ne_of_at hxk.out hxk'.out hx hh), below_drewN hB _⟩
    · go_wp2
      go_ret
      have e6 : x.fSteps = y.fSteps := by rw [← take_all hxSteps.len hlt, ← take_all hySteps.len hlt]; exact HE.out
      exact ⟨ret_bool (a := true) (by symm; rw [decide_eq_true_iff, plan_eq]; exact e6), hB⟩
set_option maxRecDepth 100000 in
set_option maxHeartbeats 800000 in
theorem equalFuncPlans_c (A A' : Option Addr) (n n' cap cap' : Nat) (l l' : List PlanD) (w : World) (hr : RS NB (rPlan NB) w A n cap l) (hr' : RS NB (rPlan NB) w A' n' cap' l') :
    Calls Try.prog 110 #[.slice A n cap, .slice A' n' cap', .func (.func 111) #[] #[]] w fun e w' => e = .returned (.bool (decide (l = l'))) ∧ Below w.heap.size w w' := by
  have hn := hr.bound
  have hn' := hr'.bound
  by_cases hne : n = n'
  · subst hne
    go_enter Try.func110, Try.ntmps110
    go_wp2
    go_loopw [17] (fun i wr => ∃ k : Nat, k ≤ n ∧ i = .int .i64 k ∧ l.take k = l'.take k ∧ Below w.heap.size w wr) (fun i _ => n - (intOf i).toNat)
    case atStart => exact ⟨0, Nat.zero_le _, rfl, rfl, Below.refl _ _⟩
    case round =>
      obtain ⟨k, hk, rfl, heq, hB⟩ := hrel
      have HE := Lib.hid heq; clear heq
      by_cases hlt : k < n
      · obtain ⟨b, off, x, Ar, nr, cr, rfl, hc, hrx, hxk⟩ := (hr.below (rPlan_ok NB) hB).plan hlt
        obtain ⟨b', off', x', Ar', nr', cr', rfl, hc', hrx', hxk'⟩ := (hr'.below (rPlan_ok NB) hB).plan hlt
        have hb2 := ((Below.refl wr.heap.size wr).alloc (Nat.le_refl _) (.cells #[.slice Ar nr cr] 135)).alloc (by simp) (.cells #[.slice Ar' nr' cr'] 135)
        have hc2 := cells_below ((Below.refl wr.heap.size wr).alloc (Nat.le_refl _) (.cells #[.slice Ar nr cr] 135)) _ _ hc'
        go_wp2_with fail
        refine (iEqualPlans_c _ x _ x' _ (rPlan_rep.2 ⟨Ar, nr, cr, rfl, hrx.below (rPlanStep_ok NB) hb2⟩) (rPlan_rep.2 ⟨Ar', nr', cr', rfl, hrx'.below (rPlanStep_ok NB) hb2⟩)).mono ?_
        rintro e w1 ⟨rfl, hb3⟩
        have hB1 : Below w.heap.size w w1 := hB.trans ((hb2.trans (hb3.mono hb2.size)).mono hB.size)
        clear hb2 hb3 hc2
        by_cases hx : x = x'
        · have hb : decide (x = x') = true := by simp [hx]
          have HX := Lib.hid hx; clear hx
          go_wp2
          go_roundw
          case rel => exact ⟨k + 1, by omega, by go_num, take_eq_snoc HE.out hxk.out (HX.out ▸ hxk'.out), hB1⟩
          case measure => simp [intOf]; omega
        · have hb : decide (x = x') = false := by simp [hx]
          go_wp2
          go_ret
          exact ⟨ret_bool (a := false) (by have := ne_of_at hxk.out hxk'.out hx; simp [this]), hB1⟩
      · go_wp2
        go_ret
        have e : l = l' := by rw [← take_all hr.len hlt, ← take_all hr'.len hlt]; exact HE.out
        exact ⟨ret_bool (a := true) (by simp [e]), hB⟩
  · have hb : ((n : Int) != (n' : Int)) = true := by simp; omega
    go_enter Try.func110, Try.ntmps110
    go_wp2
    go_ret
    have e : l ≠ l' := by rintro rfl; exact hne (hr.len.symm.trans hr'.len)
    exact ⟨ret_bool (a := false) (by simp [e]), Below.refl _ _⟩
theorem bouquet_eq (x y : BouquetD) : (x = y) ↔ (x.fVersion = y.fVersion ∧ x.fRatio = y.fRatio ∧ x.fSlack = y.fSlack ∧ x.fBox = y.fBox ∧ x.fBudgets = y.fBudgets ∧ x.fPlans = y.fPlans ∧ x.fContours = y.fContours) := by cases x; cases y; simp
set_option maxRecDepth 100000 in
set_option maxHeartbeats 1600000 in
theorem iEqualBouquets_c (csx : List Value) (x : BouquetD) (csy : List Value) (y : BouquetD) (w : World) (hx : (rBouquet NB).rep w csx x) (hy : (rBouquet NB).rep w csy y) :
    Calls Try.prog 56 #[.agg csx.toArray, .agg csy.toArray] w fun e w' => e = .returned (.bool (decide (x = y))) ∧ Below w.heap.size w w' := by
  have rx := hx
  obtain ⟨AxBoxLow, nxBoxLow, cxBoxLow, AxBoxHigh, nxBoxHigh, cxBoxHigh, AxBudgets, nxBudgets, cxBudgets, AxPlans, nxPlans, cxPlans, AxContours, nxContours, cxContours, rfl, hxVersion, hxRatio, hxSlack, hxBoxLow, hxBoxHigh, hxBudgets, hxPlans, hxContours⟩ := rBouquet_rep.1 hx
  clear hx
  have ry := hy
  obtain ⟨AyBoxLow, nyBoxLow, cyBoxLow, AyBoxHigh, nyBoxHigh, cyBoxHigh, AyBudgets, nyBudgets, cyBudgets, AyPlans, nyPlans, cyPlans, AyContours, nyContours, cyContours, rfl, hyVersion, hyRatio, hySlack, hyBoxLow, hyBoxHigh, hyBudgets, hyPlans, hyContours⟩ := rBouquet_rep.1 hy
  clear hy
  have hB : Below w.heap.size w w := Below.refl _ _
  have hAx := (Below.refl (World.heap (w)).size (w)).alloc (Nat.le_refl _) (.cells #[.int .i64 x.fVersion, .int .i64 x.fRatio, .int .i64 x.fSlack, .slice AxBoxLow nxBoxLow cxBoxLow, .slice AxBoxHigh nxBoxHigh cxBoxHigh, .slice AxBudgets nxBudgets cxBudgets, .slice AxPlans nxPlans cxPlans, .slice AxContours nxContours cxContours] 87)
  replace hB := hB.trans (hAx.mono hB.size)
  have bxx := Bx.new (w) [.int .i64 x.fVersion, .int .i64 x.fRatio, .int .i64 x.fSlack, .slice AxBoxLow nxBoxLow cxBoxLow, .slice AxBoxHigh nxBoxHigh cxBoxHigh, .slice AxBudgets nxBudgets cxBudgets, .slice AxPlans nxPlans cxPlans, .slice AxContours nxContours cxContours] 87
  clear hAx
  have hAy := (Below.refl (World.heap ((w).alloc (.cells #[.int .i64 x.fVersion, .int .i64 x.fRatio, .int .i64 x.fSlack, .slice AxBoxLow nxBoxLow cxBoxLow, .slice AxBoxHigh nxBoxHigh cxBoxHigh, .slice AxBudgets nxBudgets cxBudgets, .slice AxPlans nxPlans cxPlans, .slice AxContours nxContours cxContours] 87))).size ((w).alloc (.cells #[.int .i64 x.fVersion, .int .i64 x.fRatio, .int .i64 x.fSlack, .slice AxBoxLow nxBoxLow cxBoxLow, .slice AxBoxHigh nxBoxHigh cxBoxHigh, .slice AxBudgets nxBudgets cxBudgets, .slice AxPlans nxPlans cxPlans, .slice AxContours nxContours cxContours] 87))).alloc (Nat.le_refl _) (.cells #[.int .i64 y.fVersion, .int .i64 y.fRatio, .int .i64 y.fSlack, .slice AyBoxLow nyBoxLow cyBoxLow, .slice AyBoxHigh nyBoxHigh cyBoxHigh, .slice AyBudgets nyBudgets cyBudgets, .slice AyPlans nyPlans cyPlans, .slice AyContours nyContours cyContours] 87)
  replace hB := hB.trans (hAy.mono hB.size)
  replace bxx := bxx.below hAy
  have bxy := Bx.new ((w).alloc (.cells #[.int .i64 x.fVersion, .int .i64 x.fRatio, .int .i64 x.fSlack, .slice AxBoxLow nxBoxLow cxBoxLow, .slice AxBoxHigh nxBoxHigh cxBoxHigh, .slice AxBudgets nxBudgets cxBudgets, .slice AxPlans nxPlans cxPlans, .slice AxContours nxContours cxContours] 87)) [.int .i64 y.fVersion, .int .i64 y.fRatio, .int .i64 y.fSlack, .slice AyBoxLow nyBoxLow cyBoxLow, .slice AyBoxHigh nyBoxHigh cyBoxHigh, .slice AyBudgets nyBudgets cyBudgets, .slice AyPlans nyPlans cyPlans, .slice AyContours nyContours cyContours] 87
  simp only [World.size_alloc] at bxy
  clear hAy
  have hnxPlans := hxPlans.bound
  have hnxContours := hxContours.bound
  have hnyPlans := hyPlans.bound
  have hnyContours := hyContours.bound
  by_cases e0 : x.fVersion = y.fVersion
  rotate_left
  · have d0 : (x.fVersion == y.fVersion) = false := by simp [e0]
    go_enter Try.func56, Try.ntmps56
    go_wp2
    go_ret
    exact ⟨ret_bool (a := false) (by symm; rw [decide_eq_false_iff_not, bouquet_eq]; exact fun hh => e0 hh.1), hB⟩
  have d0 : (x.fVersion == y.fVersion) = true := by simp [e0]
  have E0 := Lib.hid e0; clear e0
  by_cases e1 : x.fRatio = y.fRatio
  rotate_left
  · have d1 : (x.fRatio == y.fRatio) = false := by simp [e1]
    go_enter Try.func56, Try.ntmps56
    go_wp2
    go_ret
    exact ⟨ret_bool (a := false) (by symm; rw [decide_eq_false_iff_not, bouquet_eq]; exact fun hh => e1 hh.2.1), hB⟩
  have d1 : (x.fRatio == y.fRatio) = true := by simp [e1]
  have E1 := Lib.hid e1; clear e1
  by_cases e2 : x.fSlack = y.fSlack
  rotate_left
  · have d2 : (x.fSlack == y.fSlack) = false := by simp [e2]
    go_enter Try.func56, Try.ntmps56
    go_wp2
    go_ret
    exact ⟨ret_bool (a := false) (by symm; rw [decide_eq_false_iff_not, bouquet_eq]; exact fun hh => e2 hh.2.2.1), hB⟩
  have d2 : (x.fSlack == y.fSlack) = true := by simp [e2]
  have E2 := Lib.hid e2; clear e2
  go_enter Try.func56, Try.ntmps56
  go_wp2_with fail
  refine (iEqualBoxes_c _ _ x.fBox y.fBox _ (rBox_rep.2 ⟨AxBoxLow, nxBoxLow, cxBoxLow, AxBoxHigh, nxBoxHigh, cxBoxHigh, rfl, hxBoxLow.below rInt_ok hB, hxBoxHigh.below rInt_ok hB⟩) (rBox_rep.2 ⟨AyBoxLow, nyBoxLow, cyBoxLow, AyBoxHigh, nyBoxHigh, cyBoxHigh, rfl, hyBoxLow.below rInt_ok hB, hyBoxHigh.below rInt_ok hB⟩)).mono ?_
  rintro e w1 ⟨rfl, hb1⟩
  replace hB := hB.trans (hb1.mono hB.size)
  replace bxx := bxx.below hb1
  replace bxy := bxy.below hb1
  clear hb1
  have kx_5 := bxx 5 _ rfl
  have kx_6 := bxx 6 _ rfl
  have kx_7 := bxx 7 _ rfl
  have ky_5 := bxy 5 _ rfl
  have ky_6 := bxy 6 _ rfl
  have ky_7 := bxy 7 _ rfl
  by_cases e3 : x.fBox = y.fBox
  rotate_left
  · have d3 : decide (x.fBox = y.fBox) = false := by simp [e3]
    go_wp2
    go_ret
    exact ⟨ret_bool (a := false) (by symm; rw [decide_eq_false_iff_not, bouquet_eq]; exact fun hh => e3 hh.2.2.2.1), hB⟩
  have d3 : decide (x.fBox = y.fBox) = true := by simp [e3]
  have E3 := Lib.hid e3; clear e3
  go_wp2_with fail
  refine (equalInts_c _ _ _ _ _ _ _ _ _ (hxBudgets.below rInt_ok hB) (hyBudgets.below rInt_ok hB)).mono ?_
  rintro e w2 ⟨rfl, hq2⟩
  have hb2 := hq2.belowS; clear hq2
  replace hB := hB.trans (hb2.mono hB.size)
  replace bxx := bxx.below hb2
  replace bxy := bxy.below hb2
  clear hb2 kx_5 kx_6 kx_7 ky_5 ky_6 ky_7
  have kx_6 := bxx 6 _ rfl
  have kx_7 := bxx 7 _ rfl
  have ky_6 := bxy 6 _ rfl
  have ky_7 := bxy 7 _ rfl
  by_cases e4 : x.fBudgets = y.fBudgets
  rotate_left
  · have d4 : decide (x.fBudgets = y.fBudgets) = false := by simp [e4]
    go_wp2
    go_ret
    exact ⟨ret_bool (a := false) (by symm; rw [decide_eq_false_iff_not, bouquet_eq]; exact fun hh => e4 hh.2.2.2.2.1), hB⟩
  have d4 : decide (x.fBudgets = y.fBudgets) = true := by simp [e4]
  have E4 := Lib.hid e4; clear e4
  go_wp2_with fail
  refine (equalFuncPlans_c _ _ _ _ _ _ _ _ _ (hxPlans.below (rPlan_ok NB) hB) (hyPlans.below (rPlan_ok NB) hB)).mono ?_
  rintro e w3 ⟨rfl, hb3⟩
  replace hB := hB.trans (hb3.mono hB.size)
  replace bxx := bxx.below hb3
  replace bxy := bxy.below hb3
  clear hb3 kx_6 kx_7 ky_6 ky_7
  have kx_7 := bxx 7 _ rfl
  have ky_7 := bxy 7 _ rfl
  by_cases e5 : x.fPlans = y.fPlans
  rotate_left
  · have d5 : decide (x.fPlans = y.fPlans) = false := by simp [e5]
    go_wp2
    go_ret
    exact ⟨ret_bool (a := false) (by symm; rw [decide_eq_false_iff_not, bouquet_eq]; exact fun hh => e5 hh.2.2.2.2.2.1), hB⟩
  have d5 : decide (x.fPlans = y.fPlans) = true := by simp [e5]
  have E5 := Lib.hid e5; clear e5
  go_wp2_with fail
  refine (equalRows_c _ _ _ _ _ _ _ _ _ (hxContours.below (rSlice_ok NB _ rInt_ok) hB) (hyContours.below (rSlice_ok NB _ rInt_ok) hB)).mono ?_
  rintro e w4 ⟨rfl, hq4⟩
  have hb4 := hq4.belowS; clear hq4
  replace hB := hB.trans (hb4.mono hB.size)
  replace bxx := bxx.below hb4
  replace bxy := bxy.below hb4
  clear hb4 kx_7 ky_7
  go_wp2
  go_ret
  exact ⟨ret_bool (by rw [decide_eq_decide, bouquet_eq, E0.out, E1.out, E2.out, E3.out, E4.out, E5.out]; simp), hB⟩
set_option maxRecDepth 100000 in
set_option maxHeartbeats 1600000 in
theorem sEqualBouquets_c (csx : List Value) (x : BouquetD) (csy : List Value) (y : BouquetD) (w : World) (hx : (rBouquet NB).rep w csx x) (hy : (rBouquet NB).rep w csy y) :
    Calls Try.prog 54 #[.agg csx.toArray, .agg csy.toArray] w fun e w' => e = .returned (.bool (decide (x = y))) ∧ Below w.heap.size w w' := by
  have rx := hx
  obtain ⟨AxBoxLow, nxBoxLow, cxBoxLow, AxBoxHigh, nxBoxHigh, cxBoxHigh, AxBudgets, nxBudgets, cxBudgets, AxPlans, nxPlans, cxPlans, AxContours, nxContours, cxContours, rfl, hxVersion, hxRatio, hxSlack, hxBoxLow, hxBoxHigh, hxBudgets, hxPlans, hxContours⟩ := rBouquet_rep.1 hx
  clear hx
  have ry := hy
  obtain ⟨AyBoxLow, nyBoxLow, cyBoxLow, AyBoxHigh, nyBoxHigh, cyBoxHigh, AyBudgets, nyBudgets, cyBudgets, AyPlans, nyPlans, cyPlans, AyContours, nyContours, cyContours, rfl, hyVersion, hyRatio, hySlack, hyBoxLow, hyBoxHigh, hyBudgets, hyPlans, hyContours⟩ := rBouquet_rep.1 hy
  clear hy
  have hB : Below w.heap.size w w := Below.refl _ _
  have hAx := (Below.refl (World.heap (w)).size (w)).alloc (Nat.le_refl _) (.cells #[.int .i64 x.fVersion, .int .i64 x.fRatio, .int .i64 x.fSlack, .slice AxBoxLow nxBoxLow cxBoxLow, .slice AxBoxHigh nxBoxHigh cxBoxHigh, .slice AxBudgets nxBudgets cxBudgets, .slice AxPlans nxPlans cxPlans, .slice AxContours nxContours cxContours] 87)
  replace hB := hB.trans (hAx.mono hB.size)
  have bxx := Bx.new (w) [.int .i64 x.fVersion, .int .i64 x.fRatio, .int .i64 x.fSlack, .slice AxBoxLow nxBoxLow cxBoxLow, .slice AxBoxHigh nxBoxHigh cxBoxHigh, .slice AxBudgets nxBudgets cxBudgets, .slice AxPlans nxPlans cxPlans, .slice AxContours nxContours cxContours] 87
  clear hAx
  have hAy := (Below.refl (World.heap ((w).alloc (.cells #[.int .i64 x.fVersion, .int .i64 x.fRatio, .int .i64 x.fSlack, .slice AxBoxLow nxBoxLow cxBoxLow, .slice AxBoxHigh nxBoxHigh cxBoxHigh, .slice AxBudgets nxBudgets cxBudgets, .slice AxPlans nxPlans cxPlans, .slice AxContours nxContours cxContours] 87))).size ((w).alloc (.cells #[.int .i64 x.fVersion, .int .i64 x.fRatio, .int .i64 x.fSlack, .slice AxBoxLow nxBoxLow cxBoxLow, .slice AxBoxHigh nxBoxHigh cxBoxHigh, .slice AxBudgets nxBudgets cxBudgets, .slice AxPlans nxPlans cxPlans, .slice AxContours nxContours cxContours] 87))).alloc (Nat.le_refl _) (.cells #[.int .i64 y.fVersion, .int .i64 y.fRatio, .int .i64 y.fSlack, .slice AyBoxLow nyBoxLow cyBoxLow, .slice AyBoxHigh nyBoxHigh cyBoxHigh, .slice AyBudgets nyBudgets cyBudgets, .slice AyPlans nyPlans cyPlans, .slice AyContours nyContours cyContours] 87)
  replace hB := hB.trans (hAy.mono hB.size)
  replace bxx := bxx.below hAy
  have bxy := Bx.new ((w).alloc (.cells #[.int .i64 x.fVersion, .int .i64 x.fRatio, .int .i64 x.fSlack, .slice AxBoxLow nxBoxLow cxBoxLow, .slice AxBoxHigh nxBoxHigh cxBoxHigh, .slice AxBudgets nxBudgets cxBudgets, .slice AxPlans nxPlans cxPlans, .slice AxContours nxContours cxContours] 87)) [.int .i64 y.fVersion, .int .i64 y.fRatio, .int .i64 y.fSlack, .slice AyBoxLow nyBoxLow cyBoxLow, .slice AyBoxHigh nyBoxHigh cyBoxHigh, .slice AyBudgets nyBudgets cyBudgets, .slice AyPlans nyPlans cyPlans, .slice AyContours nyContours cyContours] 87
  simp only [World.size_alloc] at bxy
  clear hAy
  have hnxPlans := hxPlans.bound
  have hnxContours := hxContours.bound
  have hnyPlans := hyPlans.bound
  have hnyContours := hyContours.bound
  by_cases e0 : x.fVersion = y.fVersion
  rotate_left
  · have d0 : (x.fVersion != y.fVersion) = true := by simp [e0]
    go_enter Try.func54, Try.ntmps54
    go_wp2
    go_ret
    exact ⟨ret_bool (a := false) (by symm; rw [decide_eq_false_iff_not, bouquet_eq]; exact fun hh => e0 hh.1), hB⟩
  have d0 : (x.fVersion != y.fVersion) = false := by simp [e0]
  have E0 := Lib.hid e0; clear e0
  by_cases e1 : x.fRatio = y.fRatio
  rotate_left
  · have d1 : (x.fRatio != y.fRatio) = true := by simp [e1]
    go_enter Try.func54, Try.ntmps54
    go_wp2
    go_ret
    exact ⟨ret_bool (a := false) (by symm; rw [decide_eq_false_iff_not, bouquet_eq]; exact fun hh => e1 hh.2.1), hB⟩
  have d1 : (x.fRatio != y.fRatio) = false := by simp [e1]
  have E1 := Lib.hid e1; clear e1
  by_cases e2 : x.fSlack = y.fSlack
  rotate_left
  · have d2 : (x.fSlack != y.fSlack) = true := by simp [e2]
    go_enter Try.func54, Try.ntmps54
    go_wp2
    go_ret
    exact ⟨ret_bool (a := false) (by symm; rw [decide_eq_false_iff_not, bouquet_eq]; exact fun hh => e2 hh.2.2.1), hB⟩
  have d2 : (x.fSlack != y.fSlack) = false := by simp [e2]
  have E2 := Lib.hid e2; clear e2
  go_enter Try.func54, Try.ntmps54
  go_wp2_with fail
  refine (sEqualBoxes_c _ _ x.fBox y.fBox _ (rBox_rep.2 ⟨AxBoxLow, nxBoxLow, cxBoxLow, AxBoxHigh, nxBoxHigh, cxBoxHigh, rfl, hxBoxLow.below rInt_ok hB, hxBoxHigh.below rInt_ok hB⟩) (rBox_rep.2 ⟨AyBoxLow, nyBoxLow, cyBoxLow, AyBoxHigh, nyBoxHigh, cyBoxHigh, rfl, hyBoxLow.below rInt_ok hB, hyBoxHigh.below rInt_ok hB⟩)).mono ?_
  rintro e w1 ⟨rfl, hb1⟩
  replace hB := hB.trans (hb1.mono hB.size)
  replace bxx := bxx.below hb1
  replace bxy := bxy.below hb1
  clear hb1
  have kx_5 := bxx 5 _ rfl
  have kx_6 := bxx 6 _ rfl
  have kx_7 := bxx 7 _ rfl
  have ky_5 := bxy 5 _ rfl
  have ky_6 := bxy 6 _ rfl
  have ky_7 := bxy 7 _ rfl
  by_cases e3 : x.fBox = y.fBox
  rotate_left
  · have d3 : decide (x.fBox = y.fBox) = false := by simp [e3]
    go_wp2
    go_ret
    exact ⟨ret_bool (a := false) (by symm; rw [decide_eq_false_iff_not, bouquet_eq]; exact fun hh => e3 hh.2.2.2.1), hB⟩
  have d3 : decide (x.fBox = y.fBox) = true := by simp [e3]
  have E3 := Lib.hid e3; clear e3
  go_wp2_with fail
  refine (sCompareRows_c _ _ _ _ _ _ _ _ _ (hxBudgets.below rInt_ok hB) (hyBudgets.below rInt_ok hB)).mono ?_
  rintro e w2 ⟨rfl, hq2⟩
  have hb2 := hq2.belowS; clear hq2
  replace hB := hB.trans (hb2.mono hB.size)
  replace bxx := bxx.below hb2
  replace bxy := bxy.below hb2
  clear hb2 kx_5 kx_6 kx_7 ky_5 ky_6 ky_7
  have kx_6 := bxx 6 _ rfl
  have kx_7 := bxx 7 _ rfl
  have ky_6 := bxy 6 _ rfl
  have ky_7 := bxy 7 _ rfl
  by_cases e4 : x.fBudgets = y.fBudgets
  rotate_left
  · have d4 : (cmpRows x.fBudgets y.fBudgets != 0) = true := by simp [cmpRows_zero, e4]
    go_wp2
    go_ret
    exact ⟨ret_bool (a := false) (by symm; rw [decide_eq_false_iff_not, bouquet_eq]; exact fun hh => e4 hh.2.2.2.2.1), hB⟩
  have d4 : (cmpRows x.fBudgets y.fBudgets != 0) = false := by simp [cmpRows_zero.2 e4]
  have E4 := Lib.hid e4; clear e4
  by_cases l5 : nxPlans = nyPlans
  rotate_left
  · have dl5 : ((nxPlans : Int) != (nyPlans : Int)) = true := by simp; omega
    go_wp2
    go_ret
    exact ⟨ret_bool (a := false) (by symm; rw [decide_eq_false_iff_not, bouquet_eq]; exact fun hh => l5 (by rw [← hxPlans.len, ← hyPlans.len, hh.2.2.2.2.2.1])), hB⟩
  subst l5
  have dl5 : ((nxPlans : Int) != (nxPlans : Int)) = false := by simp
  by_cases l6 : nxContours = nyContours
  rotate_left
  · have dl6 : ((nxContours : Int) != (nyContours : Int)) = true := by simp; omega
    go_wp2
    go_ret
    exact ⟨ret_bool (a := false) (by symm; rw [decide_eq_false_iff_not, bouquet_eq]; exact fun hh => l6 (by rw [← hxContours.len, ← hyContours.len, hh.2.2.2.2.2.2])), hB⟩
  subst l6
  have dl6 : ((nxContours : Int) != (nxContours : Int)) = false := by simp
  go_wp2
  go_loopw [5] (fun i wr => ∃ k : Nat, k ≤ nxPlans ∧ i = .int .i64 k ∧ x.fPlans.take k = y.fPlans.take k ∧ Below w.heap.size w wr ∧ Bx wr w.heap.size [.int .i64 x.fVersion, .int .i64 x.fRatio, .int .i64 x.fSlack, .slice AxBoxLow nxBoxLow cxBoxLow, .slice AxBoxHigh nxBoxHigh cxBoxHigh, .slice AxBudgets nxBudgets cxBudgets, .slice AxPlans nxPlans cxPlans, .slice AxContours nxContours cxContours] ∧ Bx wr (w.heap.size + 1) [.int .i64 y.fVersion, .int .i64 y.fRatio, .int .i64 y.fSlack, .slice AyBoxLow nyBoxLow cyBoxLow, .slice AyBoxHigh nyBoxHigh cyBoxHigh, .slice AyBudgets nyBudgets cyBudgets, .slice AyPlans nxPlans cyPlans, .slice AyContours nxContours cyContours]) (fun i _ => nxPlans - (intOf i).toNat)
  case atStart => exact ⟨0, Nat.zero_le _, rfl, rfl, hB, bxx, bxy⟩
  case round =>
    clear kx_6 kx_7 ky_6 ky_7
    clear hB bxx bxy
    obtain ⟨k0, hk0, rfl, heq, hB, bxx, bxy⟩ := hrel
    have HE0 := Lib.hid heq; clear heq
    have kx := bxx 6 _ rfl
    have ky := bxy 6 _ rfl
    have kx7 := bxx 7 _ rfl
    have ky7 := bxy 7 _ rfl
    by_cases hlt0 : k0 < nxPlans
    · obtain ⟨b, off, r, Ar, nr, cr, rfl, hc, hrx, hxk⟩ := (hxPlans.below (rPlan_ok NB) hB).plan hlt0
      obtain ⟨b', off', r', Ar', nr', cr', rfl, hc', hrx', hxk'⟩ := (hyPlans.below (rPlan_ok NB) hB).plan hlt0
      go_wp2_with fail
      go_still_tail 10, (by kernel_rfl)
      go_wp2_with fail
      refine (sEqualPlans_c _ r _ r' wr.drew (rPlan_rep.2 ⟨Ar, nr, cr, rfl, hrx.keep (rPlanStep_ok NB) (fun _ _ h => h)⟩) (rPlan_rep.2 ⟨Ar', nr', cr', rfl, hrx'.keep (rPlanStep_ok NB) (fun _ _ h => h)⟩)).mono ?_
      rintro e w8 ⟨rfl, hb8⟩
      replace hB := hB.drew.trans (hb8.mono hB.size)
      replace bxx := Bx.below (w := wr.drew) bxx hb8
      replace bxy := Bx.below (w := wr.drew) bxy hb8
      clear kx ky hb8 hc hc' kx7 ky7
      by_cases hx : r = r'
      · have hbb : decide (r = r') = true := by simp [hx]
        have HX := Lib.hid hx; clear hx
        go_wp2
        go_roundw
        case rel => exact ⟨k0 + 1, by omega, by go_num, take_eq_snoc HE0.out hxk.out (HX.out ▸ hxk'.out), hB, bxx, bxy⟩
        case measure => simp [intOf]; omega
      · have hbb : decide (r = r') = false := by simp [hx]
        go_wp2
        go_ret
        exact ⟨ret_bool (a := false) (by symm; rw [decide_eq_false_iff_not, bouquet_eq]; exact fun hh => ne_of_at hxk.out hxk'.out hx hh.2.2.2.2.2.1), hB⟩
    · have e5 : x.fPlans = y.fPlans := by rw [← take_all hxPlans.len hlt0, ← take_all hyPlans.len hlt0]; exact HE0.out
      have E5 := Lib.hid e5; clear e5 HE0
      go_wp2
      clear kx7 ky7 kx ky
      go_loopw [6] (fun i wr => ∃ k : Nat, k ≤ nxContours ∧ i = .int .i64 k ∧ x.fContours.take k = y.fContours.take k ∧ Below w.heap.size w wr ∧ Bx wr w.heap.size [.int .i64 x.fVersion, .int .i64 x.fRatio, .int .i64 x.fSlack, .slice AxBoxLow nxBoxLow cxBoxLow, .slice AxBoxHigh nxBoxHigh cxBoxHigh, .slice AxBudgets nxBudgets cxBudgets, .slice AxPlans nxPlans cxPlans, .slice AxContours nxContours cxContours] ∧ Bx wr (w.heap.size + 1) [.int .i64 y.fVersion, .int .i64 y.fRatio, .int .i64 y.fSlack, .slice AyBoxLow nyBoxLow cyBoxLow, .slice AyBoxHigh nyBoxHigh cyBoxHigh, .slice AyBudgets nyBudgets cyBudgets, .slice AyPlans nxPlans cyPlans, .slice AyContours nxContours cyContours]) (fun i _ => nxContours - (intOf i).toNat)
      case atStart => exact ⟨0, Nat.zero_le _, rfl, rfl, hB, bxx, bxy⟩
      case round =>
        clear hB bxx bxy
        obtain ⟨k1, hk1, rfl, heq, hB, bxx, bxy⟩ := hrel
        have HE1 := Lib.hid heq; clear heq
        have kx := bxx 7 _ rfl
        have ky := bxy 7 _ rfl
        by_cases hlt1 : k1 < nxContours
        · obtain ⟨b, off, r, Ar, nr, cr, rfl, hc, hrx, hxk⟩ := (hxContours.below (rSlice_ok NB _ rInt_ok) hB).row hlt1
          obtain ⟨b', off', r', Ar', nr', cr', rfl, hc', hrx', hxk'⟩ := (hyContours.below (rSlice_ok NB _ rInt_ok) hB).row hlt1
          go_wp2_with fail
          go_still_tail 10, (by kernel_rfl)
          go_wp2_with fail
          refine (sCompareRows_c _ _ _ _ _ _ _ _ wr.drew (hrx.keep rInt_ok (fun _ _ h => h)) (hrx'.keep rInt_ok (fun _ _ h => h))).mono ?_
          rintro e w8 ⟨rfl, hq8⟩
          have hb8 := hq8.belowS; clear hq8
          replace hB := hB.drew.trans (hb8.mono hB.size)
          replace bxx := Bx.below (w := wr.drew) bxx hb8
          replace bxy := Bx.below (w := wr.drew) bxy hb8
          clear kx ky hb8 hc hc'
          by_cases hx : r = r'
          · have hbb : (cmpRows r r' != 0) = false := by simp [cmpRows_zero.2 hx]
            have HX := Lib.hid hx; clear hx
            go_wp2
            go_roundw
            case rel => exact ⟨k1 + 1, by omega, by go_num, take_eq_snoc HE1.out hxk.out (HX.out ▸ hxk'.out), hB, bxx, bxy⟩
            case measure => simp [intOf]; omega
          · have hbb : (cmpRows r r' != 0) = true := by simp [cmpRows_zero, hx]
            go_wp2
            go_ret
            exact ⟨ret_bool (a := false) (by symm; rw [decide_eq_false_iff_not, bouquet_eq]; exact fun hh => ne_of_at hxk.out hxk'.out hx hh.2.2.2.2.2.2), hB⟩
        · go_wp2
          go_ret
          have e6 : x.fContours = y.fContours := by rw [← take_all hxContours.len hlt1, ← take_all hyContours.len hlt1]; exact HE1.out
          exact ⟨ret_bool (a := true) (by symm; rw [decide_eq_true_iff, bouquet_eq]; exact ⟨E0.out, E1.out, E2.out, E3.out, E4.out, E5.out, e6⟩), hB⟩
end Go.Proofs.Ytobildkjikhdiaa
