/-
  Contracts: is a location below a frontier.
-/
import Derived.Test.YtobildkjikhdiaaSpc
import Derived.Test.YtobildkjikhdiaaBloc
import Derived.Deep.RegionHeld3
import Derived.Deep.DrawnRows
namespace Go.Proofs.Ytobildkjikhdiaa
open Go.RowKit
set_option linter.unusedVariables false
set_option linter.unusedSimpArgs false

theorem idxOf_any {α : Type} (p : α → Bool) (l : List α) : decide (0 ≤ idxOf p l) = l.any p := by
  unfold idxOf
  cases hf : l.findIdx? p with
  | none =>
    rw [List.findIdx?_eq_none_iff] at hf
    have : l.any p = false := by rw [List.any_eq_false]; intro x hx; simpa using hf x hx
    rw [this]; rfl
  | some i =>
    rw [List.findIdx?_eq_some_iff_getElem] at hf
    obtain ⟨hi, hb, _⟩ := hf
    have : l.any p = true := by rw [List.any_eq_true]; exact ⟨l[i], List.getElem_mem hi, hb⟩
    rw [this]; simp

theorem indexFunc_IsBelowFrontier_1_c (A : Option Addr) (n cap : Nat) (l : List Int) (cp1 : Value) (cp2 : Value) (p : Int → Bool) (w : World) (hr : RS NB rInt w A n cap l)
    (hf : ∀ x W, x ∈ l → Below w.heap.size w W → Calls Try.prog 124 #[.int .i64 x, cp1, cp2] W fun e w' => e = .returned (.bool (p x)) ∧ Below W.heap.size W w') :
    Calls Try.prog 149 #[.slice A n cap, .func (.func 124) #[] #[cp1, cp2]] w fun e w' => e = .returned (.int .i64 (idxOf p l)) ∧ Below w.heap.size w w' := by
  have hn := hr.bound
  have HF := Lib.hid hf; clear hf
  go_enter Try.func149, Try.ntmps149
  go_wp2
  go_loopw [8] (fun i wr => ∃ k : Nat, k ≤ n ∧ i = .int .i64 k ∧ (l.take k).all (fun b => !p b) = true ∧ Below w.heap.size w wr) (fun i _ => n - (intOf i).toNat)
  case atStart => exact ⟨0, Nat.zero_le _, rfl, rfl, Below.refl _ _⟩
  case round =>
    obtain ⟨k, hk, rfl, hall, hb⟩ := hrel
    have Hall := Lib.hid hall; clear hall
    by_cases hlt : k < n
    · obtain ⟨b, off, x, rfl, hc, hI, hxk⟩ := (hr.below rInt_ok hb).ati hlt
      cases hx : p x
      · go_wp2_with (go_at_call 124; refine (HF.out x wr (mem_of_at hxk.out) hb).mono ?_; rintro e w1 ⟨rfl, hb1⟩)
        go_roundw
        case rel => exact ⟨k + 1, by omega, by go_num, all_snoc' Hall.out hxk.out (by simp [hx]), hb.trans (hb1.mono hb.size)⟩
        case measure => simp [intOf]; omega
      · go_wp2_with (go_at_call 124; refine (HF.out x wr (mem_of_at hxk.out) hb).mono ?_; rintro e w1 ⟨rfl, hb1⟩)
        go_ret
        exact ⟨ret_int (idxOf_yes Hall.out hxk.out hx).symm, hb.trans (hb1.mono hb.size)⟩
    · go_wp2
      go_ret
      exact ⟨ret_int (a := -1) (idxOf_no (take_all hr.len hlt ▸ Hall.out)).symm, hb⟩
theorem containsFunc_IsBelowFrontier_1_c (A : Option Addr) (n cap : Nat) (l : List Int) (cp1 : Value) (cp2 : Value) (p : Int → Bool) (w : World) (hr : RS NB rInt w A n cap l)
    (hf : ∀ x W, x ∈ l → Below w.heap.size w W → Calls Try.prog 124 #[.int .i64 x, cp1, cp2] W fun e w' => e = .returned (.bool (p x)) ∧ Below W.heap.size W w') :
    Calls Try.prog 123 #[.slice A n cap, .func (.func 124) #[] #[cp1, cp2]] w fun e w' => e = .returned (.bool (l.any p)) ∧ Below w.heap.size w w' := by
  go_enter Try.func123, Try.ntmps123
  go_wp2_with fail
  refine (indexFunc_IsBelowFrontier_1_c A n cap l _ _ p w hr hf).mono ?_
  rintro e w1 ⟨rfl, hb1⟩
  generalize hk : idxOf p l = k
  have HK := Lib.hid hk; clear hk
  go_wp2
  go_ret
  exact ⟨ret_bool (by rw [← idxOf_any, HK.out]), hb1⟩
def belowAt (x : SpaceD) (l : List Int) (k : Int) : Bool := (boxLoc x.fBox k).2 && dom (boxLoc x.fBox k).1 l
def belowFrontier (x : SpaceD) (f l : List Int) : Bool := validSpace x && f.any (belowAt x l)
set_option maxRecDepth 100000 in
set_option maxHeartbeats 1600000 in
theorem iIsBelowFrontier_c (csx : List Value) (x : SpaceD) (Af : Option Addr) (nf cf : Nat) (f : List Int) (Al : Option Addr) (nl cl : Nat) (l : List Int) (w : World) (hx : (rSpace NB).rep w csx x) (hf : RS NB rInt w Af nf cf f) (hl : RS NB rInt w Al nl cl l) :
    Calls Try.prog 68 #[.agg csx.toArray, .slice Af nf cf, .slice Al nl cl] w fun e w' => e = .returned (.bool (belowFrontier x f l)) ∧ Below w.heap.size w w' := by
  have rx := hx
  obtain ⟨AxBoxLow, nxBoxLow, cxBoxLow, AxBoxHigh, nxBoxHigh, cxBoxHigh, AxCosts, nxCosts, cxCosts, AxChoices, nxChoices, cxChoices, AxPlans, nxPlans, cxPlans, rfl, hxBoxLow, hxBoxHigh, hxCosts, hxChoices, hxPlans⟩ := rSpace_rep.1 hx
  clear hx
  have hB : Below w.heap.size w w := Below.refl _ _
  have hAx := (Below.refl (World.heap (w)).size (w)).alloc (Nat.le_refl _) (.cells #[.slice AxBoxLow nxBoxLow cxBoxLow, .slice AxBoxHigh nxBoxHigh cxBoxHigh, .slice AxCosts nxCosts cxCosts, .slice AxChoices nxChoices cxChoices, .slice AxPlans nxPlans cxPlans] 76)
  replace hB := hB.trans (hAx.mono hB.size)
  have bxx := Bx.new (w) [.slice AxBoxLow nxBoxLow cxBoxLow, .slice AxBoxHigh nxBoxHigh cxBoxHigh, .slice AxCosts nxCosts cxCosts, .slice AxChoices nxChoices cxChoices, .slice AxPlans nxPlans cxPlans] 76
  clear hAx
  obtain ⟨wa, hwa⟩ : ∃ wa, wa = w.alloc (.cells #[.slice AxBoxLow nxBoxLow cxBoxLow, .slice AxBoxHigh nxBoxHigh cxBoxHigh, .slice AxCosts nxCosts cxCosts, .slice AxChoices nxChoices cxChoices, .slice AxPlans nxPlans cxPlans] 76) := ⟨_, rfl⟩
  rw [← hwa] at hB bxx
  have hBA := (Below.refl wa.heap.size wa).alloc (Nat.le_refl _) (.cells #[.slice Al nl cl] 22)
  have bxl := Bx.new wa [.slice Al nl cl] 22
  replace hB := hB.trans (hBA.mono hB.size)
  replace bxx := bxx.below hBA
  clear hBA
  rw [hwa] at hB bxx bxl
  simp only [World.size_alloc] at bxl
  clear hwa
  go_enter Try.func68, Try.ntmps68
  go_wp2_with fail
  refine (iIsValidSpace_c _ x _ ((rSpace_ok NB).keep rx (cells_below hB))).mono ?_
  rintro e w1 ⟨rfl, hb1⟩
  replace hB := hB.trans (hb1.mono hB.size)
  replace bxx := bxx.below hb1
  replace bxl := bxl.below hb1
  clear hb1
  cases e1 : validSpace x
  · go_wp2
    go_ret
    exact ⟨ret_bool (a := false) (by simp [belowFrontier, e1]), hB⟩
  go_wp2_with fail
  refine (containsFunc_IsBelowFrontier_1_c _ _ _ f _ _ (belowAt x l) _ (hf.below rInt_ok hB) ?_).mono ?_
  · intro k W hk hbW
    have hIk := hf.rng k hk
    have k0 := bxx.below hbW 0 _ rfl
    have k1 := bxx.below hbW 1 _ rfl
    have kl := bxl.below hbW 0 _ rfl
    have hBW := hB.trans (hbW.mono hB.size)
    go_enter Try.func124, Try.ntmps124
    go_wp2_with fail
    refine (iBoxLocation_c _ x.fBox k _ (rBox_rep.2 ⟨AxBoxLow, nxBoxLow, cxBoxLow, AxBoxHigh, nxBoxHigh, cxBoxHigh, rfl, hxBoxLow.below rInt_ok hBW, hxBoxHigh.below rInt_ok hBW⟩) hIk).mono ?_
    rintro e w5 ⟨A5, n5, c5, rfl, M5, hb5⟩
    replace kl := cells_below hb5 _ _ kl
    have hB5 := hBW.trans (hb5.mono hBW.size)
    clear k0 k1
    cases h2 : (boxLoc x.fBox k).2
    · go_wp2
      go_ret
      exact ⟨ret_bool (a := false) (by simp [belowAt, h2]), hb5⟩
    · go_wp2_with fail
      refine (iDominatesLocation_c _ _ _ _ _ _ _ _ _ (M5.rs rInt_ok) (hl.below rInt_ok hB5)).mono ?_
      rintro e w6 ⟨rfl, hq6⟩
      go_wp2
      go_ret
      exact ⟨ret_bool (by simp [belowAt, h2]), hb5.trans (hq6.belowS.mono hb5.size)⟩
  · rintro e w7 ⟨rfl, hb7⟩
    go_wp2
    go_ret
    exact ⟨ret_bool (by simp [belowFrontier, e1]), hB.trans (hb7.mono hB.size)⟩
set_option maxRecDepth 100000 in
set_option maxHeartbeats 1600000 in
theorem sIsBelowFrontier_c (csx : List Value) (x : SpaceD) (Af : Option Addr) (nf cf : Nat) (f : List Int) (Al : Option Addr) (nl cl : Nat) (l : List Int) (w : World) (hx : (rSpace NB).rep w csx x) (hf : RS NB rInt w Af nf cf f) (hl : RS NB rInt w Al nl cl l) :
    Calls Try.prog 67 #[.agg csx.toArray, .slice Af nf cf, .slice Al nl cl] w fun e w' => e = .returned (.bool (belowFrontier x f l)) ∧ Below w.heap.size w w' := by
  have rx := hx
  obtain ⟨AxBoxLow, nxBoxLow, cxBoxLow, AxBoxHigh, nxBoxHigh, cxBoxHigh, AxCosts, nxCosts, cxCosts, AxChoices, nxChoices, cxChoices, AxPlans, nxPlans, cxPlans, rfl, hxBoxLow, hxBoxHigh, hxCosts, hxChoices, hxPlans⟩ := rSpace_rep.1 hx
  clear hx
  have hB : Below w.heap.size w w := Below.refl _ _
  have hAx := (Below.refl (World.heap (w)).size (w)).alloc (Nat.le_refl _) (.cells #[.slice AxBoxLow nxBoxLow cxBoxLow, .slice AxBoxHigh nxBoxHigh cxBoxHigh, .slice AxCosts nxCosts cxCosts, .slice AxChoices nxChoices cxChoices, .slice AxPlans nxPlans cxPlans] 76)
  replace hB := hB.trans (hAx.mono hB.size)
  have bxx := Bx.new (w) [.slice AxBoxLow nxBoxLow cxBoxLow, .slice AxBoxHigh nxBoxHigh cxBoxHigh, .slice AxCosts nxCosts cxCosts, .slice AxChoices nxChoices cxChoices, .slice AxPlans nxPlans cxPlans] 76
  clear hAx
  have hnf := hf.bound
  go_enter Try.func67, Try.ntmps67
  go_wp2
  go_loopw [7] (fun i wr => ∃ k : Nat, k ≤ nf ∧ i = .int .i64 k ∧ (0 < k → validSpace x = true) ∧ (f.take k).all (fun b => !belowAt x l b) = true ∧ Below w.heap.size w wr ∧ Bx wr w.heap.size [.slice AxBoxLow nxBoxLow cxBoxLow, .slice AxBoxHigh nxBoxHigh cxBoxHigh, .slice AxCosts nxCosts cxCosts, .slice AxChoices nxChoices cxChoices, .slice AxPlans nxPlans cxPlans]) (fun i _ => nf - (intOf i).toNat)
  case atStart => exact ⟨0, Nat.zero_le _, rfl, by omega, rfl, hB, bxx⟩
  case round =>
    clear hB bxx
    obtain ⟨k, hk, rfl, hkv, hall, hB, bxx⟩ := hrel
    have HA := Lib.hid hall; clear hall
    have HK := Lib.hid hkv; clear hkv
    have kx_0 := bxx 0 _ rfl
    have kx_1 := bxx 1 _ rfl
    have kx_2 := bxx 2 _ rfl
    have kx_3 := bxx 3 _ rfl
    have kx_4 := bxx 4 _ rfl
    by_cases hlt : k < nf
    · have dk : decide (k < nf) = true := by simp [hlt]
      obtain ⟨b, off, y, rfl, hc, hI, hy⟩ := (hf.below rInt_ok hB).ati hlt
      go_wp2_with fail
      refine (sIsValidSpace_c _ x _ ((rSpace_ok NB).keep rx (cells_below hB))).mono ?_
      rintro e w1 ⟨rfl, hb1⟩
      replace hB := hB.trans (hb1.mono hB.size)
      replace bxx := bxx.below hb1
      replace hc := cells_below hb1 _ _ hc
      clear hb1 kx_0 kx_1 kx_2 kx_3 kx_4
      have kx_0 := bxx 0 _ rfl
      have kx_1 := bxx 1 _ rfl
      cases hv : validSpace x
      · go_wp2
        go_ret
        exact ⟨ret_bool (a := false) (by simp [belowFrontier, hv]), hB⟩
      have HV := Lib.hid hv; clear hv
      go_wp2_with fail
      have SS : ∀ w', Below w1.heap.size w1 w' → (w'.cell? ⟨w.heap.size, 0, none⟩ = some (.slice AxBoxLow nxBoxLow cxBoxLow) ∧ w'.cell? ⟨w.heap.size, 1, none⟩ = some (.slice AxBoxHigh nxBoxHigh cxBoxHigh) ∧ w'.cell? ⟨b, off + k, none⟩ = some (.int .i64 y)) := fun w' hb => ⟨cells_below hb _ _ kx_0, cells_below hb _ _ kx_1, cells_below hb _ _ hc⟩
      have HSS := Lib.hid SS; clear SS
      go_region_held3 (fun w' => w'.cell? ⟨w.heap.size, 0, none⟩ = some (.slice AxBoxLow nxBoxLow cxBoxLow) ∧ w'.cell? ⟨w.heap.size, 1, none⟩ = some (.slice AxBoxHigh nxBoxHigh cxBoxHigh) ∧ w'.cell? ⟨b, off + k, none⟩ = some (.int .i64 y)) (first | exact HSS.out _ (Below.refl _ _).drew | exact HSS.out _ hC5) ((first | (go_at_call 122; refine (sBoxLocation_c _ x.fBox y _ (rBox_rep.2 ⟨AxBoxLow, nxBoxLow, cxBoxLow, AxBoxHigh, nxBoxHigh, cxBoxHigh, rfl, hxBoxLow.below rInt_ok hB.drew, hxBoxHigh.below rInt_ok hB.drew⟩) hI).mono ?_; rintro e w5 ⟨A5, n5, c5, rfl, M5, hb5⟩; have hC5 : Below w1.heap.size w1 w5 := Below.trans (Below.refl w1.heap.size w1).drew hb5)))
      clear HSS hb5
      replace hB := hB.trans (hC5.mono hB.size)
      replace bxx := bxx.below hC5
      replace hc := cells_below hC5 _ _ hc
      clear hC5 kx_0 kx_1
      cases h2 : (boxLoc x.fBox y).2
      · go_wp2
        go_roundw
        case rel => exact ⟨k + 1, by omega, by go_num, fun _ => HV.out, all_snoc' HA.out hy.out (by simp [belowAt, h2]), hB, bxx⟩
        case measure => simp [intOf]; omega
      · go_wp2_with fail
        refine (sDominatesLocation_c _ _ _ _ _ _ _ _ _ (M5.rs rInt_ok) (hl.below rInt_ok hB)).mono ?_
        rintro e w6 ⟨rfl, hq6⟩
        have hb6 := hq6.belowS; clear hq6
        replace hB := hB.trans (hb6.mono hB.size)
        replace bxx := bxx.below hb6
        replace hc := cells_below hb6 _ _ hc
        clear hb6
        cases h3 : dom (boxLoc x.fBox y).1 l
        · go_wp2
          go_roundw
          case rel => exact ⟨k + 1, by omega, by go_num, fun _ => HV.out, all_snoc' HA.out hy.out (by simp [belowAt, h3]), hB, bxx⟩
          case measure => simp [intOf]; omega
        · go_wp2
          go_ret
          exact ⟨ret_bool (a := true) (by symm; rw [belowFrontier, HV.out, Bool.true_and, List.any_eq_true]; exact ⟨y, mem_of_at hy.out, by simp [belowAt, h2, h3]⟩), hB⟩
    · have dk : decide (k < nf) = false := by simp; omega
      go_wp2
      go_ret
      refine ⟨ret_bool (a := false) ?_, hB⟩
      have h9 := HA.out
      rw [take_all hf.len hlt, List.all_eq_true] at h9
      have : f.any (belowAt x l) = false := by rw [List.any_eq_false]; intro z hz; simpa using h9 z hz
      rw [belowFrontier, this, Bool.and_false]
end Go.Proofs.Ytobildkjikhdiaa
