/-
  Contracts: monotone spaces.
-/
import Derived.Test.YtbipbinbehkjhaaMono
import Derived.Deep.RegionHeld3
import Derived.Deep.DrawnRows
namespace Go.Proofs.Ytbipbinbehkjhaa
open Go.RowKit
set_option linter.unusedVariables false
set_option linter.unusedSimpArgs false

def costN (s : SpaceD) (n : Int) : Int := (s.fCosts[n.toNat]?).getD 0
theorem costN_at {s : SpaceD} {j : Nat} {c : Int} (h : s.fCosts[j]? = some c) : costN s j = c := by simp [costN, h]
def monoAt (s : SpaceD) (i : Nat) : Bool := (aboveL s.fBox i).all (fun n => !decide (costN s n < costN s i))
def monoSpace (s : SpaceD) : Bool := validSpace s && (List.range s.fCosts.length).all (monoAt s)
theorem range_snoc_all {p : Nat → Bool} {k : Nat} (h : (List.range k).all p = true) (hk : p k = true) : (List.range (k + 1)).all p = true := by
  rw [List.range_succ, List.all_append, h]; simp [hk]
theorem range_no_all {p : Nat → Bool} {k n : Nat} (hk : p k = false) (h : k < n) : (List.range n).all p = false := by
  rw [List.all_eq_false]; exact ⟨k, List.mem_range.2 h, by simp [hk]⟩
theorem aboveL_mem {s : SpaceD} (h : validSpace s = true) {i j : Int} (hj : j ∈ aboveL s.fBox i) : 0 ≤ j ∧ j < s.fCosts.length := by
  have h1 := upTo_mem hj
  obtain ⟨_, _, _, h4, _⟩ := validSpace_parts h
  omega
theorem aboveL_len (b : BoxD) (i : Int) : (aboveL b i).length ≤ 16 := Nat.le_trans (upTo_len _ _ _) (boxLoc_small b i).1
theorem mono_no {s : SpaceD} {i : Nat} {j : Int} (hj : j ∈ aboveL s.fBox i) (h : costN s j < costN s i) : monoAt s i = false := by
  unfold monoAt; rw [List.all_eq_false]; exact ⟨j, hj, by simp [h]⟩
theorem upTo_sub {b : BoxD} {l : List Int} {m n : Nat} {j : Int} (hj : j ∈ upTo b l m) (h : m ≤ n) : j ∈ upTo b l n := by
  induction n with
  | zero => have : m = 0 := by omega
            subst this; exact hj
  | succ n ih =>
    by_cases hm : m = n + 1
    · subst hm; exact hj
    · have h1 := ih (by omega)
      unfold upTo; split
      · exact List.mem_append_left _ h1
      · exact h1
theorem upTo_new {b : BoxD} {l : List Int} {k : Nat} (h : 0 ≤ upIdx b l k) : upIdx b l k ∈ upTo b l (k + 1) := by
  rw [upTo_yes h]; exact List.mem_append_right _ List.mem_cons_self

set_option maxRecDepth 100000 in
set_option maxHeartbeats 1600000 in
theorem iIsMonotoneSpace_c (csx : List Value) (x : SpaceD) (w : World) (hx : (rSpace NB).rep w csx x) :
    Calls Try.prog 48 #[.agg csx.toArray] w fun e w' => e = .returned (.bool (monoSpace x)) ∧ Below w.heap.size w w' := by
  have rx := hx
  obtain ⟨AxBoxLow, nxBoxLow, cxBoxLow, AxBoxHigh, nxBoxHigh, cxBoxHigh, AxCosts, nxCosts, cxCosts, AxChoices, nxChoices, cxChoices, AxPlans, nxPlans, cxPlans, rfl, hxBoxLow, hxBoxHigh, hxCosts, hxChoices, hxPlans⟩ := rSpace_rep.1 hx
  clear hx
  have hB : Below w.heap.size w w := Below.refl _ _
  have hAx := (Below.refl (World.heap (w)).size (w)).alloc (Nat.le_refl _) (.cells #[.slice AxBoxLow nxBoxLow cxBoxLow, .slice AxBoxHigh nxBoxHigh cxBoxHigh, .slice AxCosts nxCosts cxCosts, .slice AxChoices nxChoices cxChoices, .slice AxPlans nxPlans cxPlans] 81)
  replace hB := hB.trans (hAx.mono hB.size)
  have bxx := Bx.new (w) [.slice AxBoxLow nxBoxLow cxBoxLow, .slice AxBoxHigh nxBoxHigh cxBoxHigh, .slice AxCosts nxCosts cxCosts, .slice AxChoices nxChoices cxChoices, .slice AxPlans nxPlans cxPlans] 81
  clear hAx
  have hnC := hxCosts.bound
  have HL := Lib.hid hxCosts.len
  go_enter Try.func48, Try.ntmps48
  go_wp2_with fail
  refine (iIsValidSpace_c _ x _ ((rSpace_ok NB).keep rx (cells_below hB))).mono ?_
  rintro e w1 ⟨rfl, hb1⟩
  replace hB := hB.trans (hb1.mono hB.size)
  replace bxx := bxx.below hb1
  clear hb1
  cases e1 : validSpace x
  · go_wp2
    go_ret
    exact ⟨ret_bool (a := false) (by simp [monoSpace, e1]), hB⟩
  have HV := Lib.hid e1; clear e1
  have kx_2 := bxx 2 _ rfl
  go_wp2
  go_loopw [13] (fun i wr => ∃ k : Nat, k ≤ nxCosts ∧ i = .int .i64 k ∧ (List.range k).all (monoAt x) = true ∧ Below w.heap.size w wr ∧ Bx wr w.heap.size [.slice AxBoxLow nxBoxLow cxBoxLow, .slice AxBoxHigh nxBoxHigh cxBoxHigh, .slice AxCosts nxCosts cxCosts, .slice AxChoices nxChoices cxChoices, .slice AxPlans nxPlans cxPlans]) (fun i _ => nxCosts - (intOf i).toNat)
  case atStart => exact ⟨0, Nat.zero_le _, rfl, rfl, hB, bxx⟩
  case round =>
    clear hB bxx kx_2
    obtain ⟨k, hk, rfl, hall, hB, bxx⟩ := hrel
    have HA := Lib.hid hall; clear hall
    by_cases hlt : k < nxCosts
    · obtain ⟨b, off, y, rfl, hc, hI, hy⟩ := (hxCosts.below rInt_ok hB).ati hlt
      have hIk : I64 (k : Int) := ⟨by omega, by omega⟩
      have Hcy := Lib.hid (costN_at hy.out)
      have kx_0 := bxx 0 _ rfl
      have kx_1 := bxx 1 _ rfl
      have kx_2 := bxx 2 _ rfl
      have kx_3 := bxx 3 _ rfl
      have kx_4 := bxx 4 _ rfl
      go_wp2_with fail
      refine (iAbove_c _ x k _ ((rSpace_ok NB).keep rx (cells_below hB)) hIk).mono ?_
      rintro e w2 ⟨A2, n2, c2, rfl, M2, hb2⟩
      replace hB := hB.trans (hb2.mono hB.size)
      replace bxx := bxx.below hb2
      clear hb2 kx_0 kx_1 kx_2 kx_3 kx_4
      have hR2 := M2.rs rInt_ok
      have HL2 := Lib.hid hR2.len
      have hn2 : n2 ≤ 16 := by rw [← HL2.out]; exact aboveL_len _ _
      clear hc
      go_wp2
      go_loopw [22] (fun i wr => ∃ q : Nat, q ≤ n2 ∧ i = .int .i64 q ∧ ((aboveL x.fBox k).take q).all (fun n => !decide (costN x n < costN x k)) = true ∧ Below w.heap.size w wr ∧ RS NB rInt wr A2 n2 c2 (aboveL x.fBox k) ∧ Bx wr w.heap.size [.slice AxBoxLow nxBoxLow cxBoxLow, .slice AxBoxHigh nxBoxHigh cxBoxHigh, .slice (some ⟨b, off, none⟩) nxCosts cxCosts, .slice AxChoices nxChoices cxChoices, .slice AxPlans nxPlans cxPlans]) (fun i _ => n2 - (intOf i).toNat)
      case atStart => exact ⟨0, Nat.zero_le _, rfl, rfl, hB, hR2, bxx⟩
      case round =>
        clear hB bxx hR2 M2
        obtain ⟨q, hq, rfl, hall, hB, hR2, bxx⟩ := hrel
        have HA2 := Lib.hid hall; clear hall
        by_cases hlt2 : q < n2
        · obtain ⟨b2, off2, z, rfl, hc2, hI2, hz⟩ := hR2.ati hlt2
          have hzz := aboveL_mem HV.out (mem_of_at hz.out)
          obtain ⟨j, rfl⟩ : ∃ j : Nat, z = j := ⟨z.toNat, by omega⟩
          have hj : j < nxCosts := by have := HL.out; omega
          obtain ⟨b3, off3, t, e3, hc3, hI3, ht⟩ := (hxCosts.below rInt_ok hB).ati hj
          injection e3 with e3; injection e3 with e3 e4; subst e3; subst e4
          have Hct := Lib.hid (costN_at ht.out)
          have kx_2 := bxx 2 _ rfl
          by_cases hcc : t < y
          · go_wp2
            go_ret
            exact ⟨ret_bool (a := false) (by rw [monoSpace, range_no_all (mono_no (mem_of_at hz.out) (by rw [Hct.out, Hcy.out]; exact hcc)) (by rw [HL.out]; exact hlt), Bool.and_false]), hB⟩
          · go_wp2
            go_roundw
            case rel => exact ⟨q + 1, by omega, by go_num, all_snoc' HA2.out hz.out (by rw [Hct.out, Hcy.out]; simp; omega), hB, hR2, bxx⟩
            case measure => simp [intOf]; omega
        · go_wp2
          go_roundw
          case rel => exact ⟨k + 1, by omega, by go_num, range_snoc_all HA.out (by have := HA2.out; rw [take_all HL2.out hlt2] at this; exact this), hB, bxx⟩
          case measure => simp [intOf]; omega
    · go_wp2
      go_ret
      exact ⟨ret_bool (a := true) (by rw [monoSpace, HV.out, HL.out, show nxCosts = k by omega, HA.out]; rfl), hB⟩
set_option maxRecDepth 100000 in
set_option maxHeartbeats 1600000 in
theorem sIsMonotoneSpace_c (csx : List Value) (x : SpaceD) (w : World) (hx : (rSpace NB).rep w csx x) :
    Calls Try.prog 46 #[.agg csx.toArray] w fun e w' => e = .returned (.bool (monoSpace x)) ∧ Below w.heap.size w w' := by
  have rx := hx
  obtain ⟨AxBoxLow, nxBoxLow, cxBoxLow, AxBoxHigh, nxBoxHigh, cxBoxHigh, AxCosts, nxCosts, cxCosts, AxChoices, nxChoices, cxChoices, AxPlans, nxPlans, cxPlans, rfl, hxBoxLow, hxBoxHigh, hxCosts, hxChoices, hxPlans⟩ := rSpace_rep.1 hx
  clear hx
  have hB : Below w.heap.size w w := Below.refl _ _
  have hAx := (Below.refl (World.heap (w)).size (w)).alloc (Nat.le_refl _) (.cells #[.slice AxBoxLow nxBoxLow cxBoxLow, .slice AxBoxHigh nxBoxHigh cxBoxHigh, .slice AxCosts nxCosts cxCosts, .slice AxChoices nxChoices cxChoices, .slice AxPlans nxPlans cxPlans] 81)
  replace hB := hB.trans (hAx.mono hB.size)
  have bxx := Bx.new (w) [.slice AxBoxLow nxBoxLow cxBoxLow, .slice AxBoxHigh nxBoxHigh cxBoxHigh, .slice AxCosts nxCosts cxCosts, .slice AxChoices nxChoices cxChoices, .slice AxPlans nxPlans cxPlans] 81
  clear hAx
  have hnC := hxCosts.bound
  have HL := Lib.hid hxCosts.len
  go_enter Try.func46, Try.ntmps46
  go_wp2_with fail
  refine (sIsValidSpace_c _ x _ ((rSpace_ok NB).keep rx (cells_below hB))).mono ?_
  rintro e w1 ⟨rfl, hb1⟩
  replace hB := hB.trans (hb1.mono hB.size)
  replace bxx := bxx.below hb1
  clear hb1
  cases e1 : validSpace x
  · go_wp2
    go_ret
    exact ⟨ret_bool (a := false) (by simp [monoSpace, e1]), hB⟩
  have HV := Lib.hid e1; clear e1
  go_wp2
  go_loopw [3] (fun i wr => ∃ k : Nat, k ≤ nxCosts ∧ i = .int .i64 k ∧ (List.range k).all (monoAt x) = true ∧ Below w.heap.size w wr ∧ Bx wr w.heap.size [.slice AxBoxLow nxBoxLow cxBoxLow, .slice AxBoxHigh nxBoxHigh cxBoxHigh, .slice AxCosts nxCosts cxCosts, .slice AxChoices nxChoices cxChoices, .slice AxPlans nxPlans cxPlans]) (fun i _ => nxCosts - (intOf i).toNat)
  case atStart => exact ⟨0, Nat.zero_le _, rfl, rfl, hB, bxx⟩
  case round =>
    clear hB bxx
    obtain ⟨k, hk, rfl, hall, hB, bxx⟩ := hrel
    have HA := Lib.hid hall; clear hall
    by_cases hlt : k < nxCosts
    · obtain ⟨y, hy⟩ : ∃ y, Hid (x.fCosts[k]? = some y) := by
        obtain ⟨_, _, y, _, _, _, hy⟩ := hxCosts.ati hlt; exact ⟨y, hy⟩
      have hIk : I64 (k : Int) := ⟨by omega, by omega⟩
      have Hcy := Lib.hid (costN_at hy.out)
      have kx_0 := bxx 0 _ rfl
      have kx_1 := bxx 1 _ rfl
      have kx_2 := bxx 2 _ rfl
      have kx_3 := bxx 3 _ rfl
      have kx_4 := bxx 4 _ rfl
      go_wp2_with fail
      refine (sBoxLocation_c _ x.fBox k _ (rBox_rep.2 ⟨AxBoxLow, nxBoxLow, cxBoxLow, AxBoxHigh, nxBoxHigh, cxBoxHigh, rfl, hxBoxLow.below rInt_ok hB, hxBoxHigh.below rInt_ok hB⟩) hIk).mono ?_
      rintro e w2 ⟨A2, n2, c2, rfl, M2, hb2⟩
      replace hB := hB.trans (hb2.mono hB.size)
      replace bxx := bxx.below hb2
      clear hb2 kx_0 kx_1 kx_2 kx_3 kx_4
      have hsm := boxLoc_small x.fBox k
      have HUP : Hid (aboveL x.fBox k = upTo x.fBox (boxLoc x.fBox k).1 (boxLoc x.fBox k).1.length) := Lib.hid rfl
      generalize (boxLoc x.fBox k).1 = l at M2 hsm HUP
      have HL2 := Lib.hid M2.len
      have hn2 : n2 ≤ 16 := by rw [← HL2.out]; exact hsm.1
      have HZ := Lib.hid hsm.2; clear hsm
      have hR2 := M2.rs rInt_ok; clear M2
      go_wp2
      go_loopw [6] (fun i wr => ∃ q : Nat, q ≤ n2 ∧ i = .int .i64 q ∧ (upTo x.fBox l q).all (fun n => !decide (costN x n < costN x k)) = true ∧ Below w.heap.size w wr ∧ RS NB rInt wr A2 n2 c2 l ∧ Bx wr w.heap.size [.slice AxBoxLow nxBoxLow cxBoxLow, .slice AxBoxHigh nxBoxHigh cxBoxHigh, .slice AxCosts nxCosts cxCosts, .slice AxChoices nxChoices cxChoices, .slice AxPlans nxPlans cxPlans]) (fun i _ => n2 - (intOf i).toNat)
      case atStart => exact ⟨0, Nat.zero_le _, rfl, rfl, hB, hR2, bxx⟩
      case round =>
        clear hB bxx hR2
        obtain ⟨q, hq, rfl, hall, hB, hR2, bxx⟩ := hrel
        have HA2 := Lib.hid hall; clear hall
        by_cases hlt2 : q < n2
        · have hq0 : (0 : Int) ≤ (q : Int) := by omega
          have hql : (q : Int) < l.length := by rw [HL2.out]; omega
          have kx_0 := bxx 0 _ rfl
          have kx_1 := bxx 1 _ rfl
          go_wp2_with fail
          refine (sUp_c _ x.fBox _ _ _ l q _ (rBox_rep.2 ⟨AxBoxLow, nxBoxLow, cxBoxLow, AxBoxHigh, nxBoxHigh, cxBoxHigh, rfl, hxBoxLow.below rInt_ok hB, hxBoxHigh.below rInt_ok hB⟩) hR2 hq0 hql HZ.out).mono ?_
          rintro e w5 ⟨rfl, hb5⟩
          replace hR2 := hR2.below rInt_ok hb5
          replace hB := hB.trans (hb5.mono hB.size)
          replace bxx := bxx.below hb5
          clear hb5 kx_0 kx_1
          simp only [Int.toNat_natCast]
          have HYN := Lib.hid (And.intro (fun h => And.intro (upTo_yes (b := x.fBox) (l := l) (k := q) h) (upTo_new (b := x.fBox) (l := l) (k := q) h)) (fun h => upTo_no (b := x.fBox) (l := l) (k := q) h))
          generalize upIdx x.fBox l q = jj at HYN
          by_cases h0 : 0 ≤ jj
          · have HJ := Lib.hid (HYN.out.1 h0); clear HYN
            have hjm : jj ∈ aboveL x.fBox k := by rw [HUP.out, HL2.out]; exact upTo_sub HJ.out.2 (by omega)
            have hzz := aboveL_mem HV.out hjm
            obtain ⟨j, rfl⟩ : ∃ j : Nat, jj = j := ⟨jj.toNat, by omega⟩
            have hj : j < nxCosts := by have := HL.out; omega
            have HM := Lib.hid hjm; clear hjm
            obtain ⟨b, off, y', rfl, hc, hI, hy'⟩ := (hxCosts.below rInt_ok hB).ati hlt
            obtain rfl : y' = y := by have := hy'.out; rw [hy.out] at this; injection this with this; exact this.symm
            clear hy'
            obtain ⟨b3, off3, t, e3, hc3, hI3, ht⟩ := (hxCosts.below rInt_ok hB).ati hj
            injection e3 with e3; injection e3 with e3 e4; subst e3; subst e4
            have Hct := Lib.hid (costN_at ht.out)
            have kx_2 := bxx 2 _ rfl
            have dj : decide ((0 : Int) ≤ (j : Int)) = true := by simp
            have hjI : (j : Int) < (nxCosts : Int) := by omega
            have hkI : (k : Int) < (nxCosts : Int) := by omega
            by_cases hcc : t < y'
            · have dcc : decide (t < y') = true := by simp [hcc]
              go_wp2
              go_quiet (fail)
              go_wp2
              go_ret
              exact ⟨ret_bool (a := false) (by rw [monoSpace, range_no_all (mono_no HM.out (by rw [Hct.out, Hcy.out]; exact hcc)) (by rw [HL.out]; exact hlt), Bool.and_false]), below_drewN hB _⟩
            · have dcc : decide (t < y') = false := by simp; omega
              go_wp2
              go_quiet (fail)
              go_wp2
              go_roundw
              case rel => exact ⟨q + 1, by omega, by go_num, by rw [HJ.out.1, List.all_append, HA2.out]; simp only [List.all_cons, List.all_nil, Bool.and_true, Bool.true_and]; rw [Hct.out, Hcy.out]; simp; omega, below_drewN hB _, hR2.below rInt_ok (below_drewN (Below.refl _ _) _), bxx.below (below_drewN (Below.refl _ _) _)⟩
              case measure => simp [intOf]; omega
          · have HJ := Lib.hid (HYN.out.2 h0); clear HYN
            have dj : decide ((0 : Int) ≤ jj) = false := by simp; omega
            have kx_2 := bxx 2 _ rfl
            go_wp2
            go_quiet (fail)
            go_wp2
            go_roundw
            case rel => exact ⟨q + 1, by omega, by go_num, by rw [HJ.out]; exact HA2.out, below_drewN hB _, hR2.below rInt_ok (below_drewN (Below.refl _ _) _), bxx.below (below_drewN (Below.refl _ _) _)⟩
            case measure => simp [intOf]; omega
        · go_wp2
          go_roundw
          case rel => exact ⟨k + 1, by omega, by go_num, range_snoc_all HA.out (by unfold monoAt; rw [HUP.out, HL2.out, show n2 = q by omega]; exact HA2.out), hB, bxx⟩
          case measure => simp [intOf]; omega
    · have kx_2 := bxx 2 _ rfl
      go_wp2
      go_ret
      exact ⟨ret_bool (a := true) (by rw [monoSpace, HV.out, HL.out, show nxCosts = k by omega, HA.out]; rfl), hB⟩
end Go.Proofs.Ytbipbinbehkjhaa
