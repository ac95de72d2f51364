/-
  AdmS
-/
import Derived.Test.YtnbikckbnbgjkaaGreatAdm
import Derived.Test.YtnbikckbnbgjkaaGreatMop
namespace Go.Proofs.YtnbikckbnbgjkaaGreat
open Go.RowKit
set_option linter.unusedVariables false
set_option linter.unusedSimpArgs false
attribute [local go_sem ↓] Go.wp_at_zero Go.wp_at_succ

set_option maxRecDepth 100000 in
set_option maxHeartbeats 12800000 in
theorem sRefuteModel_c (csx : List Value) (x : ModelD) (w : World) (hx : (rModel NB).rep w csx x) :
  Calls Tryz.prog 44 #[.agg csx.toArray] w (RetK (admitted x) w) := by
 have rx := hx
 obtain ⟨AxScanSteps, nxScanSteps, cxScanSteps, AxSortSteps, nxSortSteps, cxSortSteps, AxHashSteps, nxHashSteps, cxHashSteps, AxMergeSteps, nxMergeSteps, cxMergeSteps, AxNestedSteps, nxNestedSteps, cxNestedSteps, rfl, hxScanFixed, hxScanPerLeft, hxScanPerRight, hxScanPerOutput, hxScanPerPair, hxScanSteps, hxSortFixed, hxSortPerLeft, hxSortPerRight, hxSortPerOutput, hxSortPerPair, hxSortSteps, hxHashFixed, hxHashPerLeft, hxHashPerRight, hxHashPerOutput, hxHashPerPair, hxHashSteps, hxMergeFixed, hxMergePerLeft, hxMergePerRight, hxMergePerOutput, hxMergePerPair, hxMergeSteps, hxNestedFixed, hxNestedPerLeft, hxNestedPerRight, hxNestedPerOutput, hxNestedPerPair, hxNestedSteps⟩ := rModel_rep.1 hx
 clear hx
 have hB : Below w.heap.size w w := Below.refl _ _
 have hAx := (Below.refl (World.heap (w)).size (w)).alloc (Nat.le_refl _) (.cells #[.int .i64 x.fScan.fFixed, .int .i64 x.fScan.fPerLeft, .int .i64 x.fScan.fPerRight, .int .i64 x.fScan.fPerOutput, .int .i64 x.fScan.fPerPair, .slice AxScanSteps nxScanSteps cxScanSteps, .int .i64 x.fSort.fFixed, .int .i64 x.fSort.fPerLeft, .int .i64 x.fSort.fPerRight, .int .i64 x.fSort.fPerOutput, .int .i64 x.fSort.fPerPair, .slice AxSortSteps nxSortSteps cxSortSteps, .int .i64 x.fHash.fFixed, .int .i64 x.fHash.fPerLeft, .int .i64 x.fHash.fPerRight, .int .i64 x.fHash.fPerOutput, .int .i64 x.fHash.fPerPair, .slice AxHashSteps nxHashSteps cxHashSteps, .int .i64 x.fMerge.fFixed, .int .i64 x.fMerge.fPerLeft, .int .i64 x.fMerge.fPerRight, .int .i64 x.fMerge.fPerOutput, .int .i64 x.fMerge.fPerPair, .slice AxMergeSteps nxMergeSteps cxMergeSteps, .int .i64 x.fNested.fFixed, .int .i64 x.fNested.fPerLeft, .int .i64 x.fNested.fPerRight, .int .i64 x.fNested.fPerOutput, .int .i64 x.fNested.fPerPair, .slice AxNestedSteps nxNestedSteps cxNestedSteps] 46)
 replace hB := hB.trans (hAx.mono hB.size)
 have bxx := Bx.new (w) [.int .i64 x.fScan.fFixed, .int .i64 x.fScan.fPerLeft, .int .i64 x.fScan.fPerRight, .int .i64 x.fScan.fPerOutput, .int .i64 x.fScan.fPerPair, .slice AxScanSteps nxScanSteps cxScanSteps, .int .i64 x.fSort.fFixed, .int .i64 x.fSort.fPerLeft, .int .i64 x.fSort.fPerRight, .int .i64 x.fSort.fPerOutput, .int .i64 x.fSort.fPerPair, .slice AxSortSteps nxSortSteps cxSortSteps, .int .i64 x.fHash.fFixed, .int .i64 x.fHash.fPerLeft, .int .i64 x.fHash.fPerRight, .int .i64 x.fHash.fPerOutput, .int .i64 x.fHash.fPerPair, .slice AxHashSteps nxHashSteps cxHashSteps, .int .i64 x.fMerge.fFixed, .int .i64 x.fMerge.fPerLeft, .int .i64 x.fMerge.fPerRight, .int .i64 x.fMerge.fPerOutput, .int .i64 x.fMerge.fPerPair, .slice AxMergeSteps nxMergeSteps cxMergeSteps, .int .i64 x.fNested.fFixed, .int .i64 x.fNested.fPerLeft, .int .i64 x.fNested.fPerRight, .int .i64 x.fNested.fPerOutput, .int .i64 x.fNested.fPerPair, .slice AxNestedSteps nxNestedSteps cxNestedSteps] 46
 clear hAx
 go_enter Tryz.func44, Tryz.ntmps44
 go_wp2
 go_loopw [5] (fun i wr => ∃ (k : Nat) (z : Int), k ≤ 5 ∧ z = k + 1 ∧ i = .int .i64 z ∧ ((modelOps x).take k).all opOk = true ∧ Below w.heap.size w wr ∧ Bx wr w.heap.size [.int .i64 x.fScan.fFixed, .int .i64 x.fScan.fPerLeft, .int .i64 x.fScan.fPerRight, .int .i64 x.fScan.fPerOutput, .int .i64 x.fScan.fPerPair, .slice AxScanSteps nxScanSteps cxScanSteps, .int .i64 x.fSort.fFixed, .int .i64 x.fSort.fPerLeft, .int .i64 x.fSort.fPerRight, .int .i64 x.fSort.fPerOutput, .int .i64 x.fSort.fPerPair, .slice AxSortSteps nxSortSteps cxSortSteps, .int .i64 x.fHash.fFixed, .int .i64 x.fHash.fPerLeft, .int .i64 x.fHash.fPerRight, .int .i64 x.fHash.fPerOutput, .int .i64 x.fHash.fPerPair, .slice AxHashSteps nxHashSteps cxHashSteps, .int .i64 x.fMerge.fFixed, .int .i64 x.fMerge.fPerLeft, .int .i64 x.fMerge.fPerRight, .int .i64 x.fMerge.fPerOutput, .int .i64 x.fMerge.fPerPair, .slice AxMergeSteps nxMergeSteps cxMergeSteps, .int .i64 x.fNested.fFixed, .int .i64 x.fNested.fPerLeft, .int .i64 x.fNested.fPerRight, .int .i64 x.fNested.fPerOutput, .int .i64 x.fNested.fPerPair, .slice AxNestedSteps nxNestedSteps cxNestedSteps]) (fun i _ => 6 - (intOf i).toNat)
 case atStart => exact ⟨0, 1, Nat.zero_le _, rfl, rfl, rfl, hB, bxx⟩
 case round =>
  clear hB bxx
  obtain ⟨k, z, hk, hz, rfl, hall, hB, bxx⟩ := hrel
  have hz0 : 1 ≤ z := by omega
  have hz1 : z ≤ 6 := by omega
  have HNZ : Hid ((z == 0) = false) := Lib.hid (by simp; omega)
  have HA := Lib.hid hall; clear hall
  have hkz : z ≤ 5 ↔ k < 5 := by omega
  by_cases hlt : k < 5
  ·have hz5 := hkz.2 hlt
   have HO : Hid ((modelOps x)[k]? = some (opOf x z)) := Lib.hid (by rw [hz]; exact opOf_at x hlt)
   have HZ := Lib.hid hz; clear hz hkz
   go_wp2_with (refine wpList_load_mid rfl 46 _ rfl w.heap.size 0 rfl [.int .i64 x.fScan.fFixed, .int .i64 x.fScan.fPerLeft, .int .i64 x.fScan.fPerRight, .int .i64 x.fScan.fPerOutput, .int .i64 x.fScan.fPerPair, .slice AxScanSteps nxScanSteps cxScanSteps, .int .i64 x.fSort.fFixed, .int .i64 x.fSort.fPerLeft, .int .i64 x.fSort.fPerRight, .int .i64 x.fSort.fPerOutput, .int .i64 x.fSort.fPerPair, .slice AxSortSteps nxSortSteps cxSortSteps, .int .i64 x.fHash.fFixed, .int .i64 x.fHash.fPerLeft, .int .i64 x.fHash.fPerRight, .int .i64 x.fHash.fPerOutput, .int .i64 x.fHash.fPerPair, .slice AxHashSteps nxHashSteps cxHashSteps, .int .i64 x.fMerge.fFixed, .int .i64 x.fMerge.fPerLeft, .int .i64 x.fMerge.fPerRight, .int .i64 x.fMerge.fPerOutput, .int .i64 x.fMerge.fPerPair, .slice AxMergeSteps nxMergeSteps cxMergeSteps, .int .i64 x.fNested.fFixed, .int .i64 x.fNested.fPerLeft, .int .i64 x.fNested.fPerRight, .int .i64 x.fNested.fPerOutput, .int .i64 x.fNested.fPerPair, .slice AxNestedSteps nxNestedSteps cxNestedSteps] _ bxx.range Tryz.underlying46 rfl sizeModel ?_)
   refine (sModelOp_c _ x z _ ((rModel_ok NB).keep rx (cells_below hB))).mono ?_
   rintro e w1 ⟨A1, n1, c1, rfl, ro, hb1⟩
   replace hB := hB.trans (hb1.mono hB.size)
   replace bxx := bxx.below hb1
   clear hb1
   generalize opOf x z = o at ro HO
   have bxo := Bx.new w1 [.int .i64 o.fFixed, .int .i64 o.fPerLeft, .int .i64 o.fPerRight, .int .i64 o.fPerOutput, .int .i64 o.fPerPair, .slice A1 n1 c1] 44
   have hBo := (Below.refl w1.heap.size w1).alloc (Nat.le_refl _) (.cells #[.int .i64 o.fFixed, .int .i64 o.fPerLeft, .int .i64 o.fPerRight, .int .i64 o.fPerOutput, .int .i64 o.fPerPair, .slice A1 n1 c1] 44)
   go_wp2_with fail
   replace hB := hB.trans (hBo.mono hB.size)
   replace bxx := bxx.below hBo
   replace ro := (rOperator_ok NB).keep ro (cells_below hBo)
   clear hBo
   refine (sIsValidOperator_c _ o _ ro).mono ?_
   rintro e w2 ⟨rfl, hb2⟩
   replace hB := hB.trans (hb2.mono hB.size)
   replace bxx := bxx.below hb2
   replace ro := (rOperator_ok NB).keep ro (cells_below hb2)
   replace bxo := bxo.below hb2
   clear hb2
   cases hv : validOp o
   ·go_wp2
    go_ret3
    exact ⟨_, _, _, rfl, by rw [admitted_no HO.out (opOk_invalid hv)]; exact HNZ.out, (hB.alloc hB.size _).alloc (by simp; have := hB.size; omega) _⟩
   have HV := Lib.hid hv; clear hv
   have ko_0 := bxo 0 _ rfl
   have ko_1 := bxo 1 _ rfl
   have ko_2 := bxo 2 _ rfl
   have ko_3 := bxo 3 _ rfl
   have ko_4 := bxo 4 _ rfl
   have ko_5 := bxo 5 _ rfl
   go_wp2_with fail
   refine (sFindDecrease_c _ o _ ro).mono ?_
   rintro e w3 ⟨v1, v2, rfl, hb3⟩
   replace hB := hB.trans (hb3.mono hB.size)
   replace bxx := bxx.below hb3
   replace ro := (rOperator_ok NB).keep ro (cells_below hb3)
   replace bxo := bxo.below hb3
   clear hb3 ko_0 ko_1 ko_2 ko_3 ko_4 ko_5
   rw [HV.out, Bool.true_and]
   cases hd : hasDec o
   rotate_left
   ·go_wp2
    go_ret3
    exact ⟨_, _, _, rfl, by rw [admitted_no HO.out (opOk_dec hd)]; exact HNZ.out, hB⟩
   have HD := Lib.hid hd; clear hd
   have ko_0 := bxo 0 _ rfl
   have ko_1 := bxo 1 _ rfl
   have ko_2 := bxo 2 _ rfl
   have ko_3 := bxo 3 _ rfl
   have ko_4 := bxo 4 _ rfl
   have ko_5 := bxo 5 _ rfl
   go_wp2_with fail
   refine (sCheap_c _ o _ ro HV.out).mono ?_
   rintro e w4 ⟨A7, n7, c7, rfl, hn7, hb4⟩
   replace hB := hB.trans (hb4.mono hB.size)
   replace bxx := bxx.below hb4
   replace ro := (rOperator_ok NB).keep ro (cells_below hb4)
   replace bxo := bxo.below hb4
   clear hb4 ko_0 ko_1 ko_2 ko_3 ko_4 ko_5
   cases hch : hasCheap o
   ·rw [hch] at hn7
    have h7 : ¬ (0 : Int) < (n7 : Int) := by simp at hn7; omega
    have h7' : n7 = 0 := by omega
    subst h7'
    clear hn7 h7
    go_wp2
    go_roundw
    case rel => exact ⟨k + 1, z + 1, by omega, by rw [HZ.out]; omega, rfl, all_snoc' HA.out HO.out (opOk_yes HV.out HD.out hch), hB, bxx⟩
    case measure => simp [intOf]; omega
   ·rw [hch] at hn7
    have h7 : (0 : Int) < (n7 : Int) := by simp at hn7; omega
    have h7' : 0 < n7 := by omega
    clear hn7
    go_wp2
    go_ret3
    exact ⟨_, _, _, rfl, by rw [admitted_no HO.out (opOk_cheap hch)]; exact HNZ.out, hB.alloc hB.size _⟩
  ·have hz5 : ¬ z ≤ 5 := by omega
   have HF : Hid (admitted x = true) := by show (modelOps x).all opOk = true; have := HA.out; rwa [List.take_of_length_le (by simp [modelOps]; omega)] at this
   clear hz hkz
   go_wp2
   go_ret3
   exact ⟨_, _, _, rfl, by rw [HF.out]; rfl, (hB.alloc hB.size _).alloc (by simp; have := hB.size; omega) _⟩
set_option maxRecDepth 100000 in
set_option maxHeartbeats 1600000 in
theorem sIsAdmitted_c (csx : List Value) (x : ModelD) (w : World) (hx : (rModel NB).rep w csx x) :
  Calls Tryz.prog 23 #[.agg csx.toArray] w fun e w' => e = .returned (.bool (admitted x)) ∧ Below w.heap.size w w' := by
 have rx := hx
 obtain ⟨AxScanSteps, nxScanSteps, cxScanSteps, AxSortSteps, nxSortSteps, cxSortSteps, AxHashSteps, nxHashSteps, cxHashSteps, AxMergeSteps, nxMergeSteps, cxMergeSteps, AxNestedSteps, nxNestedSteps, cxNestedSteps, rfl, hxScanFixed, hxScanPerLeft, hxScanPerRight, hxScanPerOutput, hxScanPerPair, hxScanSteps, hxSortFixed, hxSortPerLeft, hxSortPerRight, hxSortPerOutput, hxSortPerPair, hxSortSteps, hxHashFixed, hxHashPerLeft, hxHashPerRight, hxHashPerOutput, hxHashPerPair, hxHashSteps, hxMergeFixed, hxMergePerLeft, hxMergePerRight, hxMergePerOutput, hxMergePerPair, hxMergeSteps, hxNestedFixed, hxNestedPerLeft, hxNestedPerRight, hxNestedPerOutput, hxNestedPerPair, hxNestedSteps⟩ := rModel_rep.1 hx
 clear hx
 have hB : Below w.heap.size w w := Below.refl _ _
 have hAx := (Below.refl (World.heap (w)).size (w)).alloc (Nat.le_refl _) (.cells #[.int .i64 x.fScan.fFixed, .int .i64 x.fScan.fPerLeft, .int .i64 x.fScan.fPerRight, .int .i64 x.fScan.fPerOutput, .int .i64 x.fScan.fPerPair, .slice AxScanSteps nxScanSteps cxScanSteps, .int .i64 x.fSort.fFixed, .int .i64 x.fSort.fPerLeft, .int .i64 x.fSort.fPerRight, .int .i64 x.fSort.fPerOutput, .int .i64 x.fSort.fPerPair, .slice AxSortSteps nxSortSteps cxSortSteps, .int .i64 x.fHash.fFixed, .int .i64 x.fHash.fPerLeft, .int .i64 x.fHash.fPerRight, .int .i64 x.fHash.fPerOutput, .int .i64 x.fHash.fPerPair, .slice AxHashSteps nxHashSteps cxHashSteps, .int .i64 x.fMerge.fFixed, .int .i64 x.fMerge.fPerLeft, .int .i64 x.fMerge.fPerRight, .int .i64 x.fMerge.fPerOutput, .int .i64 x.fMerge.fPerPair, .slice AxMergeSteps nxMergeSteps cxMergeSteps, .int .i64 x.fNested.fFixed, .int .i64 x.fNested.fPerLeft, .int .i64 x.fNested.fPerRight, .int .i64 x.fNested.fPerOutput, .int .i64 x.fNested.fPerPair, .slice AxNestedSteps nxNestedSteps cxNestedSteps] 46)
 replace hB := hB.trans (hAx.mono hB.size)
 have bxx := Bx.new (w) [.int .i64 x.fScan.fFixed, .int .i64 x.fScan.fPerLeft, .int .i64 x.fScan.fPerRight, .int .i64 x.fScan.fPerOutput, .int .i64 x.fScan.fPerPair, .slice AxScanSteps nxScanSteps cxScanSteps, .int .i64 x.fSort.fFixed, .int .i64 x.fSort.fPerLeft, .int .i64 x.fSort.fPerRight, .int .i64 x.fSort.fPerOutput, .int .i64 x.fSort.fPerPair, .slice AxSortSteps nxSortSteps cxSortSteps, .int .i64 x.fHash.fFixed, .int .i64 x.fHash.fPerLeft, .int .i64 x.fHash.fPerRight, .int .i64 x.fHash.fPerOutput, .int .i64 x.fHash.fPerPair, .slice AxHashSteps nxHashSteps cxHashSteps, .int .i64 x.fMerge.fFixed, .int .i64 x.fMerge.fPerLeft, .int .i64 x.fMerge.fPerRight, .int .i64 x.fMerge.fPerOutput, .int .i64 x.fMerge.fPerPair, .slice AxMergeSteps nxMergeSteps cxMergeSteps, .int .i64 x.fNested.fFixed, .int .i64 x.fNested.fPerLeft, .int .i64 x.fNested.fPerRight, .int .i64 x.fNested.fPerOutput, .int .i64 x.fNested.fPerPair, .slice AxNestedSteps nxNestedSteps cxNestedSteps] 46
 clear hAx
 go_enter Tryz.func23, Tryz.ntmps23
 go_wp2_with (refine wpList_load_mid rfl 46 _ rfl w.heap.size 0 rfl [.int .i64 x.fScan.fFixed, .int .i64 x.fScan.fPerLeft, .int .i64 x.fScan.fPerRight, .int .i64 x.fScan.fPerOutput, .int .i64 x.fScan.fPerPair, .slice AxScanSteps nxScanSteps cxScanSteps, .int .i64 x.fSort.fFixed, .int .i64 x.fSort.fPerLeft, .int .i64 x.fSort.fPerRight, .int .i64 x.fSort.fPerOutput, .int .i64 x.fSort.fPerPair, .slice AxSortSteps nxSortSteps cxSortSteps, .int .i64 x.fHash.fFixed, .int .i64 x.fHash.fPerLeft, .int .i64 x.fHash.fPerRight, .int .i64 x.fHash.fPerOutput, .int .i64 x.fHash.fPerPair, .slice AxHashSteps nxHashSteps cxHashSteps, .int .i64 x.fMerge.fFixed, .int .i64 x.fMerge.fPerLeft, .int .i64 x.fMerge.fPerRight, .int .i64 x.fMerge.fPerOutput, .int .i64 x.fMerge.fPerPair, .slice AxMergeSteps nxMergeSteps cxMergeSteps, .int .i64 x.fNested.fFixed, .int .i64 x.fNested.fPerLeft, .int .i64 x.fNested.fPerRight, .int .i64 x.fNested.fPerOutput, .int .i64 x.fNested.fPerPair, .slice AxNestedSteps nxNestedSteps cxNestedSteps] _ bxx.range Tryz.underlying46 rfl sizeModel ?_)
 refine (sRefuteModel_c _ x _ ((rModel_ok NB).keep rx (cells_below hB))).mono ?_
 rintro e w1 ⟨k, v1, v2, rfl, hk, hb1⟩
 replace hB := hB.trans (hb1.mono hB.size)
 replace bxx := bxx.below hb1
 clear hb1
 have HK := Lib.hid hk; clear hk
 go_wp2
 go_ret
 exact ⟨ret_bool HK.out, hB⟩
end Go.Proofs.YtnbikckbnbgjkaaGreat
