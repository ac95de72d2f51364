/-
  FnLearning
-/
import Derived.Test.YtkdajdafhjobbaaRows
import Derived.Test.YtkdajdafhjobbaaLearnP
import Derived.Test.YtkdajdafhjobbaaKeep
import Derived.Test.YtkdajdafhjobbaaBxj
import Derived.Test.YtkdajdafhjobbaaOutc
import Derived.Test.YtkdajdafhjobbaaOpens
import Derived.WalkKit
import Derived.ProofKit
import Derived.OpenShut
import Derived.ChangeOld
import Derived.Below
import Derived.Deep.RegionHeld3
namespace Go.Proofs.Ytkdajdafhjobbaa.fnLearning
open Go.ChangeShapes Go.WideShapes Go.ChangeAt Go.RowKit
set_option linter.unusedVariables false
set_option linter.unusedSimpArgs false

theorem own : ownKnob Try.prog.godebug = none := by kernel_rfl
theorem laidOut : laidOutB Try.prog = true := by kernel_rfl
theorem opens_byte {P : Program} {t : TypeId} (ht : P.underlying t = some (.int .u8)) : Opens P t rByte := by
 intro H enc w base spare held fuel cs x h
 obtain ⟨n, rfl, _, hw⟩ := DataW.trod_int ht h
 exact ⟨n, rfl, bounds_u8 hw⟩
theorem big_c (A : Option Addr) (n cap : Nat) (w : World) : Calls Try.prog 7 #[.slice A n cap] w fun e w' => e = .returned (.bool (decide (1048576 < n))) ∧ w = w' := by
 by_cases h : (1048576 : Int) < n
 ·go_enter Try.func7, Try.ntmps7
  go_wp2
  go_ret
  exact ⟨ret_bool (by simp; omega), rfl⟩
 ·go_enter Try.func7, Try.ntmps7
  go_wp2
  go_ret
  exact ⟨ret_bool (by simp; omega), rfl⟩

set_option maxRecDepth 100000 in
set_option maxHeartbeats 4000000 in
theorem walk (A : Option Addr) (n cap : Nat) (l : List Int) (w : World) (r0 : RS maxLen rByte w A n cap l) :
  Calls Try.prog 3 #[.slice A n cap] w fun e w' => e = .returned (.bool true) ∧ Below w.heap.size w w' := by
 by_cases hsz : n ≤ 1048576
 rotate_left
 ·have hd : decide (1048576 < n) = true := by simp; omega
  go_enter Try.func3, Try.ntmps3
  go_wp2_with (go_at_call 7; refine (big_c _ _ _ _).mono ?_; rintro e w' ⟨rfl, rfl⟩)
  go_ret
  exact ⟨rfl, Below.refl _ _⟩
 have hd : decide (1048576 < n) = false := by simp; omega
 have hr := smallB r0 hsz
 clear r0
 go_enter Try.func3, Try.ntmps3
 go_wp2_with (go_at_call 7; refine (big_c _ _ _ _).mono ?_; rintro e w' ⟨rfl, rfl⟩)
 clear hd
 refine (drawLearn_c _ _ _ _ _ hr).mono ?_
 rintro e w1 ⟨b, L, A1, n1, c1, A2, n2, c2, AL, nL, cL, rfl, rB, rL, hB⟩
 replace hr := hr.below rByte_ok hB
 obtain ⟨w2, hw2⟩ : ∃ W, W = w1.alloc (.cells #[.slice A1 n1 c1, .slice A2 n2 c2] 26) := ⟨_, rfl⟩
 have hb_w2 : Below w1.heap.size w1 w2 := by rw [hw2]; exact (Below.refl w1.heap.size w1).alloc (Nat.le_refl _) _
 replace hB := hB.trans (hb_w2.mono hB.size)
 replace hr := hr.below rByte_ok hb_w2
 replace rB := (rBox_ok NB).keep rB (cells_below hb_w2)
 replace rL := rL.below (rObservation_ok NB) hb_w2
 clear hb_w2
 have kB : Bk w2 w1.heap.size 26 [.slice A1 n1 c1, .slice A2 n2 c2] := by rw [hw2]; exact Bk.new w1 _ _
 go_upto_region 4 with fail
 rw [← hw2]
 clear hw2
 have ckB_0 := kB.bx 0 _ rfl
 have ckB_1 := kB.bx 1 _ rfl
 obtain ⟨x, m, HX⟩ : ∃ x m, Hid (learnAll b L = (x, m)) := ⟨_, _, rfl⟩
 have e1 : (learnAll b L).1 = x := by rw [HX.out]
 have e2 : (learnAll b L).2 = m := by rw [HX.out]
 go_wp2_with fail
 have C := iLearnAll_c _ b _ _ _ L _ rB rL
 rw [e1, e2] at C
 have E1 := Lib.hid e1; clear e1
 have E2 := Lib.hid e2; clear e2
 refine C.mono ?_
 clear C
 rintro e w3 ⟨cs, fp, rfl, oX, frX, hb3⟩
 obtain ⟨A3, n3, c3, A4, n4, c4, f3, f4, rfl, rfl, _, _⟩ := rBox_own.1 oX
 have rX := (rBox_ok NB).toRep oX
 clear oX frX
 replace hB := hB.trans (hb3.mono hB.size)
 replace hr := hr.below rByte_ok hb3
 replace rB := (rBox_ok NB).keep rB (cells_below hb3)
 replace rL := rL.below (rObservation_ok NB) hb3
 replace kB := kB.below hb3
 clear hb3 ckB_0 ckB_1
 obtain ⟨w4, hw4⟩ : ∃ W, W = w3.alloc (.cells #[.slice A3 n3 c3, .slice A4 n4 c4] 26) := ⟨_, rfl⟩
 have hb_w4 : Below w3.heap.size w3 w4 := by rw [hw4]; exact (Below.refl w3.heap.size w3).alloc (Nat.le_refl _) _
 replace hB := hB.trans (hb_w4.mono hB.size)
 replace hr := hr.below rByte_ok hb_w4
 replace rB := (rBox_ok NB).keep rB (cells_below hb_w4)
 replace rL := rL.below (rObservation_ok NB) hb_w4
 replace kB := kB.below hb_w4
 replace rX := (rBox_ok NB).keep rX (cells_below hb_w4)
 clear hb_w4
 have kX : Bk w4 w3.heap.size 26 [.slice A3 n3 c3, .slice A4 n4 c4] := by rw [hw4]; exact Bk.new w3 _ _
 go_upto_region 5 with fail
 rw [← hw4]
 clear hw4
 have ckB_0 := kB.bx 0 _ rfl
 have ckB_1 := kB.bx 1 _ rfl
 go_wp2_with fail
 have C := sLearnAll_c _ b _ _ _ L _ rB rL
 rw [E1.out, E2.out] at C
 refine C.mono ?_
 clear C
 rintro e w5 ⟨cs, fp, rfl, oY, frY, hb5⟩
 obtain ⟨A5, n5, c5, A6, n6, c6, f3, f4, rfl, rfl, _, _⟩ := rBox_own.1 oY
 have rY := (rBox_ok NB).toRep oY
 clear oY frY
 replace hB := hB.trans (hb5.mono hB.size)
 replace hr := hr.below rByte_ok hb5
 replace rB := (rBox_ok NB).keep rB (cells_below hb5)
 replace rL := rL.below (rObservation_ok NB) hb5
 replace kB := kB.below hb5
 replace rX := (rBox_ok NB).keep rX (cells_below hb5)
 replace kX := kX.below hb5
 clear hb5 ckB_0 ckB_1
 obtain ⟨w6, hw6⟩ : ∃ W, W = w5.alloc (.cells #[.slice A5 n5 c5, .slice A6 n6 c6] 26) := ⟨_, rfl⟩
 have hb_w6 : Below w5.heap.size w5 w6 := by rw [hw6]; exact (Below.refl w5.heap.size w5).alloc (Nat.le_refl _) _
 replace hB := hB.trans (hb_w6.mono hB.size)
 replace hr := hr.below rByte_ok hb_w6
 replace rB := (rBox_ok NB).keep rB (cells_below hb_w6)
 replace rL := rL.below (rObservation_ok NB) hb_w6
 replace kB := kB.below hb_w6
 replace rX := (rBox_ok NB).keep rX (cells_below hb_w6)
 replace kX := kX.below hb_w6
 replace rY := (rBox_ok NB).keep rY (cells_below hb_w6)
 clear hb_w6
 have kY : Bk w6 w5.heap.size 26 [.slice A5 n5 c5, .slice A6 n6 c6] := by rw [hw6]; exact Bk.new w5 _ _
 go_upto_region 6 with fail
 rw [← hw6]
 clear hw6
 have ckX_0 := kX.bx 0 _ rfl
 have ckX_1 := kX.bx 1 _ rfl
 have ckY_0 := kY.bx 0 _ rfl
 have ckY_1 := kY.bx 1 _ rfl
 have hmm : (m != m) = false := by simp
 go_wp2_with fail
 refine (iEqualBoxes_c _ _ x x _ rX rY).mono ?_
 rintro e w7 ⟨rfl, hb7⟩
 replace hB := hB.trans (hb7.mono hB.size)
 replace hr := hr.below rByte_ok hb7
 replace rB := (rBox_ok NB).keep rB (cells_below hb7)
 replace rL := rL.below (rObservation_ok NB) hb7
 replace kB := kB.below hb7
 replace rX := (rBox_ok NB).keep rX (cells_below hb7)
 replace kX := kX.below hb7
 replace rY := (rBox_ok NB).keep rY (cells_below hb7)
 replace kY := kY.below hb7
 clear hb7 ckX_0 ckX_1 ckY_0 ckY_1
 clear hmm rY kY
 have hdd : decide (x = x) = true := by simp
 go_upto_region 8 with fail
 clear hdd
 have ckB_0 := kB.bx 0 _ rfl
 have ckB_1 := kB.bx 1 _ rfl
 go_wp2_with fail
 refine (sIsValidBox_c _ b _ rB).mono ?_
 rintro e w8 ⟨rfl, hb8⟩
 replace hB := hB.trans (hb8.mono hB.size)
 replace hr := hr.below rByte_ok hb8
 replace rB := (rBox_ok NB).keep rB (cells_below hb8)
 replace rL := rL.below (rObservation_ok NB) hb8
 replace kB := kB.below hb8
 replace rX := (rBox_ok NB).keep rX (cells_below hb8)
 replace kX := kX.below hb8
 clear hb8 ckB_0 ckB_1
 cases hv : validBox b
 focus
  go_upto_region 10 with fail
  clear rB rL kB kX rX
  rename World => wr
 rotate_left
 focus
  obtain ⟨g1, g2, g3⟩ := learnAll_ok L hv
  rw [E1.out] at g1 g2 g3
  have V := Lib.hid g1; clear g1
  have ckB_0 := kB.bx 0 _ rfl
  have ckB_1 := kB.bx 1 _ rfl
  have ckX_0 := kX.bx 0 _ rfl
  have ckX_1 := kX.bx 1 _ rfl
  obtain ⟨_, _, _, _, _, _, ee, rXL, rXH⟩ := rBox_rep.1 rX
  injection ee with q1 q2; injection q1 with q1 q3 q4; injection q2 with q2 _; injection q2 with q2 q5 q6; subst q1 q2 q3 q4 q5 q6
  obtain ⟨_, _, _, _, _, _, ee, rBL, rBH⟩ := rBox_rep.1 rB
  injection ee with q1 q2; injection q1 with q1 q3 q4; injection q2 with q2 _; injection q2 with q2 q5 q6; subst q1 q2 q3 q4 q5 q6
  go_wp2_with fail
  have C := sDominatesLocation_c _ _ _ _ _ _ _ _ _ rXL rBL
  rw [g2] at C
  refine C.mono ?_
  clear C
  rintro e w9 ⟨rfl, hq⟩
  have hb9 := hq.belowS; clear hq
  replace hB := hB.trans (hb9.mono hB.size)
  replace hr := hr.below rByte_ok hb9
  replace rB := (rBox_ok NB).keep rB (cells_below hb9)
  replace rL := rL.below (rObservation_ok NB) hb9
  replace kB := kB.below hb9
  replace rX := (rBox_ok NB).keep rX (cells_below hb9)
  replace kX := kX.below hb9
  replace rXL := rXL.below rInt_ok hb9
  replace rXH := rXH.below rInt_ok hb9
  replace rBL := rBL.below rInt_ok hb9
  replace rBH := rBH.below rInt_ok hb9
  clear hb9 ckB_0 ckB_1 ckX_0 ckX_1
  have ckB_0 := kB.bx 0 _ rfl
  have ckB_1 := kB.bx 1 _ rfl
  have ckX_0 := kX.bx 0 _ rfl
  have ckX_1 := kX.bx 1 _ rfl
  go_wp2_with fail
  have C := sDominatesLocation_c _ _ _ _ _ _ _ _ _ rBH rXH
  rw [g3] at C
  refine C.mono ?_
  clear C
  rintro e w10 ⟨rfl, hq⟩
  have hb10 := hq.belowS; clear hq
  replace hB := hB.trans (hb10.mono hB.size)
  replace hr := hr.below rByte_ok hb10
  replace rB := (rBox_ok NB).keep rB (cells_below hb10)
  replace rL := rL.below (rObservation_ok NB) hb10
  replace kB := kB.below hb10
  replace rX := (rBox_ok NB).keep rX (cells_below hb10)
  replace kX := kX.below hb10
  replace rXL := rXL.below rInt_ok hb10
  replace rXH := rXH.below rInt_ok hb10
  replace rBL := rBL.below rInt_ok hb10
  replace rBH := rBH.below rInt_ok hb10
  clear hb10 ckB_0 ckB_1 ckX_0 ckX_1
  have ckX_0 := kX.bx 0 _ rfl
  have ckX_1 := kX.bx 1 _ rfl
  go_wp2_with fail
  have C := iIsValidBox_c _ x _ rX
  rw [V.out] at C
  refine C.mono ?_
  clear C
  rintro e w11 ⟨rfl, hb11⟩
  replace hB := hB.trans (hb11.mono hB.size)
  replace hr := hr.below rByte_ok hb11
  replace rB := (rBox_ok NB).keep rB (cells_below hb11)
  replace rL := rL.below (rObservation_ok NB) hb11
  replace kB := kB.below hb11
  replace rX := (rBox_ok NB).keep rX (cells_below hb11)
  replace kX := kX.below hb11
  replace rXL := rXL.below rInt_ok hb11
  replace rXH := rXH.below rInt_ok hb11
  replace rBL := rBL.below rInt_ok hb11
  replace rBH := rBH.below rInt_ok hb11
  clear hb11 ckX_0 ckX_1
  clear V g2 g3 rXL rXH rBL rBH
  go_upto_region 10 with fail
  clear rB rL kB kX rX
  rename World => wr
 all_goals
  clear hv
  go_wp2_with fail
  refine (drawIsIn_c _ _ _ _ _ hr).mono ?_
  rintro e w12 ⟨b2, loc, B1, p1, d1, B2, p2, d2, AK, nK, cK, rfl, rB, rK, hb12⟩
  replace hB := hB.trans (hb12.mono hB.size)
  replace hr := hr.below rByte_ok hb12
  clear hb12
  obtain ⟨w13, hw13⟩ : ∃ W, W = w12.alloc (.cells #[.slice B1 p1 d1, .slice B2 p2 d2] 26) := ⟨_, rfl⟩
  have hb_w13 : Below w12.heap.size w12 w13 := by rw [hw13]; exact (Below.refl w12.heap.size w12).alloc (Nat.le_refl _) _
  replace hB := hB.trans (hb_w13.mono hB.size)
  replace hr := hr.below rByte_ok hb_w13
  replace rB := (rBox_ok NB).keep rB (cells_below hb_w13)
  replace rK := rK.below rInt_ok hb_w13
  clear hb_w13
  have kB : Bk w13 w12.heap.size 26 [.slice B1 p1 d1, .slice B2 p2 d2] := by rw [hw13]; exact Bk.new w12 _ _
  go_upto_region 11 with fail
  rw [← hw13]
  clear hw13
  go_wp2_with fail
  refine (drawObsH_c _ _ _ _ _ hr).mono ?_
  rintro e w14 ⟨om, oc, ox, lo2, AJ, nJ, cJ, rfl, im, ic, rJ, hb14⟩
  replace hB := hB.trans (hb14.mono hB.size)
  replace hr := hr.below rByte_ok hb14
  replace rB := (rBox_ok NB).keep rB (cells_below hb14)
  replace rK := rK.below rInt_ok hb14
  replace kB := kB.below hb14
  clear hb14
  obtain ⟨w15, hw15⟩ : ∃ W, W = w14.alloc (.cells #[.int .i64 om, .int .i64 oc, .bool ox] 38) := ⟨_, rfl⟩
  have hb_w15 : Below w14.heap.size w14 w15 := by rw [hw15]; exact (Below.refl w14.heap.size w14).alloc (Nat.le_refl _) _
  replace hB := hB.trans (hb_w15.mono hB.size)
  replace hr := hr.below rByte_ok hb_w15
  replace rB := (rBox_ok NB).keep rB (cells_below hb_w15)
  replace rK := rK.below rInt_ok hb_w15
  replace kB := kB.below hb_w15
  replace rJ := rJ.below rInt_ok hb_w15
  clear hb_w15
  have kO : Bk w15 w14.heap.size 38 [.int .i64 om, .int .i64 oc, .bool ox] := by rw [hw15]; exact Bk.new w14 _ _
  have rO := (rObservation_rep (M := NB) (w := w15) (x := ⟨om, oc, ox⟩)).2 ⟨rfl, im, ic⟩
  clear hr
  go_upto_region 12 with fail
  rw [← hw15]
  clear hw15
  have HSS := Lib.hid (fun (w' : World) (hb : Below w15.heap.size w15 w') => (have k := kO.below hb; ⟨k.bx 0 _ rfl, k.bx 1 _ rfl, k.bx 2 _ rfl⟩ : w'.cell? ⟨w14.heap.size, 0, none⟩ = some (.int .i64 om) ∧ w'.cell? ⟨w14.heap.size, 1, none⟩ = some (.int .i64 oc) ∧ w'.cell? ⟨w14.heap.size, 2, none⟩ = some (.bool ox)))
  obtain ⟨hh, HH⟩ : ∃ q, Hid (obsHolds ⟨om, oc, ox⟩ lo2 = q) := ⟨_, rfl⟩
  have hd0 := (Below.refl w15.heap.size w15).drew
  refine hbg HSS.out hd0 (fun hHeld => ?_)
  refine tka 0 76 hHeld ?_; simp only [putS]
  refine tka 1 77 hHeld ?_; simp only [putS]
  refine tka 3 79 hHeld ?_; simp only [putS]
  refine tka 4 80 hHeld ?_; simp only [putS]
  refine wpAnyH_ready (rs := [2]) (by kernel_rfl) (by simp) ?_
  refine AllReadyH.cons (o := ⟨some 78, _, _, _, _, _⟩) rfl (fun K hK => ?_) AllReadyH.nil
  clear hHeld
  go_simp
  have C := iObservationHolds_c _ ⟨om, oc, ox⟩ _ _ _ lo2 _ ((rObservation_ok NB).keep rO (cells_below hd0)) (rJ.below rInt_ok hd0)
  rw [HH.out] at C
  refine C.mono ?_
  clear C
  rintro e w16 ⟨rfl, hb16⟩
  have hd1 := hd0.trans (hb16.mono hd0.size)
  go_wp2_with fail
  refine hK.out _ _ (HSS.out _ hd1) (fun hHeld => ?_)
  clear hK K
  try simp only [putS]
  refine wpAnyH_ready (rs := [5]) (by kernel_rfl) (by simp) ?_
  refine AllReadyH.cons (o := ⟨some 81, _, _, _, _, _⟩) rfl (fun K hK => ?_) AllReadyH.nil
  clear hHeld
  go_simp
  have C := sObservationHolds_c _ ⟨om, oc, ox⟩ _ _ _ lo2 _ ((rObservation_ok NB).keep rO (cells_below hd1)) (rJ.below rInt_ok hd1)
  rw [HH.out] at C
  refine C.mono ?_
  clear C
  rintro e w17 ⟨rfl, hb17⟩
  have hd2 := hd1.trans (hb17.mono hd1.size)
  go_wp2_with fail
  refine hK.out _ _ (HSS.out _ hd2) (fun hHeld => ?_)
  clear hK K
  try simp only [putS]
  refine tka 6 82 hHeld ?_; simp only [putS]
  refine wpAnyH_done (by kernel_rfl) ?_ _
  clear hHeld
  clear HSS hd0 hd1 hb16 hb17 HH
  replace hB := hB.trans (hd2.mono hB.size)
  replace rB := (rBox_ok NB).keep rB (cells_below hd2)
  replace rK := rK.below rInt_ok hd2
  replace kB := kB.below hd2
  replace rJ := rJ.below rInt_ok hd2
  replace kO := kO.below hd2
  replace rO := (rObservation_ok NB).keep rO (cells_below hd2)
  clear hd2
  have hnn : (hh != hh) = false := by simp
  have ckB_0 := kB.bx 0 _ rfl
  have ckB_1 := kB.bx 1 _ rfl
  have ckO_0 := kO.bx 0 _ rfl
  have ckO_1 := kO.bx 1 _ rfl
  have ckO_2 := kO.bx 2 _ rfl
  obtain ⟨z, q, HZ⟩ : ∃ z q, Hid (applyObs b2 ⟨om, oc, ox⟩ = (z, q)) := ⟨_, _, rfl⟩
  go_wp2_with fail
  have C := iApplyObservation_c _ b2 _ ⟨om, oc, ox⟩ _ rB rO
  rw [HZ.out] at C
  refine C.mono ?_
  clear C hnn
  rintro e w18 ⟨cs, fp, rfl, oZ, frZ, hb18⟩
  obtain ⟨A5, n5, c5, A6, n6, c6, f3, f4, rfl, rfl, _, _⟩ := rBox_own.1 oZ
  have rZ := (rBox_ok NB).toRep oZ
  clear oZ frZ
  replace hB := hB.trans (hb18.mono hB.size)
  replace rB := (rBox_ok NB).keep rB (cells_below hb18)
  replace rK := rK.below rInt_ok hb18
  replace kB := kB.below hb18
  replace rJ := rJ.below rInt_ok hb18
  replace kO := kO.below hb18
  replace rO := (rObservation_ok NB).keep rO (cells_below hb18)
  clear hb18 ckB_0 ckB_1 ckO_0 ckO_1 ckO_2
  obtain ⟨w19, hw19⟩ : ∃ W, W = w18.alloc (.cells #[.slice A5 n5 c5, .slice A6 n6 c6] 26) := ⟨_, rfl⟩
  have hb_w19 : Below w18.heap.size w18 w19 := by rw [hw19]; exact (Below.refl w18.heap.size w18).alloc (Nat.le_refl _) _
  replace hB := hB.trans (hb_w19.mono hB.size)
  replace rB := (rBox_ok NB).keep rB (cells_below hb_w19)
  replace rK := rK.below rInt_ok hb_w19
  replace kB := kB.below hb_w19
  replace rJ := rJ.below rInt_ok hb_w19
  replace kO := kO.below hb_w19
  replace rO := (rObservation_ok NB).keep rO (cells_below hb_w19)
  replace rZ := (rBox_ok NB).keep rZ (cells_below hb_w19)
  clear hb_w19
  have kZ : Bk w19 w18.heap.size 26 [.slice A5 n5 c5, .slice A6 n6 c6] := by rw [hw19]; exact Bk.new w18 _ _
  go_upto_region 15 with fail
  rw [← hw19]
  clear hw19
  cases q
  ·have ckB_0 := kB.bx 0 _ rfl
   have ckB_1 := kB.bx 1 _ rfl
   have ckZ_0 := kZ.bx 0 _ rfl
   have ckZ_1 := kZ.bx 1 _ rfl
   have hz : z = b2 := by have := applyObs_no (b := b2) (o := ⟨om, oc, ox⟩) (by rw [HZ.out]); rw [HZ.out] at this; exact this
   subst hz
   go_wp2_with fail
   refine (iEqualBoxes_c _ _ z z _ rZ rB).mono ?_
   rintro e w20 ⟨rfl, hb20⟩
   replace hB := hB.trans (hb20.mono hB.size)
   replace rB := (rBox_ok NB).keep rB (cells_below hb20)
   replace rK := rK.below rInt_ok hb20
   replace kB := kB.below hb20
   replace rJ := rJ.below rInt_ok hb20
   replace kO := kO.below hb20
   replace rO := (rObservation_ok NB).keep rO (cells_below hb20)
   replace rZ := (rBox_ok NB).keep rZ (cells_below hb20)
   replace kZ := kZ.below hb20
   clear hb20 ckB_0 ckB_1 ckZ_0 ckZ_1
   have hdd : decide (z = z) = true := by simp
   go_wp2
   go_ret
   exact ⟨rfl, hB⟩
  ·have ckB_0 := kB.bx 0 _ rfl
   have ckB_1 := kB.bx 1 _ rfl
   go_wp2_with fail
   refine (sIsInBox_c _ b2 _ _ _ loc _ rB rK).mono ?_
   rintro e w20 ⟨rfl, hb20⟩
   replace hB := hB.trans (hb20.mono hB.size)
   replace rB := (rBox_ok NB).keep rB (cells_below hb20)
   replace rK := rK.below rInt_ok hb20
   replace kB := kB.below hb20
   replace rJ := rJ.below rInt_ok hb20
   replace kO := kO.below hb20
   replace rO := (rObservation_ok NB).keep rO (cells_below hb20)
   replace rZ := (rBox_ok NB).keep rZ (cells_below hb20)
   replace kZ := kZ.below hb20
   clear hb20 ckB_0 ckB_1
   cases hi : inBox b2 loc
   ·go_wp2
    go_ret
    exact ⟨rfl, hB⟩
   ·have HI := Lib.hid hi; clear hi
    have ckO_0 := kO.bx 0 _ rfl
    have ckO_1 := kO.bx 1 _ rfl
    have ckO_2 := kO.bx 2 _ rfl
    go_wp2_with fail
    refine (sObservationHolds_c _ ⟨om, oc, ox⟩ _ _ _ loc _ rO rK).mono ?_
    rintro e w21 ⟨rfl, hb21⟩
    replace hB := hB.trans (hb21.mono hB.size)
    replace rB := (rBox_ok NB).keep rB (cells_below hb21)
    replace rK := rK.below rInt_ok hb21
    replace kB := kB.below hb21
    replace rJ := rJ.below rInt_ok hb21
    replace kO := kO.below hb21
    replace rO := (rObservation_ok NB).keep rO (cells_below hb21)
    replace rZ := (rBox_ok NB).keep rZ (cells_below hb21)
    replace kZ := kZ.below hb21
    clear hb21 ckO_0 ckO_1 ckO_2
    cases ho : obsHolds ⟨om, oc, ox⟩ loc
    ·go_wp2
     go_ret
     exact ⟨rfl, hB⟩
    ·have hz := applyObs_in (b := b2) (x := ⟨om, oc, ox⟩) (l := loc) (by rw [HZ.out]) HI.out ho
     rw [HZ.out] at hz
     have ckZ_0 := kZ.bx 0 _ rfl
     have ckZ_1 := kZ.bx 1 _ rfl
     have HO := Lib.hid hz; clear hz ho
     go_wp2_with fail
     have C := iIsInBox_c _ z _ _ _ loc _ rZ rK
     rw [HO.out] at C
     refine C.mono ?_
     rintro e w22 ⟨rfl, hb22⟩
     replace hB := hB.trans (hb22.mono hB.size)
     replace rB := (rBox_ok NB).keep rB (cells_below hb22)
     replace rK := rK.below rInt_ok hb22
     replace kB := kB.below hb22
     replace rJ := rJ.below rInt_ok hb22
     replace kO := kO.below hb22
     replace rO := (rObservation_ok NB).keep rO (cells_below hb22)
     replace rZ := (rBox_ok NB).keep rZ (cells_below hb22)
     replace kZ := kZ.below hb22
     clear hb22 ckZ_0 ckZ_1
     go_wp2
     go_ret
     exact ⟨rfl, hB⟩

set_option maxRecDepth 100000 in
theorem lifted (os : Os) (started : os.Started) (H : Type) (enc : TypeId × Value → H) :
  ReturnsInHanded {} Try.checked os 3 .any (Rows.fnLearningSpec.pre6 enc Try.prog Try.f3 Rows.fnLearningRow.domain false) (Rows.fnLearningSpec.post enc Try.prog Try.f3 false true false false) := by
 refine returnsInHanded_of_change (C := Try.checked) own started (by kernel_rfl) Try.func3
  (ChangeSpec.witness6 (enc := enc) (C := Try.checked) false ⟨#[], #[.slice none 0 0], []⟩ 8 (by kernel_rfl) (by kernel_rfl) (by kernel_rfl) (by kernel_rfl)) ?_
 intro W base args ds gs before hval0 hW hcnd _
 have hval : ∀ (j : Nat) t v, Try.f3.params[j]? = some t → args[j]? = some v → Value.okWide Try.prog W .any base t v := hval0
 have hW' := hW
 obtain ⟨p, q, hA0, hV, rfl, hfz, hnd⟩ := hW
 have hA : DataW.TrodAll enc Try.prog W 0 (fun _ => true) true Try.f3.params.toList args.toList ds p := hA0
 rw [Try.params3] at hA hval
 obtain ⟨v0, vs0, d0, ds0, p0, q0, hargs, rfl, rfl, h0, r0⟩ := trodAll_cons hA
 obtain ⟨rfl, rfl, rfl⟩ := trodAll_nil r0
 obtain rfl : args = #[v0] := by cases args; simp_all
 obtain ⟨rfl, rfl⟩ := trodVars_none hV
 obtain ⟨A0, n0, c0, rfl⟩ := okWide_slice Try.underlying22 (hval 0 22 v0 rfl rfl)
 have k0 := h0
 have lt0 : ∀ x ∈ p0, x.block < W.heap.size := by obtain ⟨m, hm⟩ := k0; exact DataW.trod_lt m _ _ _ hm
 obtain ⟨l0, g0⟩ : ∃ l, RS maxLen rByte W A0 n0 c0 l := by
  obtain ⟨fuel, hf⟩ := h0
  obtain ⟨l, A, n, c, e, hr⟩ := (opens_slice rByte_ok Try.underlying22 (by kernel_rfl) (opens_byte Try.underlying5)) hf
  simp [Value.cells] at e
  obtain ⟨rfl, rfl, rfl⟩ := e
  exact ⟨l, hr⟩
 clear hA0 hval0
 refine (walk A0 n0 c0 l0 W g0).mono fun e W' ⟨he, bel⟩ => ?_
 subst he
 exact ⟨_, rfl, _, _, _, [], _, [], hW', trodAll_mk1 (shut_bool Try.underlying4 _), (trodAll_cons_mk (Below.trod laidOut (by kernel_rfl) (of_decide_eq_true (by kernel_rfl)) k0 bel lt0) trodAll_mk0), rfl, bel.frame _, fun h => by cases h⟩

theorem over : Rows.fnLearningRow.holds Try.pinned (OpenSpec.ofChange Rows.fnLearningSpec) :=
 OpenClaim.holds_of_wide 3 Try.f3 rfl rfl rfl rfl rfl rfl rfl ⟨rfl, rfl, rfl, rfl, rfl⟩ rfl rfl rfl rfl rfl (by kernel_rfl) Try.func3 (by kernel_rfl)
  (of_decide_eq_true (by kernel_rfl)) (by unfold Func.isWrapper; first | (rw [if_pos (by decide +kernel)]; kernel_rfl) | (rw [if_neg (by decide +kernel)]; exact ⟨rfl, rfl⟩))
  (fun os started H enc _ => lifted os started H enc)

theorem proved : Rows.FnLearningSaid := over
#print axioms proved
end Go.Proofs.Ytkdajdafhjobbaa.fnLearning
