/-
  FnJoins
-/
import Derived.Test.YtceeggmfedpdkaaRows
import Derived.Test.YtceeggmfedpdkaaKeep
import Derived.Test.YtceeggmfedpdkaaDmj
import Derived.Test.YtceeggmfedpdkaaJlw
import Derived.Test.YtceeggmfedpdkaaSta
import Derived.Test.YtceeggmfedpdkaaEst
import Derived.Test.YtceeggmfedpdkaaMrj
import Derived.Test.YtceeggmfedpdkaaJnU
import Derived.Test.YtceeggmfedpdkaaJoin
import Derived.Test.YtceeggmfedpdkaaMrg
import Derived.Test.YtceeggmfedpdkaaAns
import Derived.Test.YtceeggmfedpdkaaStr
import Derived.Test.YtceeggmfedpdkaaOpens
import Derived.WalkKit
import Derived.ProofKit
import Derived.OpenShut
import Derived.ChangeOld
import Derived.Below
import Derived.Deep.RegionHeld3
namespace Go.Proofs.Ytceeggmfedpdkaa.fnJoins
open Go.ChangeShapes Go.WideShapes Go.ChangeAt Go.RowKit
set_option linter.unusedVariables false
set_option linter.unusedSimpArgs false

theorem own : ownKnob Try.prog.godebug = none := by kernel_rfl
theorem laidOut : laidOutB Try.prog = true := by kernel_rfl
theorem opens_byte {P : Program} {t : TypeId} (ht : P.underlying t = some (.int .u8)) : Opens P t rByte := by
 intro H enc w base spare held fuel cs x h
 obtain ⟨n, rfl, _, hw⟩ := DataW.trod_int ht h
 exact ⟨n, rfl, bounds_u8 hw⟩
theorem big_c (A : Option Addr) (n cap : Nat) (w : World) : Calls Try.prog 5 #[.slice A n cap] w fun e w' => e = .returned (.bool (decide (1048576 < n))) ∧ w = w' := by
 by_cases h : (1048576 : Int) < n
 ·go_enter Try.func5, Try.ntmps5
  go_wp2
  go_ret
  exact ⟨ret_bool (by simp; omega), rfl⟩
 ·go_enter Try.func5, Try.ntmps5
  go_wp2
  go_ret
  exact ⟨ret_bool (by simp; omega), rfl⟩

set_option maxRecDepth 100000 in
set_option maxHeartbeats 4000000 in
theorem walk (A : Option Addr) (n cap : Nat) (l : List Int) (w : World) (r0 : RS maxLen rByte w A n cap l) :
  Calls Try.prog 4 #[.slice A n cap] w fun e w' => e = .returned (.bool true) ∧ Below w.heap.size w w' := by
 by_cases hsz : n ≤ 1048576
 rotate_left
 ·have hd : decide (1048576 < n) = true := by simp; omega
  go_enter Try.func4, Try.ntmps4
  go_wp2_with (go_at_call 5; refine (big_c _ _ _ _).mono ?_; rintro e w' ⟨rfl, rfl⟩)
  go_ret
  exact ⟨rfl, Below.refl _ _⟩
 have hd : decide (1048576 < n) = false := by simp; omega
 have hr := smallB r0 hsz
 clear r0
 go_enter Try.func4, Try.ntmps4
 go_wp2_with (go_at_call 5; refine (big_c _ _ _ _).mono ?_; rintro e w' ⟨rfl, rfl⟩)
 clear hd
 refine (drawMergeJoin_c _ _ _ _ _ hr).mono ?_
 rintro e w1 ⟨a, b, v, A1, n1, c1, A2, n2, c2, A3, n3, c3, A4, n4, c4, rfl, rA, rB, hB⟩
 clear hr
 obtain ⟨w2, hw2⟩ : ∃ W, W = w1.alloc (.cells #[.slice A1 n1 c1, .slice A2 n2 c2] 40) := ⟨_, rfl⟩
 have hb_w2 : Below w1.heap.size w1 w2 := by rw [hw2]; exact (Below.refl w1.heap.size w1).alloc (Nat.le_refl _) _
 replace hB := hB.trans (hb_w2.mono hB.size)
 replace rA := (rStream_ok NB).keep rA (cells_below hb_w2)
 replace rB := (rStream_ok NB).keep rB (cells_below hb_w2)
 clear hb_w2
 have kA : Bk w2 w1.heap.size 40 [.slice A1 n1 c1, .slice A2 n2 c2] := by rw [hw2]; exact Bk.new w1 _ _
 obtain ⟨w3, hw3⟩ : ∃ W, W = w2.alloc (.cells #[.slice A3 n3 c3, .slice A4 n4 c4] 40) := ⟨_, rfl⟩
 have hb_w3 : Below w2.heap.size w2 w3 := by rw [hw3]; exact (Below.refl w2.heap.size w2).alloc (Nat.le_refl _) _
 replace hB := hB.trans (hb_w3.mono hB.size)
 replace rA := (rStream_ok NB).keep rA (cells_below hb_w3)
 replace rB := (rStream_ok NB).keep rB (cells_below hb_w3)
 replace kA := kA.below hb_w3
 clear hb_w3
 have kB : Bk w3 w2.heap.size 40 [.slice A3 n3 c3, .slice A4 n4 c4] := by rw [hw3]; exact Bk.new w2 _ _
 have hs2 : w2.heap.size = w1.heap.size + 1 := by rw [hw2]; simp
 rw [hs2] at kB
 go_upto_region 4 with fail
 rw [← hw2, ← hw3]
 clear hw2 hw3 hs2
 have ckA_0 := kA.bx 0 _ rfl
 have ckA_1 := kA.bx 1 _ rfl
 have ckB_0 := kB.bx 0 _ rfl
 have ckB_1 := kB.bx 1 _ rfl
 obtain ⟨x, q, HX⟩ : ∃ x q, Hid (hashJoin a b = (x, q)) := ⟨_, _, rfl⟩
 have HN : Hid ((nestedJoin a b).2 = q) := by show _ = _; rw [← hash_nested_ok, HX.out]
 go_wp2_with fail
 have C := iHashJoin_c _ a _ b _ rA rB
 rw [HX.out] at C
 refine C.mono ?_
 clear C
 rintro e w4 ⟨cs, fp, rfl, oX, frX, hb4⟩
 obtain ⟨A5, n5, c5, A6, n6, c6, f5, f6, rfl, rfl, _, _⟩ := rStream_own.1 oX
 have rX := (rStream_ok NB).toRep oX
 clear oX frX
 replace hB := hB.trans (hb4.mono hB.size)
 replace rA := (rStream_ok NB).keep rA (cells_below hb4)
 replace rB := (rStream_ok NB).keep rB (cells_below hb4)
 replace kA := kA.below hb4
 replace kB := kB.below hb4
 clear hb4 ckA_0 ckA_1 ckB_0 ckB_1
 obtain ⟨w5, hw5⟩ : ∃ W, W = w4.alloc (.cells #[.slice A5 n5 c5, .slice A6 n6 c6] 40) := ⟨_, rfl⟩
 have hb_w5 : Below w4.heap.size w4 w5 := by rw [hw5]; exact (Below.refl w4.heap.size w4).alloc (Nat.le_refl _) _
 replace hB := hB.trans (hb_w5.mono hB.size)
 replace rA := (rStream_ok NB).keep rA (cells_below hb_w5)
 replace rB := (rStream_ok NB).keep rB (cells_below hb_w5)
 replace kA := kA.below hb_w5
 replace kB := kB.below hb_w5
 replace rX := (rStream_ok NB).keep rX (cells_below hb_w5)
 clear hb_w5
 have kX : Bk w5 w4.heap.size 40 [.slice A5 n5 c5, .slice A6 n6 c6] := by rw [hw5]; exact Bk.new w4 _ _
 go_upto_region 5 with fail
 rw [← hw5]
 clear hw5
 have ckA_0 := kA.bx 0 _ rfl
 have ckA_1 := kA.bx 1 _ rfl
 have ckB_0 := kB.bx 0 _ rfl
 have ckB_1 := kB.bx 1 _ rfl
 obtain ⟨y, HY⟩ : ∃ y, Hid (nestedJoin a b = (y, q)) := ⟨_, Prod.ext rfl HN.out⟩
 go_wp2_with fail
 have C := iNestedJoin_c _ a _ b _ rA rB
 rw [HY.out] at C
 refine C.mono ?_
 clear C
 rintro e w6 ⟨cs, fp, rfl, oY, frY, hb6⟩
 obtain ⟨A7, n7, c7, A8, n8, c8, f5, f6, rfl, rfl, _, _⟩ := rStream_own.1 oY
 have rY := (rStream_ok NB).toRep oY
 clear oY frY
 replace hB := hB.trans (hb6.mono hB.size)
 replace rA := (rStream_ok NB).keep rA (cells_below hb6)
 replace rB := (rStream_ok NB).keep rB (cells_below hb6)
 replace kA := kA.below hb6
 replace kB := kB.below hb6
 replace rX := (rStream_ok NB).keep rX (cells_below hb6)
 replace kX := kX.below hb6
 clear hb6 ckA_0 ckA_1 ckB_0 ckB_1
 obtain ⟨w7, hw7⟩ : ∃ W, W = w6.alloc (.cells #[.slice A7 n7 c7, .slice A8 n8 c8] 40) := ⟨_, rfl⟩
 have hb_w7 : Below w6.heap.size w6 w7 := by rw [hw7]; exact (Below.refl w6.heap.size w6).alloc (Nat.le_refl _) _
 replace hB := hB.trans (hb_w7.mono hB.size)
 replace rA := (rStream_ok NB).keep rA (cells_below hb_w7)
 replace rB := (rStream_ok NB).keep rB (cells_below hb_w7)
 replace kA := kA.below hb_w7
 replace kB := kB.below hb_w7
 replace rX := (rStream_ok NB).keep rX (cells_below hb_w7)
 replace kX := kX.below hb_w7
 replace rY := (rStream_ok NB).keep rY (cells_below hb_w7)
 clear hb_w7
 have kY : Bk w7 w6.heap.size 40 [.slice A7 n7 c7, .slice A8 n8 c8] := by rw [hw7]; exact Bk.new w6 _ _
 go_upto_region 6 with fail
 rw [← hw7]
 clear hw7
 have ckA_0 := kA.bx 0 _ rfl
 have ckA_1 := kA.bx 1 _ rfl
 have ckB_0 := kB.bx 0 _ rfl
 have ckB_1 := kB.bx 1 _ rfl
 obtain ⟨z, p, HZ⟩ : ∃ z p, Hid (mergeJoin a b v = (z, p)) := ⟨_, _, rfl⟩
 go_wp2_with fail
 have C := iMergeJoin_c _ a _ b v _ rA rB
 rw [HZ.out] at C
 refine C.mono ?_
 clear C
 rintro e w8 ⟨cs, fp, rfl, oZ, frZ, hb8⟩
 obtain ⟨A9, n9, c9, B1, p1, d1, f5, f6, rfl, rfl, _, _⟩ := rStream_own.1 oZ
 have rZ := (rStream_ok NB).toRep oZ
 clear oZ frZ
 replace hB := hB.trans (hb8.mono hB.size)
 replace rA := (rStream_ok NB).keep rA (cells_below hb8)
 replace rB := (rStream_ok NB).keep rB (cells_below hb8)
 replace kA := kA.below hb8
 replace kB := kB.below hb8
 replace rX := (rStream_ok NB).keep rX (cells_below hb8)
 replace kX := kX.below hb8
 replace rY := (rStream_ok NB).keep rY (cells_below hb8)
 replace kY := kY.below hb8
 clear hb8 ckA_0 ckA_1 ckB_0 ckB_1
 obtain ⟨w9, hw9⟩ : ∃ W, W = w8.alloc (.cells #[.slice A9 n9 c9, .slice B1 p1 d1] 40) := ⟨_, rfl⟩
 have hb_w9 : Below w8.heap.size w8 w9 := by rw [hw9]; exact (Below.refl w8.heap.size w8).alloc (Nat.le_refl _) _
 replace hB := hB.trans (hb_w9.mono hB.size)
 replace rA := (rStream_ok NB).keep rA (cells_below hb_w9)
 replace rB := (rStream_ok NB).keep rB (cells_below hb_w9)
 replace kA := kA.below hb_w9
 replace kB := kB.below hb_w9
 replace rX := (rStream_ok NB).keep rX (cells_below hb_w9)
 replace kX := kX.below hb_w9
 replace rY := (rStream_ok NB).keep rY (cells_below hb_w9)
 replace kY := kY.below hb_w9
 replace rZ := (rStream_ok NB).keep rZ (cells_below hb_w9)
 clear hb_w9
 have kZ : Bk w9 w8.heap.size 40 [.slice A9 n9 c9, .slice B1 p1 d1] := by rw [hw9]; exact Bk.new w8 _ _
 go_upto_region 7 with fail
 rw [← hw9]
 clear hw9
 have ckA_0 := kA.bx 0 _ rfl
 have ckA_1 := kA.bx 1 _ rfl
 have ckB_0 := kB.bx 0 _ rfl
 have ckB_1 := kB.bx 1 _ rfl
 go_wp2_with fail
 have C := sHashJoin_c _ a _ b _ rA rB
 rw [HX.out] at C
 refine C.mono ?_
 clear C
 rintro e w10 ⟨cs, fp, rfl, oU, frU, hb10⟩
 obtain ⟨B2, p2, d2, B3, p3, d3, f5, f6, rfl, rfl, _, _⟩ := rStream_own.1 oU
 have rU := (rStream_ok NB).toRep oU
 clear oU frU
 replace hB := hB.trans (hb10.mono hB.size)
 replace rA := (rStream_ok NB).keep rA (cells_below hb10)
 replace rB := (rStream_ok NB).keep rB (cells_below hb10)
 replace kA := kA.below hb10
 replace kB := kB.below hb10
 replace rX := (rStream_ok NB).keep rX (cells_below hb10)
 replace kX := kX.below hb10
 replace rY := (rStream_ok NB).keep rY (cells_below hb10)
 replace kY := kY.below hb10
 replace rZ := (rStream_ok NB).keep rZ (cells_below hb10)
 replace kZ := kZ.below hb10
 clear hb10 ckA_0 ckA_1 ckB_0 ckB_1
 obtain ⟨w11, hw11⟩ : ∃ W, W = w10.alloc (.cells #[.slice B2 p2 d2, .slice B3 p3 d3] 40) := ⟨_, rfl⟩
 have hb_w11 : Below w10.heap.size w10 w11 := by rw [hw11]; exact (Below.refl w10.heap.size w10).alloc (Nat.le_refl _) _
 replace hB := hB.trans (hb_w11.mono hB.size)
 replace rA := (rStream_ok NB).keep rA (cells_below hb_w11)
 replace rB := (rStream_ok NB).keep rB (cells_below hb_w11)
 replace kA := kA.below hb_w11
 replace kB := kB.below hb_w11
 replace rX := (rStream_ok NB).keep rX (cells_below hb_w11)
 replace kX := kX.below hb_w11
 replace rY := (rStream_ok NB).keep rY (cells_below hb_w11)
 replace kY := kY.below hb_w11
 replace rZ := (rStream_ok NB).keep rZ (cells_below hb_w11)
 replace kZ := kZ.below hb_w11
 replace rU := (rStream_ok NB).keep rU (cells_below hb_w11)
 clear hb_w11
 have kU : Bk w11 w10.heap.size 40 [.slice B2 p2 d2, .slice B3 p3 d3] := by rw [hw11]; exact Bk.new w10 _ _
 go_upto_region 8 with fail
 rw [← hw11]
 clear hw11
 have ckA_0 := kA.bx 0 _ rfl
 have ckA_1 := kA.bx 1 _ rfl
 have ckB_0 := kB.bx 0 _ rfl
 have ckB_1 := kB.bx 1 _ rfl
 go_wp2_with fail
 have C := sMergeJoin_c _ a _ b v _ rA rB
 rw [HZ.out] at C
 refine C.mono ?_
 clear C
 rintro e w12 ⟨cs, fp, rfl, oV, frV, hb12⟩
 obtain ⟨B4, p4, d4, B5, p5, d5, f5, f6, rfl, rfl, _, _⟩ := rStream_own.1 oV
 clear oV frV
 replace hB := hB.trans (hb12.mono hB.size)
 replace rA := (rStream_ok NB).keep rA (cells_below hb12)
 replace rB := (rStream_ok NB).keep rB (cells_below hb12)
 replace kA := kA.below hb12
 replace kB := kB.below hb12
 replace rX := (rStream_ok NB).keep rX (cells_below hb12)
 replace kX := kX.below hb12
 replace rY := (rStream_ok NB).keep rY (cells_below hb12)
 replace kY := kY.below hb12
 replace rZ := (rStream_ok NB).keep rZ (cells_below hb12)
 replace kZ := kZ.below hb12
 replace rU := (rStream_ok NB).keep rU (cells_below hb12)
 replace kU := kU.below hb12
 clear hb12 ckA_0 ckA_1 ckB_0 ckB_1
 obtain ⟨wv, hwv⟩ : ∃ W, W = w12.alloc (.cells #[.slice B4 p4 d4, .slice B5 p5 d5] 40) := ⟨_, rfl⟩
 have hb_wv : Below w12.heap.size w12 wv := by rw [hwv]; exact (Below.refl w12.heap.size w12).alloc (Nat.le_refl _) _
 replace hB := hB.trans (hb_wv.mono hB.size)
 replace rA := (rStream_ok NB).keep rA (cells_below hb_wv)
 replace rB := (rStream_ok NB).keep rB (cells_below hb_wv)
 replace kA := kA.below hb_wv
 replace kB := kB.below hb_wv
 replace rX := (rStream_ok NB).keep rX (cells_below hb_wv)
 replace kX := kX.below hb_wv
 replace rY := (rStream_ok NB).keep rY (cells_below hb_wv)
 replace kY := kY.below hb_wv
 replace rZ := (rStream_ok NB).keep rZ (cells_below hb_wv)
 replace kZ := kZ.below hb_wv
 replace rU := (rStream_ok NB).keep rU (cells_below hb_wv)
 replace kU := kU.below hb_wv
 clear hb_wv
 have kV : Bk wv w12.heap.size 40 [.slice B4 p4 d4, .slice B5 p5 d5] := by rw [hwv]; exact Bk.new w12 _ _
 go_upto_region 9 with fail
 rw [← hwv]
 clear hwv kV
 have hqq : (q != q) = false := by simp
 have hpp : (p != p) = false := by simp
 cases q
 ·have hx : x = ⟨[], []⟩ := by have := hash_no (a := a) (b := b) (by rw [HX.out]); rw [HX.out] at this; exact this
  subst hx
  have ckX_0 := kX.bx 0 _ rfl
  have ckX_1 := kX.bx 1 _ rfl
  have hl : n6 = 0 := by obtain ⟨_, _, _, _, _, _, ee, _, r2⟩ := rStream_rep.1 rX; injection ee with _ ee; injection ee with ee _; injection ee with _ e2 _; subst e2; exact r2.len.symm
  subst hl
  go_wp2
  go_ret
  exact ⟨rfl, hB⟩
 ·have ckX_0 := kX.bx 0 _ rfl
  have ckX_1 := kX.bx 1 _ rfl
  have ckU_0 := kU.bx 0 _ rfl
  have ckU_1 := kU.bx 1 _ rfl
  go_wp2_with fail
  refine (iEqualStreams_c _ _ x x _ rX rU).mono ?_
  rintro e w13 ⟨rfl, hb13⟩
  replace hB := hB.trans (hb13.mono hB.size)
  replace rA := (rStream_ok NB).keep rA (cells_below hb13)
  replace rB := (rStream_ok NB).keep rB (cells_below hb13)
  replace kA := kA.below hb13
  replace kB := kB.below hb13
  replace rX := (rStream_ok NB).keep rX (cells_below hb13)
  replace kX := kX.below hb13
  replace rY := (rStream_ok NB).keep rY (cells_below hb13)
  replace kY := kY.below hb13
  replace rZ := (rStream_ok NB).keep rZ (cells_below hb13)
  replace kZ := kZ.below hb13
  replace rU := (rStream_ok NB).keep rU (cells_below hb13)
  replace kU := kU.below hb13
  clear hb13 ckX_0 ckX_1 ckU_0 ckU_1
  clear rU kU
  have hdd : decide (x = x) = true := by simp
  have ckX_0 := kX.bx 0 _ rfl
  have ckX_1 := kX.bx 1 _ rfl
  have HA : Hid (streamAnswer x = streamAnswer y) := by
   show _ = _
   have := hash_answer (a := a) (b := b) (by rw [HX.out])
   rw [HX.out, HY.out] at this; exact this
  go_wp2_with fail
  refine (iStreamAnswer_c _ x _ rX).mono ?_
  rintro e w14 ⟨cs, fp, rfl, oR, frR, hb14⟩
  obtain ⟨B4, p4, d4, B5, p5, d5, f5, f6, rfl, rfl, _, _⟩ := rAnswer_own.1 oR
  have rR := (rAnswer_ok NB).toRep oR
  clear oR frR hdd
  replace hB := hB.trans (hb14.mono hB.size)
  replace rA := (rStream_ok NB).keep rA (cells_below hb14)
  replace rB := (rStream_ok NB).keep rB (cells_below hb14)
  replace kA := kA.below hb14
  replace kB := kB.below hb14
  replace rX := (rStream_ok NB).keep rX (cells_below hb14)
  replace kX := kX.below hb14
  replace rY := (rStream_ok NB).keep rY (cells_below hb14)
  replace kY := kY.below hb14
  replace rZ := (rStream_ok NB).keep rZ (cells_below hb14)
  replace kZ := kZ.below hb14
  clear hb14 ckX_0 ckX_1
  obtain ⟨w15, hw15⟩ : ∃ W, W = w14.alloc (.cells #[.slice B4 p4 d4, .slice B5 p5 d5] 47) := ⟨_, rfl⟩
  have hb_w15 : Below w14.heap.size w14 w15 := by rw [hw15]; exact (Below.refl w14.heap.size w14).alloc (Nat.le_refl _) _
  replace hB := hB.trans (hb_w15.mono hB.size)
  replace rA := (rStream_ok NB).keep rA (cells_below hb_w15)
  replace rB := (rStream_ok NB).keep rB (cells_below hb_w15)
  replace kA := kA.below hb_w15
  replace kB := kB.below hb_w15
  replace rX := (rStream_ok NB).keep rX (cells_below hb_w15)
  replace kX := kX.below hb_w15
  replace rY := (rStream_ok NB).keep rY (cells_below hb_w15)
  replace kY := kY.below hb_w15
  replace rZ := (rStream_ok NB).keep rZ (cells_below hb_w15)
  replace kZ := kZ.below hb_w15
  replace rR := (rAnswer_ok NB).keep rR (cells_below hb_w15)
  clear hb_w15
  have kR : Bk w15 w14.heap.size 47 [.slice B4 p4 d4, .slice B5 p5 d5] := by rw [hw15]; exact Bk.new w14 _ _
  go_upto_region 14 with fail
  rw [← hw15]
  clear hw15
  have ckY_0 := kY.bx 0 _ rfl
  have ckY_1 := kY.bx 1 _ rfl
  go_wp2_with fail
  have C := iStreamAnswer_c _ y _ rY
  rw [← HA.out] at C
  refine C.mono ?_
  clear C
  rintro e w16 ⟨cs, fp, rfl, oT, frT, hb16⟩
  obtain ⟨B6, p6, d6, B7, p7, d7, f5, f6, rfl, rfl, _, _⟩ := rAnswer_own.1 oT
  have rT := (rAnswer_ok NB).toRep oT
  clear oT frT
  replace hB := hB.trans (hb16.mono hB.size)
  replace rA := (rStream_ok NB).keep rA (cells_below hb16)
  replace rB := (rStream_ok NB).keep rB (cells_below hb16)
  replace kA := kA.below hb16
  replace kB := kB.below hb16
  replace rX := (rStream_ok NB).keep rX (cells_below hb16)
  replace kX := kX.below hb16
  replace rY := (rStream_ok NB).keep rY (cells_below hb16)
  replace kY := kY.below hb16
  replace rZ := (rStream_ok NB).keep rZ (cells_below hb16)
  replace kZ := kZ.below hb16
  replace rR := (rAnswer_ok NB).keep rR (cells_below hb16)
  replace kR := kR.below hb16
  clear hb16 ckY_0 ckY_1
  obtain ⟨w17, hw17⟩ : ∃ W, W = w16.alloc (.cells #[.slice B6 p6 d6, .slice B7 p7 d7] 47) := ⟨_, rfl⟩
  have hb_w17 : Below w16.heap.size w16 w17 := by rw [hw17]; exact (Below.refl w16.heap.size w16).alloc (Nat.le_refl _) _
  replace hB := hB.trans (hb_w17.mono hB.size)
  replace rA := (rStream_ok NB).keep rA (cells_below hb_w17)
  replace rB := (rStream_ok NB).keep rB (cells_below hb_w17)
  replace kA := kA.below hb_w17
  replace kB := kB.below hb_w17
  replace rX := (rStream_ok NB).keep rX (cells_below hb_w17)
  replace kX := kX.below hb_w17
  replace rY := (rStream_ok NB).keep rY (cells_below hb_w17)
  replace kY := kY.below hb_w17
  replace rZ := (rStream_ok NB).keep rZ (cells_below hb_w17)
  replace kZ := kZ.below hb_w17
  replace rR := (rAnswer_ok NB).keep rR (cells_below hb_w17)
  replace kR := kR.below hb_w17
  replace rT := (rAnswer_ok NB).keep rT (cells_below hb_w17)
  clear hb_w17
  have kT : Bk w17 w16.heap.size 47 [.slice B6 p6 d6, .slice B7 p7 d7] := by rw [hw17]; exact Bk.new w16 _ _
  go_upto_region 15 with fail
  rw [← hw17]
  clear hw17
  have ckR_0 := kR.bx 0 _ rfl
  have ckR_1 := kR.bx 1 _ rfl
  have ckT_0 := kT.bx 0 _ rfl
  have ckT_1 := kT.bx 1 _ rfl
  go_wp2_with fail
  refine (sEqualAnswers_c _ _ _ _ _ rR rT).mono ?_
  rintro e w18 ⟨rfl, hb18⟩
  replace hB := hB.trans (hb18.mono hB.size)
  replace rA := (rStream_ok NB).keep rA (cells_below hb18)
  replace rB := (rStream_ok NB).keep rB (cells_below hb18)
  replace kA := kA.below hb18
  replace kB := kB.below hb18
  replace rX := (rStream_ok NB).keep rX (cells_below hb18)
  replace kX := kX.below hb18
  replace rY := (rStream_ok NB).keep rY (cells_below hb18)
  replace kY := kY.below hb18
  replace rZ := (rStream_ok NB).keep rZ (cells_below hb18)
  replace kZ := kZ.below hb18
  replace rR := (rAnswer_ok NB).keep rR (cells_below hb18)
  replace kR := kR.below hb18
  replace rT := (rAnswer_ok NB).keep rT (cells_below hb18)
  replace kT := kT.below hb18
  clear hb18 ckR_0 ckR_1 ckT_0 ckT_1
  clear rT kT
  have hdd : decide ((streamAnswer x).1 = (streamAnswer x).1) = true := by simp
  have ckA_0 := kA.bx 0 _ rfl
  have ckA_1 := kA.bx 1 _ rfl
  go_wp2_with fail
  refine (iIsSortedStream_c _ a v _ rA).mono ?_
  rintro e w19 ⟨rfl, hb19⟩
  replace hB := hB.trans (hb19.mono hB.size)
  replace rA := (rStream_ok NB).keep rA (cells_below hb19)
  replace rB := (rStream_ok NB).keep rB (cells_below hb19)
  replace kA := kA.below hb19
  replace kB := kB.below hb19
  replace rX := (rStream_ok NB).keep rX (cells_below hb19)
  replace kX := kX.below hb19
  replace rY := (rStream_ok NB).keep rY (cells_below hb19)
  replace kY := kY.below hb19
  replace rZ := (rStream_ok NB).keep rZ (cells_below hb19)
  replace kZ := kZ.below hb19
  replace rR := (rAnswer_ok NB).keep rR (cells_below hb19)
  replace kR := kR.below hb19
  clear hb19 ckA_0 ckA_1
  clear hdd
  cases hs : isSorted a v
  focus
   go_upto_region 17 with fail
   rename World => wr
  rotate_left
  focus
   have hy : isSorted y v = true := by have := nested_sorted (a := a) (b := b) (v := v) (by rw [HX.out]) hs; rw [HY.out] at this; exact this
   have ckY_0 := kY.bx 0 _ rfl
   have ckY_1 := kY.bx 1 _ rfl
   go_wp2_with fail
   have C := iIsSortedStream_c _ y v _ rY
   rw [hy] at C
   refine C.mono ?_
   clear C
   rintro e w20 ⟨rfl, hb20⟩
   replace hB := hB.trans (hb20.mono hB.size)
   replace rA := (rStream_ok NB).keep rA (cells_below hb20)
   replace rB := (rStream_ok NB).keep rB (cells_below hb20)
   replace kA := kA.below hb20
   replace kB := kB.below hb20
   replace rX := (rStream_ok NB).keep rX (cells_below hb20)
   replace kX := kX.below hb20
   replace rY := (rStream_ok NB).keep rY (cells_below hb20)
   replace kY := kY.below hb20
   replace rZ := (rStream_ok NB).keep rZ (cells_below hb20)
   replace kZ := kZ.below hb20
   replace rR := (rAnswer_ok NB).keep rR (cells_below hb20)
   replace kR := kR.below hb20
   clear hb20 ckY_0 ckY_1
   clear hy
   go_upto_region 17 with fail
   rename World => wr
  all_goals
   cases p
   ·go_wp2
    go_ret
    exact ⟨rfl, hB⟩
   ·have hm := merge_yes (a := a) (b := b) (v := v) (by rw [HZ.out])
    rw [HZ.out, HY.out] at hm
    obtain ⟨hm1, hm2⟩ := hm
    injection hm2 with hm2 _
    subst hm2
    have HL := Lib.hid (hash_len (a := a) (b := b) (by rw [HX.out]))
    rw [HX.out, HY.out] at HL
    have HS := Lib.hid (nested_sorted (a := a) (b := b) (v := v) (by rw [HX.out]) hm1)
    rw [HY.out] at HS
    have HV := Lib.hid (sorted_valid HS.out)
    clear hs hm1
    have ckZ_0 := kZ.bx 0 _ rfl
    have ckZ_1 := kZ.bx 1 _ rfl
    go_wp2_with fail
    have C := iStreamAnswer_c _ z _ rZ
    rw [← HA.out] at C
    refine C.mono ?_
    clear C
    rintro e w21 ⟨cs, fp, rfl, oT, frT, hb21⟩
    obtain ⟨B6, p6, d6, B7, p7, d7, f5, f6, rfl, rfl, _, _⟩ := rAnswer_own.1 oT
    have rT := (rAnswer_ok NB).toRep oT
    clear oT frT
    replace hB := hB.trans (hb21.mono hB.size)
    replace rA := (rStream_ok NB).keep rA (cells_below hb21)
    replace rB := (rStream_ok NB).keep rB (cells_below hb21)
    replace kA := kA.below hb21
    replace kB := kB.below hb21
    replace rX := (rStream_ok NB).keep rX (cells_below hb21)
    replace kX := kX.below hb21
    replace rY := (rStream_ok NB).keep rY (cells_below hb21)
    replace kY := kY.below hb21
    replace rZ := (rStream_ok NB).keep rZ (cells_below hb21)
    replace kZ := kZ.below hb21
    replace rR := (rAnswer_ok NB).keep rR (cells_below hb21)
    replace kR := kR.below hb21
    clear hb21 ckZ_0 ckZ_1
    obtain ⟨w22, hw22⟩ : ∃ W, W = w21.alloc (.cells #[.slice B6 p6 d6, .slice B7 p7 d7] 47) := ⟨_, rfl⟩
    have hb_w22 : Below w21.heap.size w21 w22 := by rw [hw22]; exact (Below.refl w21.heap.size w21).alloc (Nat.le_refl _) _
    replace hB := hB.trans (hb_w22.mono hB.size)
    replace rA := (rStream_ok NB).keep rA (cells_below hb_w22)
    replace rB := (rStream_ok NB).keep rB (cells_below hb_w22)
    replace kA := kA.below hb_w22
    replace kB := kB.below hb_w22
    replace rX := (rStream_ok NB).keep rX (cells_below hb_w22)
    replace kX := kX.below hb_w22
    replace rY := (rStream_ok NB).keep rY (cells_below hb_w22)
    replace kY := kY.below hb_w22
    replace rZ := (rStream_ok NB).keep rZ (cells_below hb_w22)
    replace kZ := kZ.below hb_w22
    replace rR := (rAnswer_ok NB).keep rR (cells_below hb_w22)
    replace kR := kR.below hb_w22
    replace rT := (rAnswer_ok NB).keep rT (cells_below hb_w22)
    clear hb_w22
    have kT : Bk w22 w21.heap.size 47 [.slice B6 p6 d6, .slice B7 p7 d7] := by rw [hw22]; exact Bk.new w21 _ _
    go_upto_region 20 with fail
    rw [← hw22]
    clear hw22
    have ckR_0 := kR.bx 0 _ rfl
    have ckR_1 := kR.bx 1 _ rfl
    have ckT_0 := kT.bx 0 _ rfl
    have ckT_1 := kT.bx 1 _ rfl
    go_wp2_with fail
    refine (sEqualAnswers_c _ _ _ _ _ rR rT).mono ?_
    rintro e w23 ⟨rfl, hb23⟩
    replace hB := hB.trans (hb23.mono hB.size)
    replace rA := (rStream_ok NB).keep rA (cells_below hb23)
    replace rB := (rStream_ok NB).keep rB (cells_below hb23)
    replace kA := kA.below hb23
    replace kB := kB.below hb23
    replace rX := (rStream_ok NB).keep rX (cells_below hb23)
    replace kX := kX.below hb23
    replace rY := (rStream_ok NB).keep rY (cells_below hb23)
    replace kY := kY.below hb23
    replace rZ := (rStream_ok NB).keep rZ (cells_below hb23)
    replace kZ := kZ.below hb23
    replace rR := (rAnswer_ok NB).keep rR (cells_below hb23)
    replace kR := kR.below hb23
    replace rT := (rAnswer_ok NB).keep rT (cells_below hb23)
    replace kT := kT.below hb23
    clear hb23 ckR_0 ckR_1 ckT_0 ckT_1
    have hdd : decide ((streamAnswer x).1 = (streamAnswer x).1) = true := by simp
    have ckZ_0 := kZ.bx 0 _ rfl
    have ckZ_1 := kZ.bx 1 _ rfl
    go_wp2_with fail
    have C := iIsSortedStream_c _ z v _ rZ
    rw [HS.out] at C
    refine C.mono ?_
    clear C
    rintro e w24 ⟨rfl, hb24⟩
    replace hB := hB.trans (hb24.mono hB.size)
    replace rA := (rStream_ok NB).keep rA (cells_below hb24)
    replace rB := (rStream_ok NB).keep rB (cells_below hb24)
    replace kA := kA.below hb24
    replace kB := kB.below hb24
    replace rX := (rStream_ok NB).keep rX (cells_below hb24)
    replace kX := kX.below hb24
    replace rY := (rStream_ok NB).keep rY (cells_below hb24)
    replace kY := kY.below hb24
    replace rZ := (rStream_ok NB).keep rZ (cells_below hb24)
    replace kZ := kZ.below hb24
    replace rR := (rAnswer_ok NB).keep rR (cells_below hb24)
    replace kR := kR.below hb24
    replace rT := (rAnswer_ok NB).keep rT (cells_below hb24)
    replace kT := kT.below hb24
    clear hb24 ckZ_0 ckZ_1
    clear hdd
    have ckZ_0 := kZ.bx 0 _ rfl
    have ckZ_1 := kZ.bx 1 _ rfl
    go_wp2_with fail
    have C := iIsValidStream_c _ z _ rZ
    rw [HV.out] at C
    refine C.mono ?_
    clear C
    rintro e w25 ⟨rfl, hb25⟩
    replace hB := hB.trans (hb25.mono hB.size)
    replace rA := (rStream_ok NB).keep rA (cells_below hb25)
    replace rB := (rStream_ok NB).keep rB (cells_below hb25)
    replace kA := kA.below hb25
    replace kB := kB.below hb25
    replace rX := (rStream_ok NB).keep rX (cells_below hb25)
    replace kX := kX.below hb25
    replace rY := (rStream_ok NB).keep rY (cells_below hb25)
    replace kY := kY.below hb25
    replace rZ := (rStream_ok NB).keep rZ (cells_below hb25)
    replace kZ := kZ.below hb25
    replace rR := (rAnswer_ok NB).keep rR (cells_below hb25)
    replace kR := kR.below hb25
    replace rT := (rAnswer_ok NB).keep rT (cells_below hb25)
    replace kT := kT.below hb25
    clear hb25 ckZ_0 ckZ_1
    have ckZ_0 := kZ.bx 0 _ rfl
    have ckZ_1 := kZ.bx 1 _ rfl
    have ckX_0 := kX.bx 0 _ rfl
    have ckX_1 := kX.bx 1 _ rfl
    have hl : p1 = n6 := by
     obtain ⟨_, _, _, _, _, _, ee, _, r2⟩ := rStream_rep.1 rX; injection ee with _ ee; injection ee with ee _; injection ee with _ e2 _; subst e2
     obtain ⟨_, _, _, _, _, _, ee, _, r4⟩ := rStream_rep.1 rZ; injection ee with _ ee; injection ee with ee _; injection ee with _ e2 _; subst e2
     have h1 := r2.len; have h2 := r4.len; have h3 := HL.out; omega
    subst hl
    go_wp2
    go_ret
    exact ⟨rfl, hB⟩

set_option maxRecDepth 100000 in
theorem lifted (os : Os) (started : os.Started) (H : Type) (enc : TypeId × Value → H) :
  ReturnsInHanded {} Try.checked os 4 .any (Rows.fnJoinsSpec.pre6 enc Try.prog Try.f4 Rows.fnJoinsRow.domain false) (Rows.fnJoinsSpec.post enc Try.prog Try.f4 false true false false) := by
 refine returnsInHanded_of_change (C := Try.checked) own started (by kernel_rfl) Try.func4
  (ChangeSpec.witness6 (enc := enc) (C := Try.checked) false ⟨#[], #[.slice none 0 0], []⟩ 8 (by kernel_rfl) (by kernel_rfl) (by kernel_rfl) (by kernel_rfl)) ?_
 intro W base args ds gs before hval0 hW hcnd _
 have hval : ∀ (j : Nat) t v, Try.f4.params[j]? = some t → args[j]? = some v → Value.okWide Try.prog W .any base t v := hval0
 have hW' := hW
 obtain ⟨p, q, hA0, hV, rfl, hfz, hnd⟩ := hW
 have hA : DataW.TrodAll enc Try.prog W 0 (fun _ => true) true Try.f4.params.toList args.toList ds p := hA0
 rw [Try.params4] at hA hval
 obtain ⟨v0, vs0, d0, ds0, p0, q0, hargs, rfl, rfl, h0, r0⟩ := trodAll_cons hA
 obtain ⟨rfl, rfl, rfl⟩ := trodAll_nil r0
 obtain rfl : args = #[v0] := by cases args; simp_all
 obtain ⟨rfl, rfl⟩ := trodVars_none hV
 obtain ⟨A0, n0, c0, rfl⟩ := okWide_slice Try.underlying22 (hval 0 22 v0 rfl rfl)
 have k0 := h0
 have lt0 : ∀ x ∈ p0, x.block < W.heap.size := by obtain ⟨m, hm⟩ := k0; exact DataW.trod_lt m _ _ _ hm
 obtain ⟨l0, g0⟩ : ∃ l, RS maxLen rByte W A0 n0 c0 l := by
  obtain ⟨fuel, hf⟩ := h0
  obtain ⟨l, A, n, c, e, hr⟩ := (opens_slice rByte_ok Try.underlying22 (by kernel_rfl) (opens_byte Try.underlying5)) hf
  simp [Value.cells] at e
  obtain ⟨rfl, rfl, rfl⟩ := e
  exact ⟨l, hr⟩
 clear hA0 hval0
 refine (walk A0 n0 c0 l0 W g0).mono fun e W' ⟨he, bel⟩ => ?_
 subst he
 exact ⟨_, rfl, _, _, _, [], _, [], hW', trodAll_mk1 (shut_bool Try.underlying4 _), (trodAll_cons_mk (Below.trod laidOut (by kernel_rfl) (of_decide_eq_true (by kernel_rfl)) k0 bel lt0) trodAll_mk0), rfl, bel.frame _, fun h => by cases h⟩

theorem over : Rows.fnJoinsRow.holds Try.pinned (OpenSpec.ofChange Rows.fnJoinsSpec) :=
 OpenClaim.holds_of_wide 4 Try.f4 rfl rfl rfl rfl rfl rfl rfl ⟨rfl, rfl, rfl, rfl, rfl⟩ rfl rfl rfl rfl rfl (by kernel_rfl) Try.func4 (by kernel_rfl)
  (of_decide_eq_true (by kernel_rfl)) (by unfold Func.isWrapper; first | (rw [if_pos (by decide +kernel)]; kernel_rfl) | (rw [if_neg (by decide +kernel)]; exact ⟨rfl, rfl⟩))
  (fun os started H enc _ => lifted os started H enc)

theorem proved : Rows.FnJoinsSaid := over
#print axioms proved
end Go.Proofs.Ytceeggmfedpdkaa.fnJoins
