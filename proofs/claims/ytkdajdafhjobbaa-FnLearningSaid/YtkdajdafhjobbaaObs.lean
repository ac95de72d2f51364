/-
  Obs
-/
import Derived.Test.YtkdajdafhjobbaaTypes
import Derived.Test.YtkdajdafhjobbaaLoc
namespace Go.Proofs.Ytkdajdafhjobbaa
open Go.RowKit

def obsHolds (x : ObservationD) (l : List Int) : Bool :=
 isLoc l && inR x.fMask 0 ((l.length : Int) - 1) && (if x.fExact then (l.getD x.fMask.toNat 0 == x.fClass) else decide (x.fClass ≤ l.getD x.fMask.toNat 0))

theorem getD_at {l : List Int} {k : Nat} {y : Int} (h : l[k]? = some y) : l.getD k 0 = y := by
 rw [List.getD_eq_getElem?_getD, h]; rfl

set_option maxHeartbeats 800000 in
theorem sObservationHolds_c (cs : List Value) (x : ObservationD) (A : Option Addr) (n cap : Nat) (l : List Int) (w : World) (h : (rObservation NB).rep w cs x) (hr : RS NB rInt w A n cap l) :
  Calls Try.prog 18 #[.agg cs.toArray, .slice A n cap] w fun e w' => e = .returned (.bool (obsHolds x l)) ∧ Below w.heap.size w w' := by
 obtain ⟨rfl, i1, i2⟩ := rObservation_rep.1 h
 obtain ⟨m, c, ex⟩ := x
 simp only at i1 i2 ⊢
 clear h
 have hn := hr.bound
 have HL := Lib.hid hr.len
 go_enter Try.func18, Try.ntmps18
 go_wp2_with fail
 have hB := (Below.refl w.heap.size w).alloc (Nat.le_refl _) (.cells #[.int .i64 m, .int .i64 c, .bool ex] 38)
 have bx := Bx.new w [.int .i64 m, .int .i64 c, .bool ex] 38
 replace hr := hr.below rInt_ok hB
 refine (sIsLocation_c _ _ _ _ _ hr).mono ?_
 rintro e w1 ⟨rfl, hw1⟩
 have hb1 := Below.of_eq hw1; clear hw1
 replace hB := hB.trans (hb1.mono hB.size)
 replace bx := bx.below hb1
 replace hr := hr.below rInt_ok hb1
 clear hb1
 have b0 := bx 0 _ rfl
 have b1 := bx 1 _ rfl
 have b2 := bx 2 _ rfl
 cases hl : isLoc l
 ·go_wp2
  go_ret
  exact ⟨ret_bool (a := false) (by simp [obsHolds, hl]), hB⟩
 ·cases hm : inR m 0 ((n : Int) - 1)
  ·go_wp2_with (go_at_call 66; refine (l1In_c _ _ _ _).mono ?_; rintro e w' ⟨rfl, rfl⟩)
   go_ret
   exact ⟨ret_bool (a := false) (by have := HL.out; simp only [obsHolds, this, hm]; simp), hB⟩
  ·have hm2 := inR_t.1 hm
   obtain ⟨k, rfl⟩ : ∃ k : Nat, m = k := ⟨m.toNat, by omega⟩
   have hk : k < n := by omega
   obtain ⟨b, off, y, rfl, hc, hI, hy⟩ := hr.ati hk
   have HG := Lib.hid (getD_at hy.out)
   cases ex
   ·go_wp2_with (go_at_call 66; refine (l1In_c _ _ _ _).mono ?_; rintro e w' ⟨rfl, rfl⟩)
    go_quiet (fail)
    go_wp2
    go_ret
    exact ⟨ret_bool (by have := HL.out; simp only [obsHolds, hl, this, hm, Int.toNat_natCast, HG.out]; simp), below_drewN hB _⟩
   ·go_wp2_with (go_at_call 66; refine (l1In_c _ _ _ _).mono ?_; rintro e w' ⟨rfl, rfl⟩)
    go_quiet (fail)
    go_wp2
    go_ret
    exact ⟨ret_bool (by have := HL.out; simp only [obsHolds, hl, this, hm, Int.toNat_natCast, HG.out]; simp), below_drewN hB _⟩
set_option maxHeartbeats 800000 in
theorem iObservationHolds_c (cs : List Value) (x : ObservationD) (A : Option Addr) (n cap : Nat) (l : List Int) (w : World) (h : (rObservation NB).rep w cs x) (hr : RS NB rInt w A n cap l) :
  Calls Try.prog 17 #[.agg cs.toArray, .slice A n cap] w fun e w' => e = .returned (.bool (obsHolds x l)) ∧ Below w.heap.size w w' := by
 obtain ⟨rfl, i1, i2⟩ := rObservation_rep.1 h
 obtain ⟨m, c, ex⟩ := x
 simp only at i1 i2 ⊢
 clear h
 have hn := hr.bound
 have HL := Lib.hid hr.len
 go_enter Try.func17, Try.ntmps17
 go_wp2_with fail
 have hB := (Below.refl w.heap.size w).alloc (Nat.le_refl _) (.cells #[.int .i64 m, .int .i64 c, .bool ex] 38)
 have bx := Bx.new w [.int .i64 m, .int .i64 c, .bool ex] 38
 replace hr := hr.below rInt_ok hB
 refine (iIsLocation_c _ _ _ _ _ hr).mono ?_
 rintro e w1 ⟨rfl, hw1⟩
 have hb1 := Below.of_eq hw1; clear hw1
 replace hB := hB.trans (hb1.mono hB.size)
 replace bx := bx.below hb1
 replace hr := hr.below rInt_ok hb1
 clear hb1
 have b0 := bx 0 _ rfl
 have b1 := bx 1 _ rfl
 have b2 := bx 2 _ rfl
 cases hl : isLoc l
 ·go_wp2
  go_ret
  exact ⟨ret_bool (a := false) (by simp [obsHolds, hl]), hB⟩
 ·cases hm : inR m 0 ((n : Int) - 1)
  ·go_wp2_with (go_at_call 65; refine (within_c _ _ _ _).mono ?_; rintro e w' ⟨rfl, rfl⟩)
   go_ret
   exact ⟨ret_bool (a := false) (by have := HL.out; simp only [obsHolds, this, hm]; simp), hB⟩
  ·have hm2 := inR_t.1 hm
   obtain ⟨k, rfl⟩ : ∃ k : Nat, m = k := ⟨m.toNat, by omega⟩
   have hk : k < n := by omega
   obtain ⟨b, off, y, rfl, hc, hI, hy⟩ := hr.ati hk
   have HG := Lib.hid (getD_at hy.out)
   cases ex
   ·go_wp2_with (go_at_call 65; refine (within_c _ _ _ _).mono ?_; rintro e w' ⟨rfl, rfl⟩)
    go_quiet (fail)
    go_wp2
    go_ret
    exact ⟨ret_bool (by have := HL.out; simp only [obsHolds, hl, this, hm, Int.toNat_natCast, HG.out]; simp), below_drewN hB _⟩
   ·go_wp2_with (go_at_call 65; refine (within_c _ _ _ _).mono ?_; rintro e w' ⟨rfl, rfl⟩)
    go_quiet (fail)
    go_wp2
    go_ret
    exact ⟨ret_bool (by have := HL.out; simp only [obsHolds, hl, this, hm, Int.toNat_natCast, HG.out]; simp), below_drewN hB _⟩
end Go.Proofs.Ytkdajdafhjobbaa
