/-
  Contracts: boxes of locations.
-/
import Derived.Test.YtpdccgnapgneaaaGreatTypes
import Derived.Test.YtpdccgnapgneaaaGreatLoc
namespace Go.Proofs.YtpdccgnapgneaaaGreat
open Go.RowKit

def dom (a b : List Int) : Bool := decide (a.length = b.length) && (a.zip b).all (fun p => decide (p.2 ≤ p.1))
theorem zip_at {a b : List Int} {k : Nat} {x y : Int} (hx : a[k]? = some x) (hy : b[k]? = some y) : (a.zip b)[k]? = some (x, y) := by
  rw [List.getElem?_zip_eq_some]; exact ⟨hx, hy⟩
theorem dom_no {a b : List Int} {k : Nat} {x y : Int} (hx : a[k]? = some x) (hy : b[k]? = some y) (h : x < y) : dom a b = false := by
  unfold dom; rw [Bool.and_eq_false_iff]; right
  rw [List.all_eq_false]; exact ⟨(x, y), mem_of_at (zip_at hx hy), by simp; omega⟩
theorem dom_len {a b : List Int} (h : a.length ≠ b.length) : dom a b = false := by simp [dom, h]
theorem dom_yes {a b : List Int} {n k : Nat} (ha : a.length = n) (hb : b.length = n) (hk : ¬ k < n) (h : ((a.zip b).take k).all (fun p => decide (p.2 ≤ p.1)) = true) : dom a b = true := by
  rw [List.take_of_length_le (by simp; omega)] at h
  unfold dom; rw [h, ha, hb]; simp

set_option maxHeartbeats 800000 in
theorem sDominatesLocation_c (A A' : Option Addr) (n n' cap cap' : Nat) (l l' : List Int) (w : World) (hr : RS NB rInt w A n cap l) (hr' : RS NB rInt w A' n' cap' l') :
    Calls Tryz.prog 95 #[.slice A n cap, .slice A' n' cap'] w fun e w' => e = .returned (.bool (dom l l')) ∧ Qt w w' := by
  have hn := hr.bound
  have hn' := hr'.bound
  by_cases hne : n = n'
  · subst hne
    go_enter Tryz.func95, Tryz.ntmps95
    go_wp2
    go_loopw [5] (fun i wr => ∃ k : Nat, k ≤ n ∧ i = .int .i64 k ∧ ((l.zip l').take k).all (fun p => decide (p.2 ≤ p.1)) = true ∧ ∃ q, wr = w.drewN q) (fun i _ => n - (intOf i).toNat)
    case atStart => exact ⟨0, Nat.zero_le _, rfl, rfl, 0, rfl⟩
    case round =>
      obtain ⟨k, hk, rfl, heq, q, rfl⟩ := hrel
      have HE := Lib.hid heq; clear heq
      by_cases hlt : k < n
      · obtain ⟨b, off, x, rfl, hc, hI, hxk⟩ := hr.ati hlt
        obtain ⟨b', off', y, rfl, hc', hI', hyk⟩ := hr'.ati hlt
        by_cases hx : x < y
        · have hb : decide (x < y) = true := by simpa using hx
          go_wp2
          go_quiet (fail)
          go_wp2
          go_ret
          exact ⟨ret_bool (a := false) (dom_no hxk.out hyk.out hx).symm, (by first | exact ⟨_, rfl⟩ | (simp only [World.drewN_drewN]; exact ⟨_, rfl⟩))⟩
        · have hb : decide (x < y) = false := by simpa using hx
          have HX := Lib.hid hx; clear hx
          go_wp2
          go_quiet (fail)
          go_wp2
          go_roundw
          case rel => exact ⟨k + 1, by omega, by go_num, all_snoc' HE.out (zip_at hxk.out hyk.out) (by have := HX.out; simp; omega), (by first | exact ⟨_, rfl⟩ | (simp only [World.drewN_drewN]; exact ⟨_, rfl⟩))⟩
          case measure => simp [intOf]; omega
      · go_wp2
        go_ret
        exact ⟨ret_bool (a := true) (dom_yes hr.len hr'.len (by omega) HE.out).symm, _, rfl⟩
  · have hb : ((n : Int) != (n' : Int)) = true := by simp; omega
    go_enter Tryz.func95, Tryz.ntmps95
    go_wp2
    go_ret
    exact ⟨ret_bool (a := false) (dom_len (by rw [hr.len, hr'.len]; exact hne)).symm, Qt.refl _⟩
set_option maxHeartbeats 800000 in
theorem iDominatesLocation_c (A A' : Option Addr) (n n' cap cap' : Nat) (l l' : List Int) (w : World) (hr : RS NB rInt w A n cap l) (hr' : RS NB rInt w A' n' cap' l') :
    Calls Tryz.prog 103 #[.slice A n cap, .slice A' n' cap'] w fun e w' => e = .returned (.bool (dom l l')) ∧ Qt w w' := by
  have hn := hr.bound
  have hn' := hr'.bound
  by_cases hne : n = n'
  · subst hne
    go_enter Tryz.func103, Tryz.ntmps103
    go_wp2
    go_loopw [13] (fun i wr => ∃ k : Nat, k ≤ n ∧ i = .int .i64 k ∧ ((l.zip l').take k).all (fun p => decide (p.2 ≤ p.1)) = true ∧ ∃ q, wr = w.drewN q) (fun i _ => n - (intOf i).toNat)
    case atStart => exact ⟨0, Nat.zero_le _, rfl, rfl, 0, rfl⟩
    case round =>
      obtain ⟨k, hk, rfl, heq, q, rfl⟩ := hrel
      have HE := Lib.hid heq; clear heq
      by_cases hlt : k < n
      · obtain ⟨b, off, x, rfl, hc, hI, hxk⟩ := hr.ati hlt
        obtain ⟨b', off', y, rfl, hc', hI', hyk⟩ := hr'.ati hlt
        by_cases hx : x < y
        · have hb : decide (x < y) = true := by simpa using hx
          go_wp2
          go_quiet (fail)
          go_wp2
          go_ret
          exact ⟨ret_bool (a := false) (dom_no hxk.out hyk.out hx).symm, (by first | exact ⟨_, rfl⟩ | (simp only [World.drewN_drewN]; exact ⟨_, rfl⟩))⟩
        · have hb : decide (x < y) = false := by simpa using hx
          have HX := Lib.hid hx; clear hx
          go_wp2
          go_quiet (fail)
          go_wp2
          go_roundw
          case rel => exact ⟨k + 1, by omega, by go_num, all_snoc' HE.out (zip_at hxk.out hyk.out) (by have := HX.out; simp; omega), (by first | exact ⟨_, rfl⟩ | (simp only [World.drewN_drewN]; exact ⟨_, rfl⟩))⟩
          case measure => simp [intOf]; omega
      · go_wp2
        go_ret
        exact ⟨ret_bool (a := true) (dom_yes hr.len hr'.len (by omega) HE.out).symm, _, rfl⟩
  · have hb : ((n : Int) != (n' : Int)) = true := by simp; omega
    go_enter Tryz.func103, Tryz.ntmps103
    go_wp2
    go_ret
    exact ⟨ret_bool (a := false) (dom_len (by rw [hr.len, hr'.len]; exact hne)).symm, Qt.refl _⟩

def validBox (b : BoxD) : Bool := isLoc b.fLow && (isLoc b.fHigh && (decide (0 < b.fLow.length) && dom b.fHigh b.fLow))

set_option maxHeartbeats 800000 in
theorem iIsValidBox_c (cs : List Value) (x : BoxD) (w : World) (h : (rBox NB).rep w cs x) :
    Calls Tryz.prog 102 #[.agg cs.toArray] w fun e w' => e = .returned (.bool (validBox x)) ∧ Below w.heap.size w w' := by
  obtain ⟨A1, n1, c1, A2, n2, c2, rfl, h1, h2⟩ := rBox_rep.1 h
  have hL := Lib.hid h1.len
  have hn1 := h1.bound
  clear h
  have hB := (Below.refl w.heap.size w).alloc (Nat.le_refl _) (.cells #[.slice A1 n1 c1, .slice A2 n2 c2] 50)
  have bx := Bx.new w [.slice A1 n1 c1, .slice A2 n2 c2] 50
  replace h1 := h1.below rInt_ok hB
  replace h2 := h2.below rInt_ok hB
  go_enter Tryz.func102, Tryz.ntmps102
  go_wp2_with fail
  refine (iIsLocation_c _ _ _ _ _ h1).mono ?_
  rintro e w1 ⟨rfl, hw1⟩
  have hb1 := Below.of_eq hw1; clear hw1
  replace hB := hB.trans (hb1.mono hB.size)
  replace bx := bx.below hb1
  replace h1 := h1.below rInt_ok hb1
  replace h2 := h2.below rInt_ok hb1
  clear hb1
  have b0 := bx 0 _ rfl
  have b1 := bx 1 _ rfl
  cases e1 : isLoc x.fLow
  · go_wp2
    go_ret
    exact ⟨ret_bool (a := false) (by simp [validBox, e1]), hB⟩
  cases e2 : isLoc x.fHigh
  · go_wp2_with (go_at_call 132; refine (iIsLocation_c _ _ _ _ _ h2).mono ?_; rintro e w' ⟨rfl, rfl⟩)
    go_ret
    exact ⟨ret_bool (a := false) (by simp [validBox, e2]), hB⟩
  by_cases e3 : 0 < n1
  rotate_left
  · go_wp2_with (go_at_call 132; refine (iIsLocation_c _ _ _ _ _ h2).mono ?_; rintro e w' ⟨rfl, rfl⟩)
    go_ret
    exact ⟨ret_bool (a := false) (by have : decide (0 < x.fLow.length) = false := decide_eq_false (by rw [hL.out]; omega)
                                     simp [validBox, this]), hB⟩
  have d3 : decide ((0 : Int) < (n1 : Int)) = true := by simp; omega
  go_wp2_with (first | (go_at_call 132; refine (iIsLocation_c _ _ _ _ _ h2).mono ?_; rintro e w' ⟨rfl, rfl⟩) | (go_at_call 103; refine (iDominatesLocation_c _ _ _ _ _ _ _ _ _ h2 h1).mono ?_; rintro e w2 ⟨rfl, hq⟩))
  go_ret
  exact ⟨ret_bool (by have : decide (0 < x.fLow.length) = true := decide_eq_true (by rw [hL.out]; omega)
                      simp [validBox, e1, e2, this]), hB.trans ((hq.below _).mono hB.size)⟩
set_option maxRecDepth 100000 in
set_option maxHeartbeats 800000 in
theorem sIsValidBox_c (cs : List Value) (x : BoxD) (w : World) (h : (rBox NB).rep w cs x) :
    Calls Tryz.prog 73 #[.agg cs.toArray] w fun e w' => e = .returned (.bool (validBox x)) ∧ Below w.heap.size w w' := by
  obtain ⟨A1, n1, c1, A2, n2, c2, rfl, h1, h2⟩ := rBox_rep.1 h
  have hL := Lib.hid h1.len
  have hn1 := h1.bound
  clear h
  have hB := (Below.refl w.heap.size w).alloc (Nat.le_refl _) (.cells #[.slice A1 n1 c1, .slice A2 n2 c2] 50)
  have bx := Bx.new w [.slice A1 n1 c1, .slice A2 n2 c2] 50
  replace h1 := h1.below rInt_ok hB
  replace h2 := h2.below rInt_ok hB
  by_cases e3 : 0 < n1
  rotate_left
  · have d3 : decide ((0 : Int) < (n1 : Int)) = false := by simp; omega
    go_enter Tryz.func73, Tryz.ntmps73
    go_wp2
    go_ret
    exact ⟨ret_bool (a := false) (by have : decide (0 < x.fLow.length) = false := decide_eq_false (by rw [hL.out]; omega)
                                     simp [validBox, this]), hB⟩
  have d3 : decide ((0 : Int) < (n1 : Int)) = true := by simp; omega
  have HP : Hid (decide (0 < x.fLow.length) = true) := decide_eq_true (by rw [hL.out]; omega)
  go_enter Tryz.func73, Tryz.ntmps73
  go_wp2_with fail
  refine (sIsLocation_c _ _ _ _ _ h1).mono ?_
  rintro e w1 ⟨rfl, hw1⟩
  have hb1 := Below.of_eq hw1; clear hw1
  replace hB := hB.trans (hb1.mono hB.size)
  replace bx := bx.below hb1
  replace h1 := h1.below rInt_ok hb1
  replace h2 := h2.below rInt_ok hb1
  clear hb1
  have b0 := bx 0 _ rfl
  have b1 := bx 1 _ rfl
  cases e1 : isLoc x.fLow
  · go_wp2
    go_ret
    exact ⟨ret_bool (a := false) (by simp [validBox, e1]), hB⟩
  cases e2 : isLoc x.fHigh
  · go_wp2_with (go_at_call 106; refine (sIsLocation_c _ _ _ _ _ h2).mono ?_; rintro e w' ⟨rfl, rfl⟩)
    go_ret
    exact ⟨ret_bool (a := false) (by simp [validBox, e2]), hB⟩
  go_wp2_with (first | (go_at_call 106; refine (sIsLocation_c _ _ _ _ _ h2).mono ?_; rintro e w' ⟨rfl, rfl⟩) | (go_at_call 95; refine (sDominatesLocation_c _ _ _ _ _ _ _ _ _ h2 h1).mono ?_; rintro e w2 ⟨rfl, hq⟩))
  go_ret
  exact ⟨ret_bool (by have := HP.out; simp [validBox, e1, e2, this]), hB.trans ((hq.below _).mono hB.size)⟩
end Go.Proofs.YtpdccgnapgneaaaGreat
