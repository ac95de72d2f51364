/-
  Contracts: the sizes of a location, both sides.
-/
import Derived.Test.YtpdccgnapgneaaaGreatCls
import Derived.Test.YtpdccgnapgneaaaGreatLoc
namespace Go.Proofs.YtpdccgnapgneaaaGreat
open Go.RowKit
set_option linter.unusedVariables false
set_option linter.unusedSimpArgs false
def locSizes (l : List Int) : List Int := if isLoc l then l.map clsSize else []
theorem locSizes_no {l : List Int} (h : isLoc l = false) : locSizes l = [] := by simp [locSizes, h]
theorem clsSize_I (k : Int) : I64 (clsSize k) := by
  unfold clsSize; repeat' split
  all_goals exact ⟨by omega, by omega⟩
theorem mapCls_snoc {l : List Int} {k : Nat} {x : Int} (h : l[k]? = some x) : (l.take k).map clsSize ++ [clsSize x] = (l.take (k + 1)).map clsSize := by
  rw [take_snoc h]; simp
theorem isLoc_v {P : Program} {f : Nat} {A : Option Addr} {n cap : Nat} {l : List Int} {w : World} {v : Bool} (h : isLoc l = v) (hc : Calls P f #[.slice A n cap] w fun e w' => e = .returned (.bool (isLoc l)) ∧ w = w') : Calls P f #[.slice A n cap] w fun e w' => e = .returned (.bool v) ∧ w' = w :=
  hc.mono fun e w' q => ⟨h ▸ q.1, q.2.symm⟩
set_option maxRecDepth 100000 in
set_option maxHeartbeats 1600000 in
theorem sLocationSizes_c (Al : Option Addr) (nl cl : Nat) (l : List Int) (w : World) (hl : RS NB rInt w Al nl cl l) :
    Calls Tryz.prog 76 #[.slice Al nl cl] w (RetS 3 rInt (locSizes l) w) := by
  have hn := hl.bound
  have hB := (Below.refl w.heap.size w).alloc (Nat.le_refl _) (.cells #[] 3)
  have hM := MS.empty (B := w.heap.size) (M := NB) (e := 3) (r := rInt) w (Nat.le_refl _)
  cases h1 : isLoc l
  · have K : Hid (∀ W, Below w.heap.size w W → Calls Tryz.prog 106 #[.slice Al nl cl] W fun e w' => e = .returned (.bool false) ∧ w' = W) := by
      show ∀ W, _ → _
      exact fun W hW => isLoc_v h1 (sIsLocation_c _ _ _ l W (hl.below rInt_ok hW))
    have HN := Lib.hid (locSizes_no h1); clear h1
    by_cases h0 : 0 < nl
    · go_enter Tryz.func76, Tryz.ntmps76
      go_wp2_with (go_at_call 106; refine (K.out _ hB).mono ?_; rintro e w' ⟨rfl, rfl⟩)
      go_loopw [3, 4] (fun v i wr => wr = w.alloc (.cells #[] 3) ∧ i = .int .i64 0 ∧ v = .slice (some ⟨w.heap.size, 0, none⟩) 0 0) (fun _ _ _ => 0)
      case atStart => exact ⟨rfl, rfl, rfl⟩
      case round =>
        obtain ⟨rfl, rfl, rfl⟩ := hrel
        go_wp2_with (go_at_call 106; refine (K.out _ hB).mono ?_; rintro e w' ⟨rfl, rfl⟩)
        go_ret
        exact ⟨_, _, _, rfl, by rw [HN.out]; exact hM, hB⟩
    · go_enter Tryz.func76, Tryz.ntmps76
      go_wp2
      go_loopw [3, 4] (fun v i wr => wr = w.alloc (.cells #[] 3) ∧ i = .int .i64 0 ∧ v = .slice (some ⟨w.heap.size, 0, none⟩) 0 0) (fun _ _ _ => 0)
      case atStart => exact ⟨rfl, rfl, rfl⟩
      case round =>
        obtain ⟨rfl, rfl, rfl⟩ := hrel
        go_wp2
        go_ret
        exact ⟨_, _, _, rfl, by rw [HN.out]; exact hM, hB⟩
  have K : Hid (∀ W, Below w.heap.size w W → Calls Tryz.prog 106 #[.slice Al nl cl] W fun e w' => e = .returned (.bool true) ∧ w' = W) := by
    show ∀ W, _ → _
    exact fun W hW => isLoc_v h1 (sIsLocation_c _ _ _ l W (hl.below rInt_ok hW))
  have HE : Hid (locSizes l = l.map clsSize) := by show _ = _; simp [locSizes, h1]
  clear h1
  go_enter Tryz.func76, Tryz.ntmps76
  go_wp2_with fail
  go_loopw [3, 4] (fun v i wr => ∃ (k : Nat) (A : Option Addr) (c : Nat), k ≤ nl ∧ i = .int .i64 k ∧ v = .slice A k c ∧ MS w.heap.size NB 3 rInt wr A k c ((l.take k).map clsSize) ∧ Below w.heap.size w wr) (fun _ i _ => nl - (intOf i).toNat)
  case atStart => exact ⟨0, _, _, Nat.zero_le _, rfl, rfl, hM, hB⟩
  case round =>
    clear hM hB
    obtain ⟨k, A, c, hk, rfl, rfl, hMr, hBr⟩ := hrel
    by_cases hlt : k < nl
    · obtain ⟨b, off, x, rfl, hc, hI, hxk⟩ := (hl.below rInt_ok hBr).ati hlt
      have hci := clsSize_I x
      go_wp2_with (first | (go_at_call 106; refine (K.out _ hBr).mono ?_; rintro e w' ⟨rfl, rfl⟩) | (go_at_call 108; refine (sClassSize_q _ _).mono ?_; rintro e w' ⟨rfl, rfl⟩) | (at_builtin; refine wpList_app (r := rInt) rfl _ _ 30 rfl _ 8 eiInt rInt_ok rfl hMr ((Below.refl _ _).alloc (Nat.le_refl _) _) hBr.size ⟨_, 0, none⟩ rfl [] [.int .i64 (clsSize x)] (clsSize x) ⟨rfl, rfl, hci⟩ (Fr.nil _) (cell_one_new _ _ _) (by unfold NB at *; omega) (Nat.le_refl _) (by unfold NB at *; omega) ?_; intro A2 k2 w2 hM2 hb2 hg2))
      go_roundw
      case rel => exact ⟨k + 1, A2, k2, by omega, by go_num, rfl, by rw [← mapCls_snoc hxk.out]; exact hM2, (hBr.alloc hBr.size _).trans hb2⟩
      case measure => simp [intOf]; omega
    · go_wp2
      go_ret
      exact ⟨_, _, _, rfl, by
        have e := hMr
        rw [List.take_of_length_le (by rw [hl.len]; omega)] at e
        rw [HE.out]; exact e, hBr⟩
set_option maxRecDepth 100000 in
set_option maxHeartbeats 1600000 in
theorem iLocationSizes_c (Al : Option Addr) (nl cl : Nat) (l : List Int) (w : World) (hl : RS NB rInt w Al nl cl l) :
    Calls Tryz.prog 114 #[.slice Al nl cl] w (RetS 3 rInt (locSizes l) w) := by
  have hn := hl.bound
  have hB := (Below.refl w.heap.size w).alloc (Nat.le_refl _) (.cells #[] 3)
  have hM := MS.empty (B := w.heap.size) (M := NB) (e := 3) (r := rInt) w (Nat.le_refl _)
  go_enter Tryz.func114, Tryz.ntmps114
  go_wp2_with fail
  go_loopw [3, 9] (fun v i wr => ∃ (k : Nat) (A : Option Addr) (c : Nat), k ≤ nl ∧ i = .int .i64 k ∧ v = .slice A k c ∧ MS w.heap.size NB 3 rInt wr A k c ((l.take k).map clsSize) ∧ Below w.heap.size w wr) (fun _ i _ => nl - (intOf i).toNat)
  case atStart => exact ⟨0, _, _, Nat.zero_le _, rfl, rfl, hM, hB⟩
  case round =>
    clear hM hB
    obtain ⟨k, A, c, hk, rfl, rfl, hMr, hBr⟩ := hrel
    by_cases hlt : k < nl
    · obtain ⟨b, off, x, rfl, hc, hI, hxk⟩ := (hl.below rInt_ok hBr).ati hlt
      have hci := clsSize_I x
      go_wp2_with (first | (go_at_call 138; refine (iClassSize_q _ _).mono ?_; rintro e w' ⟨rfl, rfl⟩) | (at_builtin; refine wpList_app (r := rInt) rfl _ _ 30 rfl _ 8 eiInt rInt_ok rfl hMr ((Below.refl _ _).alloc (Nat.le_refl _) _) hBr.size ⟨_, 0, none⟩ rfl [] [.int .i64 (clsSize x)] (clsSize x) ⟨rfl, rfl, hci⟩ (Fr.nil _) (cell_one_new _ _ _) (by unfold NB at *; omega) (Nat.le_refl _) (by unfold NB at *; omega) ?_; intro A2 k2 w2 hM2 hb2 hg2))
      go_roundw
      case rel => exact ⟨k + 1, A2, k2, by omega, by go_num, rfl, by rw [← mapCls_snoc hxk.out]; exact hM2, (hBr.alloc hBr.size _).trans hb2⟩
      case measure => simp [intOf]; omega
    · rw [List.take_of_length_le (by rw [hl.len]; omega)] at hMr
      have hr2 := hl.below rInt_ok hBr
      cases h1 : isLoc l
      · have HN := Lib.hid (locSizes_no h1)
        have K := Lib.hid (isLoc_v h1 (iIsLocation_c _ _ _ l wr hr2)); clear h1
        go_wp2_with (go_at_call 132; refine K.out.mono ?_; rintro e w' ⟨rfl, rfl⟩)
        go_ret
        exact ⟨_, _, _, rfl, by rw [HN.out]; exact MS.nil _ (Nat.zero_le _), hBr⟩
      · have HE : Hid (locSizes l = l.map clsSize) := by show _ = _; simp [locSizes, h1]
        have K := Lib.hid (isLoc_v h1 (iIsLocation_c _ _ _ l wr hr2)); clear h1
        go_wp2_with (go_at_call 132; refine K.out.mono ?_; rintro e w' ⟨rfl, rfl⟩)
        go_ret
        exact ⟨_, _, _, rfl, by rw [HE.out]; exact hMr, hBr⟩
end Go.Proofs.YtpdccgnapgneaaaGreat
