/-
  Contracts: the density of a bouquet.
-/
import Derived.Test.YtobildkjikhdiaaTypes
namespace Go.Proofs.Ytobildkjikhdiaa
open Go.RowKit

def density (l : List (List Int)) : Nat := l.foldl (fun m x => max m x.length) 0
theorem density_snoc {l : List (List Int)} {k : Nat} {x : List Int} (h : l[k]? = some x) : density (l.take (k + 1)) = max (density (l.take k)) x.length := by
  unfold density; rw [take_snoc h, List.foldl_append]; rfl
/-- the k-th row of a slice of slices -/
theorem RS.row {M M' : Nat} {e : TypeId} {w : World} {A : Option Addr} {n cap : Nat} {l : List (List Int)} (h : RS M (rSlice M' e rInt) w A n cap l) {k : Nat} (hk : k < n) :
    ∃ b off x Ar nr cr, A = some ⟨b, off, none⟩ ∧ w.cell? ⟨b, off + k, none⟩ = some (.slice Ar nr cr) ∧ RS M' rInt w Ar nr cr x ∧ Hid (l[k]? = some x) := by
  obtain ⟨b, off, x, cs, e, ⟨Ar, nr, cr, rfl, hr⟩, hc, hx⟩ := h.at_ hk
  exact ⟨b, off, x, Ar, nr, cr, e, by simpa [rSlice] using hc 0 _ rfl, hr, hx⟩

set_option maxHeartbeats 800000 in
theorem sBouquetDensity_c (cs : List Value) (x : BouquetD) (w : World) (h : (rBouquet NB).rep w cs x) :
    Calls Try.prog 116 #[.agg cs.toArray] w fun e w' => e = .returned (.int .i64 (density x.fContours : Nat)) ∧ Below w.heap.size w w' := by
  obtain ⟨ABoxLow, nBoxLow, cBoxLow, ABoxHigh, nBoxHigh, cBoxHigh, ABudgets, nBudgets, cBudgets, APlans, nPlans, cPlans, AContours, nContours, cContours, rfl, hVersion, hRatio, hSlack, hBoxLow, hBoxHigh, hBudgets, hPlans, hContours⟩ := rBouquet_rep.1 h
  have hn := hContours.bound
  clear h hVersion hRatio hSlack hBoxLow hBoxHigh hBudgets hPlans
  go_enter Try.func116, Try.ntmps116
  go_wp2
  go_loopw [3, 4] (fun c i wr => ∃ (k m : Nat), k ≤ nContours ∧ i = .int .i64 k ∧ c = .int .i64 m ∧ m ≤ 4294967296 ∧ m = density (x.fContours.take k) ∧ wr.cell? ⟨w.heap.size, 7, none⟩ = some (.slice AContours nContours cContours) ∧ Below w.heap.size w wr) (fun _ i _ => nContours - (intOf i).toNat)
  case atStart => exact ⟨0, 0, Nat.zero_le _, rfl, rfl, by omega, rfl, by simp, (Below.refl _ _).alloc (Nat.le_refl _) _⟩
  case round =>
    obtain ⟨k, m, hk, rfl, rfl, hm, hmd, hbox, hb⟩ := hrel
    have HM := Lib.hid hmd; clear hmd
    by_cases hlt : k < nContours
    · obtain ⟨b, off, y, Ar, nr, cr, rfl, hc, hry, hy⟩ := (hContours.below (rSlice_ok _ _ rInt_ok) hb).row hlt
      have hnr := hry.bound
      have hyl := Lib.hid hry.len
      by_cases hmx : m ≤ nr
      all_goals
        go_wp2
        go_roundw
        case rel => exact ⟨k + 1, max m nr, by omega, by go_num, by simp <;> omega, by omega, by rw [density_snoc hy.out, ← HM.out, hyl.out], hbox, hb⟩
        case measure => simp [intOf]; omega
    · go_wp2
      go_ret
      exact ⟨ret_int (by rw [HM.out, take_all hContours.len hlt]), hb⟩
set_option maxHeartbeats 800000 in
theorem iBouquetDensity_c (cs : List Value) (x : BouquetD) (w : World) (h : (rBouquet NB).rep w cs x) :
    Calls Try.prog 118 #[.agg cs.toArray] w fun e w' => e = .returned (.int .i64 (density x.fContours : Nat)) ∧ Below w.heap.size w w' := by
  obtain ⟨ABoxLow, nBoxLow, cBoxLow, ABoxHigh, nBoxHigh, cBoxHigh, ABudgets, nBudgets, cBudgets, APlans, nPlans, cPlans, AContours, nContours, cContours, rfl, hVersion, hRatio, hSlack, hBoxLow, hBoxHigh, hBudgets, hPlans, hContours⟩ := rBouquet_rep.1 h
  have hn := hContours.bound
  clear h hVersion hRatio hSlack hBoxLow hBoxHigh hBudgets hPlans
  go_enter Try.func118, Try.ntmps118
  go_wp2
  go_loopw [3, 9] (fun c i wr => ∃ (k m : Nat), k ≤ nContours ∧ i = .int .i64 k ∧ c = .int .i64 m ∧ m ≤ 4294967296 ∧ m = density (x.fContours.take k) ∧ Below w.heap.size w wr) (fun _ i _ => nContours - (intOf i).toNat)
  case atStart => exact ⟨0, 0, Nat.zero_le _, rfl, rfl, by omega, rfl, (Below.refl _ _).alloc (Nat.le_refl _) _⟩
  case round =>
    obtain ⟨k, m, hk, rfl, rfl, hm, hmd, hb⟩ := hrel
    have HM := Lib.hid hmd; clear hmd
    by_cases hlt : k < nContours
    · obtain ⟨b, off, y, Ar, nr, cr, rfl, hc, hry, hy⟩ := (hContours.below (rSlice_ok _ _ rInt_ok) hb).row hlt
      have hnr := hry.bound
      have hyl := Lib.hid hry.len
      by_cases hmx : m ≤ nr
      all_goals
        go_wp2
        go_roundw
        case rel => exact ⟨k + 1, max m nr, by omega, by go_num, by simp <;> omega, by omega, by rw [density_snoc hy.out, ← HM.out, hyl.out], hb⟩
        case measure => simp [intOf]; omega
    · go_wp2
      go_ret
      exact ⟨ret_int (by rw [HM.out, take_all hContours.len hlt]), hb⟩
end Go.Proofs.Ytobildkjikhdiaa
