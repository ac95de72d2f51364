/-
  Contracts: is a row the sizes of a query, both sides.
-/
import Derived.Test.YtpdccgnapgneaaaGreatPcp
import Derived.Test.YtpdccgnapgneaaaGreatLoc
import Derived.Test.YtpdccgnapgneaaaGreatQi
namespace Go.Proofs.YtpdccgnapgneaaaGreat
open Go.RowKit
set_option linter.unusedVariables false
set_option linter.unusedSimpArgs false
theorem fullBd (q : QueryD) : 0 ≤ fullMask q ∧ fullMask q ≤ 15 := by
  unfold fullMask
  split
  · rename_i h
    have : (2 : Nat) ^ q.fAtoms.length ≤ 2 ^ 4 := Nat.pow_le_pow_right (by omega) (validQ_parts h).2.2.2.1
    have : 1 ≤ (2 : Nat) ^ q.fAtoms.length := Nat.one_le_two_pow
    omega
  · omega
theorem isSizes_q {q : QueryD} {z : List Int} (h : validQ q = false) : isSizes q z = false := by simp [isSizes, h]
theorem isSizes_len {q : QueryD} {z : List Int} {n : Nat} (hl : z.length = n) (h : ((n : Int) == fullMask q + 1) = false) : isSizes q z = false := by
  have : ¬ (n : Int) = fullMask q + 1 := by simpa using h
  simp [isSizes, hl, this]
theorem isSizes_no {q : QueryD} {z : List Int} {k : Nat} {x : Int} (h : z[k]? = some x) (hx : inR x 0 4096 = false) : isSizes q z = false := by
  have : z.all (fun n => inR n 0 4096) = false := by rw [List.all_eq_false]; exact ⟨x, mem_of_at h, by simp [hx]⟩
  simp [isSizes, this]
theorem isSizes_end {q : QueryD} {z : List Int} {n : Nat} (hl : z.length = n) (h1 : validQ q = true) (h2 : ((n : Int) == fullMask q + 1) = true) (h : z.all (fun c => inR c 0 4096) = true) : isSizes q z = true := by
  have : (n : Int) = fullMask q + 1 := by simpa using h2
  simp [isSizes, h1, h, hl, this]
set_option maxRecDepth 100000 in
set_option maxHeartbeats 1600000 in
theorem sIsSizeVector_c (csq : List Value) (q : QueryD) (Az : Option Addr) (nz cz : Nat) (z : List Int) (w : World) (hq : (rQuery NB).rep w csq q) (hz : RS NB rInt w Az nz cz z) :
    Calls Tryz.prog 133 #[.agg csq.toArray, .slice Az nz cz] w fun e w' => e = .returned (.bool (isSizes q z)) ∧ Below w.heap.size w w' := by
  have rq := hq
  obtain ⟨AqAtoms, nqAtoms, cqAtoms, rfl, hqVariableCount, hqAtoms⟩ := rQuery_rep.1 hq
  clear hq
  have hB : Below w.heap.size w w := Below.refl _ _
  have hAq := (Below.refl (World.heap (w)).size (w)).alloc (Nat.le_refl _) (.cells #[.int .i64 q.fVariableCount, .slice AqAtoms nqAtoms cqAtoms] 48)
  replace hB := hB.trans (hAq.mono hB.size)
  have bxq := Bx.new (w) [.int .i64 q.fVariableCount, .slice AqAtoms nqAtoms cqAtoms] 48
  clear hAq
  have hnz := hz.bound
  have hfm := fullBd q
  go_enter Tryz.func133, Tryz.ntmps133
  have kq_0 := bxq 0 _ rfl
  have kq_1 := bxq 1 _ rfl
  go_wp2_with fail
  refine (sIsValidQuery_c _ q _ ((rQuery_ok NB).keep rq (cells_below hB))).mono ?_
  rintro e w1 ⟨rfl, hb1⟩
  replace hB := hB.trans (hb1.mono hB.size)
  replace bxq := bxq.below hb1
  clear hb1 kq_0 kq_1
  cases e1 : validQ q
  · go_wp2
    go_ret
    exact ⟨ret_bool (a := false) (isSizes_q e1).symm, hB⟩
  have kq_0 := bxq 0 _ rfl
  have kq_1 := bxq 1 _ rfl
  go_wp2_with fail
  refine (sFullMask_c _ q _ ((rQuery_ok NB).keep rq (cells_below hB))).mono ?_
  rintro e w2 ⟨rfl, hb2⟩
  replace hB := hB.trans (hb2.mono hB.size)
  replace bxq := bxq.below hb2
  clear hb2 kq_0 kq_1
  have hw : IntKind.i64.wrap (fullMask q + 1) = fullMask q + 1 := IntWalk.i64_in _ (by omega)
  cases e2 : ((nz : Int) != fullMask q + 1)
  rotate_left
  · go_wp2
    go_ret
    exact ⟨ret_bool (a := false) (isSizes_len hz.len (by simpa using e2)).symm, hB⟩
  go_wp2
  clear hw
  have E1 := Lib.hid e1; clear e1
  have E2 : Hid (((nz : Int) == fullMask q + 1) = true) := Lib.hid (by simpa using e2)
  clear e2
  go_loop [5] (fun i => ∃ k : Nat, k ≤ nz ∧ i = .int .i64 k ∧ (z.take k).all (fun c => inR c 0 4096) = true) (fun i => nz - (intOf i).toNat)
  case atStart => exact ⟨0, Nat.zero_le _, rfl, rfl⟩
  case round =>
    obtain ⟨k, hk, rfl, hall⟩ := hrel
    have Hall := Lib.hid hall; clear hall
    by_cases hlt : k < nz
    · obtain ⟨b, off, x, rfl, hc, hI, hxk⟩ := (hz.below rInt_ok hB).ati hlt
      cases hx : inR x 0 4096
      · go_wp2_with (go_at_call 41; refine (l1In_v hx _).mono ?_; rintro e w' ⟨rfl, rfl⟩)
        go_ret
        exact ⟨ret_bool (a := false) (isSizes_no hxk.out hx).symm, hB⟩
      · go_wp2_with (go_at_call 41; refine (l1In_v hx _).mono ?_; rintro e w' ⟨rfl, rfl⟩)
        go_round
        case rel => exact ⟨k + 1, by omega, by go_num, all_snoc Hall.out hxk.out hx⟩
        case measure => simp [intOf]; omega
    · go_wp2
      go_ret
      exact ⟨ret_bool (a := true) (isSizes_end hz.len E1.out E2.out (take_all hz.len hlt ▸ Hall.out)).symm, hB⟩
set_option maxRecDepth 100000 in
set_option maxHeartbeats 1600000 in
theorem iIsSizeVector_c (csq : List Value) (q : QueryD) (Az : Option Addr) (nz cz : Nat) (z : List Int) (w : World) (hq : (rQuery NB).rep w csq q) (hz : RS NB rInt w Az nz cz z) :
    Calls Tryz.prog 150 #[.agg csq.toArray, .slice Az nz cz] w fun e w' => e = .returned (.bool (isSizes q z)) ∧ Below w.heap.size w w' := by
  have rq := hq
  obtain ⟨AqAtoms, nqAtoms, cqAtoms, rfl, hqVariableCount, hqAtoms⟩ := rQuery_rep.1 hq
  clear hq
  have hB : Below w.heap.size w w := Below.refl _ _
  have hAq := (Below.refl (World.heap (w)).size (w)).alloc (Nat.le_refl _) (.cells #[.int .i64 q.fVariableCount, .slice AqAtoms nqAtoms cqAtoms] 48)
  replace hB := hB.trans (hAq.mono hB.size)
  have bxq := Bx.new (w) [.int .i64 q.fVariableCount, .slice AqAtoms nqAtoms cqAtoms] 48
  clear hAq
  have hnz := hz.bound
  have hfm := fullBd q
  go_enter Tryz.func150, Tryz.ntmps150
  go_upto_region 2 with fail
  go_loop [9] (fun i => ∃ k : Nat, k ≤ nz ∧ i = .int .i64 k ∧ (z.take k).all (fun c => inR c 0 4096) = true) (fun i => nz - (intOf i).toNat)
  case atStart => exact ⟨0, Nat.zero_le _, rfl, rfl⟩
  case round =>
    obtain ⟨k, hk, rfl, hall⟩ := hrel
    have Hall := Lib.hid hall; clear hall
    by_cases hlt : k < nz
    · obtain ⟨b, off, x, rfl, hc, hI, hxk⟩ := (hz.below rInt_ok hB).ati hlt
      cases hx : inR x 0 4096
      · go_wp2_with (go_at_call 81; refine (within_c _ _ _ _).mono ?_; rintro e w' ⟨rfl, rfl⟩)
        go_ret
        exact ⟨ret_bool (a := false) (isSizes_no hxk.out hx).symm, hB⟩
      · go_wp2_with (go_at_call 81; refine (within_c _ _ _ _).mono ?_; rintro e w' ⟨rfl, rfl⟩)
        go_round
        case rel => exact ⟨k + 1, by omega, by go_num, all_snoc Hall.out hxk.out hx⟩
        case measure => simp [intOf]; omega
    · have HA : Hid (z.all (fun c => inR c 0 4096) = true) := Lib.hid (take_all hz.len hlt ▸ Hall.out)
      have kq_0 := bxq 0 _ rfl
      have kq_1 := bxq 1 _ rfl
      go_wp2_with fail
      refine (iIsValidQuery_c _ q _ ((rQuery_ok NB).keep rq (cells_below hB))).mono ?_
      rintro e w1 ⟨rfl, hb1⟩
      replace hB := hB.trans (hb1.mono hB.size)
      replace bxq := bxq.below hb1
      clear hb1 kq_0 kq_1
      cases e1 : validQ q
      · go_wp2
        go_ret
        exact ⟨ret_bool (a := false) (isSizes_q e1).symm, hB⟩
      have kq_0 := bxq 0 _ rfl
      have kq_1 := bxq 1 _ rfl
      go_wp2_with fail
      refine (iFullMask_c _ q _ ((rQuery_ok NB).keep rq (cells_below hB))).mono ?_
      rintro e w2 ⟨rfl, hb2⟩
      replace hB := hB.trans (hb2.mono hB.size)
      replace bxq := bxq.below hb2
      clear hb2 kq_0 kq_1
      have hw : IntKind.i64.wrap (fullMask q + 1) = fullMask q + 1 := IntWalk.i64_in _ (by omega)
      cases e2 : ((nz : Int) == fullMask q + 1)
      · go_wp2
        go_ret
        exact ⟨ret_bool (a := false) (isSizes_len hz.len e2).symm, hB⟩
      · go_wp2
        go_ret
        exact ⟨ret_bool (a := true) (isSizes_end hz.len e1 e2 HA.out).symm, hB⟩
end Go.Proofs.YtpdccgnapgneaaaGreat
