/-
  Fpn
-/
import Derived.Test.YtnbikckbnbgjkaaDoorFpl
import Derived.Test.YtnbikckbnbgjkaaDoorShelf
import Derived.Test.YtnbikckbnbgjkaaDoorKeep
import Derived.Lib.Join
namespace Go.Proofs.YtnbikckbnbgjkaaDoor
open Go.RowKit
set_option linter.unusedVariables false
set_option linter.unusedSimpArgs false
def joinB (sep : ByteArray) (l : List ByteArray) : ByteArray := ⟨(Lib.join (l.map (·.data.toList)) sep.data.toList).toArray⟩
theorem strE_f {x : ByteArray} (h : ¬ x = ⟨#[]⟩) : x.toList.isEmpty = false := by
 cases hx : x.toList.isEmpty
 ·rfl
 ·exfalso; apply h; rw [ByteArray.toList_eq] at hx; cases x; simp at hx; simp [hx]
theorem joinB_nil (sep : ByteArray) : joinB sep [] = ⟨#[]⟩ := rfl
theorem baExt {x y : ByteArray} (h : x.data.toList = y.data.toList) : x = y := by
 cases x; cases y; simp at h; rw [ByteArray.mk.injEq]; exact h
theorem joinB_one (sep y : ByteArray) : joinB sep [y] = y := by
 apply baExt; simp [joinB, Lib.join_one]
theorem joinB_snoc (sep y : ByteArray) {l : List ByteArray} (h : 0 < l.length) : joinB sep (l ++ [y]) = joinB sep l ++ sep ++ y := by
 match l, h with
 | x :: r, _ =>
  apply baExt
  simp only [joinB, List.cons_append, List.map_cons, List.map_append, List.map_nil, Lib.join_cons, ByteArray.data_append, Array.toList_append]
  simp [Lib.joinTail]
theorem joinB_size {sep : ByteArray} {m : Nat} {l : List ByteArray} (h : ∀ x ∈ l, x.size ≤ m) : (joinB sep l).size ≤ l.length * (m + sep.size) := by
 match l with
 | [] => exact Nat.zero_le _
 | x :: r =>
  have e : (joinB sep (x :: r)).size = (Lib.join ((x :: r).map (·.data.toList)) sep.data.toList).length := by simp [joinB, ByteArray.size]
  have hl : ∀ q : List ByteArray, (∀ x ∈ q, x.size ≤ m) → Lib.lens (q.map (·.data.toList)) ≤ q.length * m := by
   intro q hq
   induction q with
   | nil => simp [Lib.lens]
   | cons a q ih =>
    have h1 := hq a (by simp)
    have h2 := ih (fun x hx => hq x (by simp [hx]))
    simp only [Lib.lens, List.map_cons, List.sum_cons, List.length_cons, Nat.succ_mul] at h2 ⊢
    have : a.data.toList.length = a.size := by rw [Array.length_toList]; rfl
    omega
  have h1 := hl _ h
  rw [e, List.map_cons, Lib.join_length]
  simp only [List.map_cons, List.length_cons, List.length_map] at h1 ⊢
  have h2 : sep.data.toList.length = sep.size := by rw [Array.length_toList]; rfl
  have h3 : (r.length + 1) * (m + sep.size) = (r.length + 1) * m + r.length * sep.size + sep.size := by rw [Nat.mul_add, Nat.succ_mul r.length sep.size]; omega
  have h4 := Nat.mul_comm sep.size r.length
  rw [h2, h3, h4]
  omega
def planT (p : PlanD) : ByteArray :=
 if p.fSteps.length ≤ 14 ∧ ∀ x ∈ p.fSteps, stepT x ≠ ⟨#[]⟩ then joinB ⟨#[32]⟩ (p.fSteps.map stepT) else ⟨#[]⟩
theorem planT_long {p : PlanD} (h : ¬ p.fSteps.length ≤ 14) : planT p = ⟨#[]⟩ := by unfold planT; rw [if_neg (fun g => h g.1)]
theorem planT_bad {p : PlanD} {x : PlanStepD} (h : x ∈ p.fSteps) (hx : stepT x = ⟨#[]⟩) : planT p = ⟨#[]⟩ := by unfold planT; rw [if_neg (fun g => g.2 x h hx)]
theorem planT_ok {p : PlanD} (h : p.fSteps.length ≤ 14) (hx : ∀ x ∈ p.fSteps, stepT x ≠ ⟨#[]⟩) : planT p = joinB ⟨#[32]⟩ (p.fSteps.map stepT) := by unfold planT; rw [if_pos ⟨h, hx⟩]
theorem steps_snoc {l : List PlanStepD} {k : Nat} {x : PlanStepD} (h : l[k]? = some x) : (l.take (k + 1)).map stepT = (l.take k).map stepT ++ [stepT x] := by
 rw [take_snoc h, List.map_append]; rfl
theorem allSnoc {l : List PlanStepD} {k : Nat} {x : PlanStepD} (h : l[k]? = some x) (h1 : ∀ y ∈ l.take k, stepT y ≠ ⟨#[]⟩) (h2 : stepT x ≠ ⟨#[]⟩) : ∀ y ∈ l.take (k + 1), stepT y ≠ ⟨#[]⟩ := by
 intro y hy
 rw [take_snoc h, List.mem_append, List.mem_singleton] at hy
 rcases hy with hy | rfl
 ·exact h1 y hy
 ·exact h2
set_option maxRecDepth 100000 in
set_option maxHeartbeats 1600000 in
theorem sFormatPlan_c (csp : List Value) (p : PlanD) (w : World) (hp : (rPlan NB).rep w csp p) :
  Calls Tryd.prog 41 #[.agg csp.toArray] w fun e w' => e = .returned (.string (planT p)) ∧ Below w.heap.size w w' := by
 have rp := hp
 obtain ⟨ApSteps, npSteps, cpSteps, rfl, hpSteps⟩ := rPlan_rep.1 hp
 clear hp
 have hB : Below w.heap.size w w := Below.refl _ _
 have hAp := (Below.refl (World.heap (w)).size (w)).alloc (Nat.le_refl _) (.cells #[.slice ApSteps npSteps cpSteps] 89)
 replace hB := hB.trans (hAp.mono hB.size)
 have bxp := Bx.new (w) [.slice ApSteps npSteps cpSteps] 89
 clear hAp
 have hnp := hpSteps.bound
 have HL := Lib.hid hpSteps.len
 have kp_0 := bxp 0 _ rfl
 by_cases h14 : npSteps ≤ 14
 ·have HFull : Hid (p.fSteps.length ≤ 14) := by show _ ≤ _; rw [HL.out]; exact h14
  go_enter Tryd.func41, Tryd.ntmps41
  go_upto_region 4 with fail
  obtain ⟨wb, hwb⟩ : ∃ W, W = w.alloc (.cells #[.slice ApSteps npSteps cpSteps] 89) := ⟨_, rfl⟩
  rw [← hwb] at hB bxp kp_0 ⊢
  clear hwb kp_0
  go_wp2
  go_loopw [3, 4] (fun vs vi wr => ∃ (k : Nat) (s : ByteArray), k ≤ npSteps ∧ vi = .int .i64 k ∧ vs = .string s ∧ s.size ≤ 22 * k ∧ s = joinB ⟨#[32]⟩ ((p.fSteps.take k).map stepT) ∧ (∀ x ∈ p.fSteps.take k, stepT x ≠ ⟨#[]⟩) ∧ Below wb.heap.size wb wr) (fun _ vi _ => npSteps - (intOf vi).toNat)
  case atStart => exact ⟨0, _, Nat.zero_le _, rfl, rfl, Nat.le_refl _, rfl, by simp, Below.refl _ _⟩
  case round =>
   obtain ⟨k, s, hk, rfl, rfl, hsz, hs, hall, hE⟩ := hrel
   have HS := Lib.hid hs; clear hs
   have HA := Lib.hid hall; clear hall
   have hB2 := hB.trans (hE.mono hB.size)
   have kp_0 := (bxp.below hE) 0 _ rfl
   by_cases hlt : k < npSteps
   ·obtain ⟨b, off, x, rfl, hc0, hc1, hc2, i0, i1, i2, hx⟩ := hpSteps.ePlanStep hlt
    have HX := Lib.hid hx.out; clear hx
    obtain ⟨xk, xa, xo⟩ := x
    dsimp only at hc0 hc1 hc2 i0 i1 i2
    have z1 := stepT_le (x := ⟨xk, xa, xo⟩) i1
    obtain ⟨F1, hF1⟩ : ∃ F, F = stepT ⟨xk, xa, xo⟩ := ⟨_, rfl⟩
    rw [← hF1] at z1
    have HF1 := Lib.hid hF1; clear hF1
    have K1 : Hid (∀ W, Below w.heap.size w W → Calls Tryd.prog 60 #[.agg #[.int .i64 xk, .int .i64 xa, .int .i64 xo]] W fun e w' => e = .returned (.string F1) ∧ Below W.heap.size W w') := by
     show ∀ W, _ → _
     intro W _; rw [HF1.out]; exact sStepText_c _ ⟨xk, xa, xo⟩ W (rPlanStep_rep.2 ⟨rfl, i0, i1, i2⟩)
    replace hc0 := cells_below hB2 _ _ hc0
    replace hc1 := cells_below hB2 _ _ hc1
    replace hc2 := cells_below hB2 _ _ hc2
    by_cases hF0 : F1 = ⟨#[]⟩
    ·have HN : Hid (planT p = ⟨#[]⟩) := by show _ = _; exact planT_bad (mem_of_at HX.out) (by rw [← HF1.out]; exact hF0)
     subst hF0
     go_wp2_with (go_at_call 60; refine (K1.out _ hB2).mono ?_; rintro e w2 ⟨rfl, hb2⟩)
     go_ret
     exact ⟨by rw [HN.out]; rfl, hB2.trans (hb2.mono hB2.size)⟩
    ·have hq := strE_f hF0
     have HT : Hid (joinB ⟨#[32]⟩ ((p.fSteps.take (k + 1)).map stepT) = if 0 < k then s ++ ⟨#[32]⟩ ++ F1 else F1) := by
      show _ = _
      rw [steps_snoc HX.out, ← HF1.out]
      split
      ·rw [joinB_snoc _ _ (by simp; have := HL.out; omega), HS.out]
      ·rename_i h0
       obtain rfl : k = 0 := by omega
       rw [List.take_zero, List.map_nil, List.nil_append, joinB_one]
     have HA2 : Hid (∀ x ∈ p.fSteps.take (k + 1), stepT x ≠ ⟨#[]⟩) := by show ∀ x ∈ _, _; exact allSnoc HX.out HA.out (by rw [← HF1.out]; exact hF0)
     by_cases hk0 : 0 < k
     ·have n1 : ¬ 9223372036854775807 < s.size + 1 := by omega
      have n2 : ¬ 9223372036854775807 < s.size + 1 + F1.size := by omega
      have hkI : (0 : Int) < (k : Int) := by omega
      go_wp2_with (go_at_call 60; refine (K1.out _ hB2).mono ?_; rintro e w2 ⟨rfl, hb2⟩)
      go_roundw
      case rel => exact ⟨k + 1, _, by omega, by go_num, rfl, by simp only [ByteArray.size_append]; rw [show (⟨#[32]⟩ : ByteArray).size = 1 from rfl]; omega, by rw [HT.out, if_pos hk0], HA2.out, hE.trans (hb2.mono hE.size)⟩
      case measure => simp [intOf]; omega
     ·have hs0 : Hid (s = ⟨#[]⟩) := by show _ = _; rw [HS.out, show k = 0 by omega]; rfl
      have n2 : ¬ 9223372036854775807 < s.size + F1.size := by omega
      have hkI : ¬ (0 : Int) < (k : Int) := by omega
      go_wp2_with (go_at_call 60; refine (K1.out _ hB2).mono ?_; rintro e w2 ⟨rfl, hb2⟩)
      go_roundw
      case rel => exact ⟨k + 1, _, by omega, by go_num, rfl, by simp only [ByteArray.size_append]; omega, by rw [HT.out, if_neg hk0, hs0.out]; exact baExt (by simp), HA2.out, hE.trans (hb2.mono hE.size)⟩
      case measure => simp [intOf]; omega
   ·have HE : Hid (s = planT p) := by
     show _ = _
     have e : p.fSteps.take k = p.fSteps := List.take_of_length_le (by rw [HL.out]; omega)
     have h := HA.out
     rw [e] at h
     rw [HS.out, e, planT_ok HFull.out h]
    go_wp2
    go_ret
    exact ⟨by rw [← HE.out]; rfl, hB2⟩
 ·have HN : Hid (planT p = ⟨#[]⟩) := by show _ = _; exact planT_long (by rw [HL.out]; exact h14)
  have h14' : ¬ (npSteps : Int) ≤ 14 := by omega
  go_enter Tryd.func41, Tryd.ntmps41
  go_wp2
  go_ret
  exact ⟨by rw [HN.out]; rfl, hB⟩
theorem eiStr : Ei Tryd.prog 93 9 (.string ByteArray.empty) (rStr NB).size 16 := ⟨by kernel_rfl, by kernel_rfl, rfl⟩
theorem cellS_new (W : World) (v : Value) (t : TypeId) : ∀ j u, [v][j]? = some u → (W.alloc (.cells #[v] t)).cell? (Addr.add ⟨W.heap.size, 0, none⟩ j) = some u := fun j u h => cells_new W t [v] j u h
theorem MS.strs {B M : Nat} {e : TypeId} {w : World} {g n c : Nat} {l : List ByteArray} (h : MS B M e (rStr NB) w (some ⟨g, 0, none⟩) n c l) : ∀ (j : Nat) x, l[j]? = some x → w.cell? ⟨g, 0 + j, none⟩ = some (.string x) := by
 intro j x hj
 have hr := h.rs (rStr_ok NB)
 have hl := hr.len
 have hjn : j < n := by have := (List.getElem?_eq_some_iff.1 hj).1; omega
 obtain ⟨b, off, x', cs, e, hrep, hc, hx⟩ := hr.at_ hjn
 injection e with e; injection e with e1 e2; subst e1; subst e2
 have hxx : x' = x := by have := hx.out; rw [hj] at this; injection this with this; exact this.symm
 subst hxx
 obtain ⟨rfl, _⟩ := hrep
 have := hc 0 _ rfl
 simpa [rStr] using this
set_option maxRecDepth 100000 in
set_option maxHeartbeats 1600000 in
theorem iFormatPlan_c (csp : List Value) (p : PlanD) (w : World) (hp : (rPlan NB).rep w csp p) (ht : Tab w) :
  Calls Tryd.prog 47 #[.agg csp.toArray] w fun e w' => e = .returned (.string (planT p)) ∧ Below w.heap.size w w' := by
 have rp := hp
 obtain ⟨ApSteps, npSteps, cpSteps, rfl, hpSteps⟩ := rPlan_rep.1 hp
 clear hp
 have hB : Below w.heap.size w w := Below.refl _ _
 have hAp := (Below.refl (World.heap (w)).size (w)).alloc (Nat.le_refl _) (.cells #[.slice ApSteps npSteps cpSteps] 89)
 replace hB := hB.trans (hAp.mono hB.size)
 have bxp := Bx.new (w) [.slice ApSteps npSteps cpSteps] 89
 clear hAp
 have hnp := hpSteps.bound
 have hnc := hpSteps.nc
 have HL := Lib.hid hpSteps.len
 have kp_0 := bxp 0 _ rfl
 cases hin : inR npSteps 1 14
 ·have HN : Hid (planT p = ⟨#[]⟩) := by
   show _ = _
   rcases inR_f.1 hin with h | h
   ·have h0 : p.fSteps = [] := List.eq_nil_of_length_eq_zero (by rw [HL.out]; omega)
    unfold planT; rw [h0]; rfl
   ·exact planT_long (by rw [HL.out]; omega)
  have KW := Lib.hid (fun W => within_v hin W); clear hin
  go_enter Tryd.func47, Tryd.ntmps47
  go_wp2_with (go_at_call 46; refine (KW.out _).mono ?_; rintro e w' ⟨rfl, hww⟩; replace hww := hww.symm; subst hww)
  go_ret
  exact ⟨by rw [HN.out]; rfl, hB⟩
 ·have h14 := inR_t.1 hin
  have HFull : Hid (p.fSteps.length ≤ 14) := by show _ ≤ _; rw [HL.out]; omega
  have KW := Lib.hid (fun W => within_v hin W); clear hin
  obtain ⟨bS, oS, eA⟩ : ∃ b o, ApSteps = some ⟨b, o, none⟩ := by obtain ⟨b, o, e, _⟩ := hpSteps.cell (by omega); exact ⟨b, o, e⟩
  subst eA
  go_enter Tryd.func47, Tryd.ntmps47
  go_upto_region 4 with (go_at_call 46; refine (KW.out _).mono ?_; rintro e w' ⟨rfl, hww⟩; replace hww := hww.symm; subst hww)
  obtain ⟨wa, hwa⟩ : ∃ W, W = w.alloc (.cells #[.slice (some ⟨bS, oS, none⟩) npSteps cpSteps] 89) := ⟨_, rfl⟩
  have HZ : Hid (wa.heap.size = w.heap.size + 1) := by show _ = _; rw [hwa]; simp
  rw [← hwa] at hB bxp kp_0 ⊢
  clear hwa kp_0 KW
  have hM0 := MS.empty (B := wa.heap.size) (M := NB) (e := 9) (r := rStr NB) wa (Nat.le_refl _)
  have hE0 := (Below.refl wa.heap.size wa).alloc (Nat.le_refl _) (.cells #[] 9)
  obtain ⟨wb, hwb⟩ : ∃ W, W = wa.alloc (.cells #[] 9) := ⟨_, rfl⟩
  rw [← hwb] at hM0 hE0 ⊢
  clear hwb
  replace hM0 : MS wa.heap.size NB 9 (rStr NB) wb (some ⟨w.heap.size + 1, 0, none⟩) 0 0 [] := by rw [show w.heap.size + 1 = wa.heap.size from HZ.out.symm]; exact hM0
  have kp_0 := (bxp.below hE0) 0 _ rfl
  go_wp2
  clear kp_0
  go_loopw [3, 16] (fun vs vi wr => ∃ (k c : Nat) (A : Option Addr), k ≤ npSteps ∧ vi = .int .i64 k ∧ vs = .slice A k c ∧ MS wa.heap.size NB 9 (rStr NB) wr A k c ((p.fSteps.take k).map stepT) ∧ (∀ x ∈ p.fSteps.take k, stepT x ≠ ⟨#[]⟩) ∧ Below wa.heap.size wa wr) (fun _ vi _ => npSteps - (intOf vi).toNat)
  case atStart => exact ⟨0, 0, _, Nat.zero_le _, rfl, rfl, hM0, by simp, hE0⟩
  case round =>
   clear hM0 hE0
   obtain ⟨k, c, A, hk, rfl, rfl, hM, hall, hE⟩ := hrel
   have HA := Lib.hid hall; clear hall
   have hB2 := hB.trans (hE.mono hB.size)
   by_cases hlt : k < npSteps
   ·obtain ⟨b', o', x, e', hc0, hc1, hc2, i0, i1, i2, hx⟩ := hpSteps.ePlanStep hlt
    injection e' with e'; injection e' with e1 e2; subst e1; subst e2
    have HX := Lib.hid hx.out; clear hx
    obtain ⟨xk, xa, xo⟩ := x
    dsimp only at hc0 hc1 hc2 i0 i1 i2
    have z1 := stepT_le (x := ⟨xk, xa, xo⟩) i1
    obtain ⟨F1, hF1⟩ : ∃ F, F = stepT ⟨xk, xa, xo⟩ := ⟨_, rfl⟩
    rw [← hF1] at z1
    have HF1 := Lib.hid hF1; clear hF1
    have K1 : Hid (∀ W, Below w.heap.size w W → Calls Tryd.prog 64 #[.agg #[.int .i64 xk, .int .i64 xa, .int .i64 xo]] W fun e w' => e = .returned (.string F1) ∧ Below W.heap.size W w') := by
     show ∀ W, _ → _
     intro W hW; rw [HF1.out]; exact iStepText_c _ ⟨xk, xa, xo⟩ W (rPlanStep_rep.2 ⟨rfl, i0, i1, i2⟩) (ht.below hW)
    replace hc0 := cells_below hB2 _ _ hc0
    replace hc1 := cells_below hB2 _ _ hc1
    replace hc2 := cells_below hB2 _ _ hc2
    go_upto_region 7 with fail
    have bxx := Bx.new wr [.int .i64 xk, .int .i64 xa, .int .i64 xo] 113
    have hAx := (Below.refl wr.heap.size wr).alloc (Nat.le_refl _) (.cells #[.int .i64 xk, .int .i64 xa, .int .i64 xo] 113)
    obtain ⟨wx, hwx⟩ : ∃ W, W = wr.alloc (.cells #[.int .i64 xk, .int .i64 xa, .int .i64 xo] 113) := ⟨_, rfl⟩
    rw [← hwx] at hAx bxx ⊢
    clear hwx hc0 hc1 hc2
    have hE2 := hE.trans (hAx.mono hE.size)
    have hB3 := hB2.trans (hAx.mono hB2.size)
    have hMx := hM.below (rStr_ok NB) hAx
    obtain ⟨gx, hgx⟩ : ∃ g, g = wr.heap.size := ⟨_, rfl⟩
    rw [← hgx] at bxx ⊢
    clear hgx hAx hM
    have kx0 := bxx 0 _ rfl
    have kx1 := bxx 1 _ rfl
    have kx2 := bxx 2 _ rfl
    by_cases hF0 : F1 = ⟨#[]⟩
    ·have HN : Hid (planT p = ⟨#[]⟩) := by show _ = _; exact planT_bad (mem_of_at HX.out) (by rw [← HF1.out]; exact hF0)
     subst hF0
     go_wp2_with (go_at_call 64; refine (K1.out _ hB3).mono ?_; rintro e w2 ⟨rfl, hb2⟩)
     go_ret
     exact ⟨by rw [HN.out]; rfl, hB3.trans (hb2.mono hB3.size)⟩
    ·have hq := strE_f hF0
     have HT : Hid ((p.fSteps.take (k + 1)).map stepT = (p.fSteps.take k).map stepT ++ [F1]) := by
      show _ = _
      rw [steps_snoc HX.out, ← HF1.out]
     have HA2 : Hid (∀ x ∈ p.fSteps.take (k + 1), stepT x ≠ ⟨#[]⟩) := by show ∀ x ∈ _, _; exact allSnoc HX.out HA.out (by rw [← HF1.out]; exact hF0)
     go_wp2_with (first | (go_at_call 64; refine (K1.out _ hB3).mono ?_; rintro e w2 ⟨rfl, hb2⟩; have hE3 := hE2.trans (hb2.mono hE2.size); have hM3 := hMx.below (rStr_ok NB) hb2; clear hMx kx0 kx1 kx2) | (at_builtin; refine wpList_app (r := rStr NB) rfl _ _ 93 rfl _ 16 eiStr (rStr_ok NB) rfl hM3 ((Below.refl _ _).alloc (Nat.le_refl _) _) hE3.size ⟨_, 0, none⟩ rfl [] [.string F1] F1 ⟨rfl, rfl, by unfold NB; omega⟩ (Fr.nil _) (cellS_new _ _ _) (by unfold NB; omega) (Nat.le_refl _) (by omega) ?_; intro A9 c9 w9 hM9 hb9 hg9))
     go_roundw
     case rel => exact ⟨k + 1, _, _, by omega, by go_num, rfl, by rw [HT.out]; exact hM9, HA2.out, (hE3.alloc hE3.size _).trans hb9⟩
     case measure => simp [intOf]; omega
   ·have e : p.fSteps.take k = p.fSteps := List.take_of_length_le (by rw [HL.out]; omega)
    have h := HA.out
    rw [e] at h
    rw [e] at hM
    have HE : Hid (planT p = joinB ⟨#[32]⟩ (p.fSteps.map stepT)) := by show _ = _; exact planT_ok HFull.out h
    have hkn : k = npSteps := by omega
    clear h e
    subst hkn
    obtain ⟨g, rfl, hgl, _⟩ := hM.form (by omega)
    have hnc2 := (hM.rs (rStr_ok NB)).nc
    have hlen : ((p.fSteps.map stepT).length) = k := by rw [List.length_map, HL.out]
    have K9 : Hid (Calls Tryd.prog 48 #[.slice (some ⟨g, 0, none⟩) k c, .string ⟨#[32]⟩] wr fun e w' => e = .returned (.string (planT p)) ∧ Below wr.heap.size wr w') := by
     show Calls _ _ _ _ _
     rw [HE.out]
     have := Tryd.strings_Join g 0 c (p.fSteps.map stepT) ⟨#[32]⟩ wr hM.strs hgl (by omega) (by omega) (by
      have h1 := joinB_size (sep := ⟨#[32]⟩) (m := 21) (l := p.fSteps.map stepT) (fun x hx => by
       obtain ⟨y, hy, rfl⟩ := List.mem_map.1 hx
       obtain ⟨j, hj⟩ := List.getElem?_of_mem hy
       obtain ⟨_, _, x', _, _, _, _, _, i1, _, hx'⟩ := hpSteps.ePlanStep (k := j) (by have := (List.getElem?_eq_some_iff.1 hj).1; have := HL.out; omega)
       have hxx := hx'.out; rw [hj] at hxx; injection hxx with hxx; subst hxx
       exact stepT_le i1)
      have h2 : (joinB ⟨#[32]⟩ (p.fSteps.map stepT)).size = (Lib.join ((p.fSteps.map stepT).map (·.data.toList)) (⟨#[32]⟩ : ByteArray).data.toList).length := by simp [joinB, ByteArray.size]
      rw [show (⟨#[32]⟩ : ByteArray).size = 1 from rfl, hlen] at h1
      omega)
     rw [hlen] at this
     exact this
    clear hlen
    go_wp2_with (go_at_call 48; refine K9.out.mono ?_; rintro e w2 ⟨rfl, hb2⟩)
    go_ret
    exact ⟨rfl, hB2.trans (hb2.mono hB2.size)⟩
end Go.Proofs.YtnbikckbnbgjkaaDoor
