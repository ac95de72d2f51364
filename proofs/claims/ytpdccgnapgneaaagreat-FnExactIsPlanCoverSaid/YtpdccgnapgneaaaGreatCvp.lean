/-
  Contracts: do plans cover a frontier, both sides. Printed by mk_cvb.py.
-/
import Derived.Test.YtpdccgnapgneaaaGreatTa
import Derived.Test.YtpdccgnapgneaaaGreatCvl
import Derived.Test.YtpdccgnapgneaaaGreatHas
namespace Go.Proofs.YtpdccgnapgneaaaGreat
open Go.RowKit
set_option linter.unusedVariables false
set_option linter.unusedSimpArgs false
theorem idxOfAny {α : Type} (p : α → Bool) (l : List α) : decide (0 ≤ idxOf p l) = l.any p := by
  unfold idxOf
  cases hf : l.findIdx? p with
  | none =>
    rw [List.findIdx?_eq_none_iff] at hf
    have : l.any p = false := by rw [List.any_eq_false]; intro x hx; simpa using hf x hx
    rw [this]; rfl
  | some i =>
    have h := (List.findIdx?_eq_some_iff_getElem.1 hf)
    obtain ⟨hi, hp, _⟩ := h
    have : l.any p = true := by rw [List.any_eq_true]; exact ⟨_, List.getElem_mem hi, hp⟩
    rw [this]; simp
theorem all_no2 {α : Type} {p : α → Bool} {l : List α} {k : Nat} {x : α} (h : l[k]? = some x) (hx : p x = false) : l.all p = false := by
  rw [List.all_eq_false]; exact ⟨x, mem_of_at h, by simp [hx]⟩
theorem any_of_take {α : Type} {p : α → Bool} {l : List α} {k : Nat} (h : (l.take k).any p = true) : l.any p = true := by
  rw [List.any_eq_true] at h ⊢
  obtain ⟨x, hx, hp⟩ := h
  exact ⟨x, List.mem_of_mem_take hx, hp⟩
set_option maxRecDepth 100000 in
set_option maxHeartbeats 1600000 in
theorem indexFunc_IsPlanCover_1_c (A : Option Addr) (n cap : Nat) (l : List Int) (cp1 : Value) (cp2 : Value) (cp3 : Value) (cp4 : Value) (cp5 : Value) (p : Int → Bool) (w : World) (hr : RS NB rInt w A n cap l)
    (hf : ∀ x W, x ∈ l → Below w.heap.size w W → Calls Tryz.prog 54 #[.int .i64 x, cp1, cp2, cp3, cp4, cp5] W fun e w' => e = .returned (.bool (p x)) ∧ Below W.heap.size W w') :
    Calls Tryz.prog 87 #[.slice A n cap, .func (.func 54) #[] #[cp1, cp2, cp3, cp4, cp5]] w fun e w' => e = .returned (.int .i64 (idxOf p l)) ∧ Below w.heap.size w w' := by
  have hn := hr.bound
  have HF := Lib.hid hf; clear hf
  go_enter Tryz.func87, Tryz.ntmps87
  go_wp2
  go_loopw [8] (fun i wr => ∃ k : Nat, k ≤ n ∧ i = .int .i64 k ∧ (l.take k).all (fun b => !p b) = true ∧ Below w.heap.size w wr) (fun i _ => n - (intOf i).toNat)
  case atStart => exact ⟨0, Nat.zero_le _, rfl, rfl, Below.refl _ _⟩
  case round =>
    obtain ⟨k, hk, rfl, hall, hb⟩ := hrel
    have Hall := Lib.hid hall; clear hall
    by_cases hlt : k < n
    · obtain ⟨b, off, x, rfl, hc, hI, hxk⟩ := (hr.below rInt_ok hb).ati hlt
      cases hx : p x
      · go_wp2_with (go_at_call 54; refine (HF.out x wr (mem_of_at hxk.out) hb).mono ?_; rintro e w1 ⟨rfl, hb1⟩)
        go_roundw
        case rel => exact ⟨k + 1, by omega, by go_num, all_snoc' Hall.out hxk.out (by simp [hx]), hb.trans (hb1.mono hb.size)⟩
        case measure => simp [intOf]; omega
      · go_wp2_with (go_at_call 54; refine (HF.out x wr (mem_of_at hxk.out) hb).mono ?_; rintro e w1 ⟨rfl, hb1⟩)
        go_ret
        exact ⟨ret_int (idxOf_yes Hall.out hxk.out hx).symm, hb.trans (hb1.mono hb.size)⟩
    · go_wp2
      go_ret
      exact ⟨ret_int (a := -1) (idxOf_no (take_all hr.len hlt ▸ Hall.out)).symm, hb⟩
set_option maxRecDepth 100000 in
set_option maxHeartbeats 1600000 in
theorem containsFunc_IsPlanCover_1_c (A : Option Addr) (n cap : Nat) (l : List Int) (cp1 : Value) (cp2 : Value) (cp3 : Value) (cp4 : Value) (cp5 : Value) (p : Int → Bool) (w : World) (hr : RS NB rInt w A n cap l)
    (hf : ∀ x W, x ∈ l → Below w.heap.size w W → Calls Tryz.prog 54 #[.int .i64 x, cp1, cp2, cp3, cp4, cp5] W fun e w' => e = .returned (.bool (p x)) ∧ Below W.heap.size W w') :
    Calls Tryz.prog 53 #[.slice A n cap, .func (.func 54) #[] #[cp1, cp2, cp3, cp4, cp5]] w fun e w' => e = .returned (.bool (l.any p)) ∧ Below w.heap.size w w' := by
  go_enter Tryz.func53, Tryz.ntmps53
  go_wp2_with fail
  refine (indexFunc_IsPlanCover_1_c A n cap l _ _ _ _ _ p w hr hf).mono ?_
  rintro e w1 ⟨rfl, hb1⟩
  generalize hk : idxOf p l = k
  have HK := Lib.hid hk; clear hk
  go_wp2
  go_ret
  exact ⟨ret_bool (by rw [← idxOfAny, HK.out]), hb1⟩
set_option maxRecDepth 100000 in
set_option maxHeartbeats 1600000 in
theorem planCoverFn_c {csm : List Value} {m : ModelD} {csq : List Value} {q : QueryD} {css : List Value} {s : SpaceD} {k x b : Int} {gm gq gs gx gb : Nat} {w : World} (hm : (rModel NB).rep w csm m) (hq : (rQuery NB).rep w csq q) (hs : (rSpace NB).rep w css s) (bm : Bx w gm csm) (bq : Bx w gq csq) (bs : Bx w gs css) (bx : w.cell? ⟨gx, 0, none⟩ = some (.int .i64 x)) (bb : w.cell? ⟨gb, 0, none⟩ = some (.int .i64 b)) (lenm' : csm.length = 30) (hI : I64 x) :
    Calls Tryz.prog 54 #[.int .i64 k, .pointer (some ⟨gm, 0, none⟩), .pointer (some ⟨gq, 0, none⟩), .pointer (some ⟨gs, 0, none⟩), .pointer (some ⟨gx, 0, none⟩), .pointer (some ⟨gb, 0, none⟩)] w fun e w' => e = .returned (.bool (coversL m q s k x b)) ∧ Below w.heap.size w w' := by
  have rq := hq
  have rs := hs
  obtain ⟨Aq, nq, cq, rfl, _, _⟩ := rQuery_rep.1 hq
  obtain ⟨A1, n1, c1, A2, n2, c2, A3, n3, c3, A4, n4, c4, A5, n5, c5, rfl, _, _, _, _, _⟩ := rSpace_rep.1 hs
  have q0 := bq 0 _ rfl
  have q1 := bq 1 _ rfl
  have s0 := bs 0 _ rfl
  have s1 := bs 1 _ rfl
  have s2 := bs 2 _ rfl
  have s3 := bs 3 _ rfl
  have s4 := bs 4 _ rfl
  go_enter Tryz.func54, Tryz.ntmps54
  go_wp2_with (refine wpList_load_mid rfl 44 _ rfl gm 0 rfl csm _ bm.range Tryz.underlying44 rfl (by rw [lenm']; exact sizeModel) ?_)
  refine (iCoversLocation_c _ m _ q _ s k x b _ hm rq rs hI).mono ?_
  rintro e w1 ⟨rfl, hb1⟩
  go_wp2
  go_ret
  exact ⟨rfl, hb1⟩
set_option maxRecDepth 100000 in
set_option maxHeartbeats 1600000 in
theorem iIsPlanCover_c (csm : List Value) (m : ModelD) (csq : List Value) (q : QueryD) (css : List Value) (s : SpaceD) (Ap : Option Addr) (np cp : Nat) (p : List Int) (Af : Option Addr) (nf cf : Nat) (f : List Int) (b : Int) (w : World) (hm : (rModel NB).rep w csm m) (hq : (rQuery NB).rep w csq q) (hs : (rSpace NB).rep w css s) (hp : RS NB rInt w Ap np cp p) (hf : RS NB rInt w Af nf cf f) :
    Calls Tryz.prog 20 #[.agg csm.toArray, .agg csq.toArray, .agg css.toArray, .slice Ap np cp, .slice Af nf cf, .int .i64 b] w fun e w' => e = .returned (.bool (f.all (fun x => p.any (fun k => coversL m q s k x b)))) ∧ Below w.heap.size w w' := by
  have rm := hm
  have lenm := (rModel_ok NB).len hm
  clear hm
  have rq := hq
  obtain ⟨AqAtoms, nqAtoms, cqAtoms, rfl, hqVariableCount, hqAtoms⟩ := rQuery_rep.1 hq
  clear hq
  have rs := hs
  obtain ⟨AsBoxLow, nsBoxLow, csBoxLow, AsBoxHigh, nsBoxHigh, csBoxHigh, AsCosts, nsCosts, csCosts, AsChoices, nsChoices, csChoices, AsPlans, nsPlans, csPlans, rfl, hsBoxLow, hsBoxHigh, hsCosts, hsChoices, hsPlans⟩ := rSpace_rep.1 hs
  clear hs
  have hB : Below w.heap.size w w := Below.refl _ _
  have hAm := (Below.refl (World.heap (w)).size (w)).alloc (Nat.le_refl _) (.cells csm.toArray 44)
  replace hB := hB.trans (hAm.mono hB.size)
  have bxm := Bx.new (w) csm 44
  clear hAm
  have hAq := (Below.refl (World.heap ((w).alloc (.cells csm.toArray 44))).size ((w).alloc (.cells csm.toArray 44))).alloc (Nat.le_refl _) (.cells #[.int .i64 q.fVariableCount, .slice AqAtoms nqAtoms cqAtoms] 48)
  replace hB := hB.trans (hAq.mono hB.size)
  replace bxm := bxm.below hAq
  have bxq := Bx.new ((w).alloc (.cells csm.toArray 44)) [.int .i64 q.fVariableCount, .slice AqAtoms nqAtoms cqAtoms] 48
  simp only [World.size_alloc] at bxq
  clear hAq
  have hAs := (Below.refl (World.heap (((w).alloc (.cells csm.toArray 44)).alloc (.cells #[.int .i64 q.fVariableCount, .slice AqAtoms nqAtoms cqAtoms] 48))).size (((w).alloc (.cells csm.toArray 44)).alloc (.cells #[.int .i64 q.fVariableCount, .slice AqAtoms nqAtoms cqAtoms] 48))).alloc (Nat.le_refl _) (.cells #[.slice AsBoxLow nsBoxLow csBoxLow, .slice AsBoxHigh nsBoxHigh csBoxHigh, .slice AsCosts nsCosts csCosts, .slice AsChoices nsChoices csChoices, .slice AsPlans nsPlans csPlans] 53)
  replace hB := hB.trans (hAs.mono hB.size)
  replace bxm := bxm.below hAs
  replace bxq := bxq.below hAs
  have bxs := Bx.new (((w).alloc (.cells csm.toArray 44)).alloc (.cells #[.int .i64 q.fVariableCount, .slice AqAtoms nqAtoms cqAtoms] 48)) [.slice AsBoxLow nsBoxLow csBoxLow, .slice AsBoxHigh nsBoxHigh csBoxHigh, .slice AsCosts nsCosts csCosts, .slice AsChoices nsChoices csChoices, .slice AsPlans nsPlans csPlans] 53
  simp only [World.size_alloc] at bxs
  clear hAs
  have lenm' : csm.length = 30 := lenm
  clear lenm
  have hnf := hf.bound
  go_enter Tryz.func20, Tryz.ntmps20
  go_upto_region 1 with fail
  obtain ⟨wb, hwb⟩ : ∃ W, W = (((w.alloc (.cells csm.toArray 44)).alloc (.cells #[.int .i64 q.fVariableCount, .slice AqAtoms nqAtoms cqAtoms] 48)).alloc (.cells #[.slice AsBoxLow nsBoxLow csBoxLow, .slice AsBoxHigh nsBoxHigh csBoxHigh, .slice AsCosts nsCosts csCosts, .slice AsChoices nsChoices csChoices, .slice AsPlans nsPlans csPlans] 53)).alloc (.cells #[.int .i64 b] 3) := ⟨_, rfl⟩
  have hBA := (Below.refl (((w.alloc (.cells csm.toArray 44)).alloc (.cells #[.int .i64 q.fVariableCount, .slice AqAtoms nqAtoms cqAtoms] 48)).alloc (.cells #[.slice AsBoxLow nsBoxLow csBoxLow, .slice AsBoxHigh nsBoxHigh csBoxHigh, .slice AsCosts nsCosts csCosts, .slice AsChoices nsChoices csChoices, .slice AsPlans nsPlans csPlans] 53)).heap.size (((w.alloc (.cells csm.toArray 44)).alloc (.cells #[.int .i64 q.fVariableCount, .slice AqAtoms nqAtoms cqAtoms] 48)).alloc (.cells #[.slice AsBoxLow nsBoxLow csBoxLow, .slice AsBoxHigh nsBoxHigh csBoxHigh, .slice AsCosts nsCosts csCosts, .slice AsChoices nsChoices csChoices, .slice AsPlans nsPlans csPlans] 53))).alloc (Nat.le_refl _) (.cells #[.int .i64 b] 3)
  have bxb := Bx.new (((w.alloc (.cells csm.toArray 44)).alloc (.cells #[.int .i64 q.fVariableCount, .slice AqAtoms nqAtoms cqAtoms] 48)).alloc (.cells #[.slice AsBoxLow nsBoxLow csBoxLow, .slice AsBoxHigh nsBoxHigh csBoxHigh, .slice AsCosts nsCosts csCosts, .slice AsChoices nsChoices csChoices, .slice AsPlans nsPlans csPlans] 53)) [.int .i64 b] 3
  simp only [World.size_alloc] at bxb
  replace bxm := bxm.below hBA
  replace bxq := bxq.below hBA
  replace bxs := bxs.below hBA
  replace hB := hB.trans (hBA.mono hB.size)
  clear hBA
  rw [← hwb] at hB bxm bxq bxs bxb ⊢
  clear hwb
  go_wp2
  go_loopw [17] (fun i wr => ∃ j : Nat, j ≤ nf ∧ i = .int .i64 j ∧ (f.take j).all (fun x => p.any (fun k => coversL m q s k x b)) = true ∧ Below wb.heap.size wb wr) (fun i _ => nf - (intOf i).toNat)
  case atStart => exact ⟨0, Nat.zero_le _, rfl, rfl, Below.refl _ _⟩
  case round =>
    obtain ⟨j, hj, rfl, hall, hE⟩ := hrel
    have HA := Lib.hid hall; clear hall
    have hB2 := hB.trans (hE.mono hB.size)
    by_cases hlt : j < nf
    · obtain ⟨bf, of, x, rfl, hc, hI, hx⟩ := hf.ati hlt
      have HX := Lib.hid hx.out; clear hx
      replace hc := cells_below hB2 _ _ hc
      go_upto_region 4 with fail
      have hAx := (Below.refl wr.heap.size wr).alloc (Nat.le_refl _) (.cells #[.int .i64 x] 3)
      have bx1 := Bx.new wr [.int .i64 x] 3
      obtain ⟨wx, hwx⟩ : ∃ W, W = wr.alloc (.cells #[.int .i64 x] 3) := ⟨_, rfl⟩
      rw [← hwx] at hAx bx1 ⊢
      clear hwx hc
      have hE2 := hE.trans (hAx.mono hE.size)
      have hB3 := hB2.trans (hAx.mono hB2.size)
      go_wp2_with fail
      refine (containsFunc_IsPlanCover_1_c _ _ _ p _ _ _ _ _ (fun k => coversL m q s k x b) _ (hp.below rInt_ok hB3) ?_).mono ?_
      · intro k W _ hW
        have hz := hE2.trans (hW.mono hE2.size)
        have hX := hB3.trans (hW.mono hB3.size)
        exact planCoverFn_c ((rModel_ok NB).keep rm (cells_below hX)) ((rQuery_ok NB).keep rq (cells_below hX)) ((rSpace_ok NB).keep rs (cells_below hX)) (bxm.below hz) (bxq.below hz) (bxs.below hz) (bx1.below hW 0 _ rfl) (bxb.below hz 0 _ rfl) lenm' hI
      rintro e w2 ⟨rfl, hb2⟩
      have hE3 := hE2.trans (hb2.mono hE2.size)
      cases hv : p.any (fun k => coversL m q s k x b)
      · have HN := Lib.hid (all_no2 (p := fun x => p.any (fun k => coversL m q s k x b)) HX.out hv); clear hv
        go_wp2
        go_ret
        exact ⟨ret_bool (a := false) HN.out.symm, hB3.trans (hb2.mono hB3.size)⟩
      · have HY := Lib.hid (all_snoc (p := fun x => p.any (fun k => coversL m q s k x b)) HA.out HX.out hv); clear hv
        go_wp2
        go_roundw
        case rel => exact ⟨j + 1, by omega, by go_num, HY.out, hE3⟩
        case measure => simp [intOf]; omega
    · have HE : Hid (f.all (fun x => p.any (fun k => coversL m q s k x b)) = true) := by show _ = _; have := HA.out; rwa [take_all hf.len hlt] at this
      go_wp2
      go_ret
      exact ⟨ret_bool (a := true) HE.out.symm, hB2⟩
set_option maxRecDepth 100000 in
set_option maxHeartbeats 1600000 in
theorem sIsPlanCover_c (csm : List Value) (m : ModelD) (csq : List Value) (q : QueryD) (css : List Value) (s : SpaceD) (Ap : Option Addr) (np cp : Nat) (p : List Int) (Af : Option Addr) (nf cf : Nat) (f : List Int) (b : Int) (w : World) (hm : (rModel NB).rep w csm m) (hq : (rQuery NB).rep w csq q) (hs : (rSpace NB).rep w css s) (hp : RS NB rInt w Ap np cp p) (hf : RS NB rInt w Af nf cf f) :
    Calls Tryz.prog 18 #[.agg csm.toArray, .agg csq.toArray, .agg css.toArray, .slice Ap np cp, .slice Af nf cf, .int .i64 b] w fun e w' => e = .returned (.bool (f.all (fun x => p.any (fun k => coversL m q s k x b)))) ∧ Below w.heap.size w w' := by
  have rm := hm
  have lenm := (rModel_ok NB).len hm
  clear hm
  have rq := hq
  obtain ⟨AqAtoms, nqAtoms, cqAtoms, rfl, hqVariableCount, hqAtoms⟩ := rQuery_rep.1 hq
  clear hq
  have rs := hs
  obtain ⟨AsBoxLow, nsBoxLow, csBoxLow, AsBoxHigh, nsBoxHigh, csBoxHigh, AsCosts, nsCosts, csCosts, AsChoices, nsChoices, csChoices, AsPlans, nsPlans, csPlans, rfl, hsBoxLow, hsBoxHigh, hsCosts, hsChoices, hsPlans⟩ := rSpace_rep.1 hs
  clear hs
  have hB : Below w.heap.size w w := Below.refl _ _
  have hAm := (Below.refl (World.heap (w)).size (w)).alloc (Nat.le_refl _) (.cells csm.toArray 44)
  replace hB := hB.trans (hAm.mono hB.size)
  have bxm := Bx.new (w) csm 44
  clear hAm
  have hAq := (Below.refl (World.heap ((w).alloc (.cells csm.toArray 44))).size ((w).alloc (.cells csm.toArray 44))).alloc (Nat.le_refl _) (.cells #[.int .i64 q.fVariableCount, .slice AqAtoms nqAtoms cqAtoms] 48)
  replace hB := hB.trans (hAq.mono hB.size)
  replace bxm := bxm.below hAq
  have bxq := Bx.new ((w).alloc (.cells csm.toArray 44)) [.int .i64 q.fVariableCount, .slice AqAtoms nqAtoms cqAtoms] 48
  simp only [World.size_alloc] at bxq
  clear hAq
  have hAs := (Below.refl (World.heap (((w).alloc (.cells csm.toArray 44)).alloc (.cells #[.int .i64 q.fVariableCount, .slice AqAtoms nqAtoms cqAtoms] 48))).size (((w).alloc (.cells csm.toArray 44)).alloc (.cells #[.int .i64 q.fVariableCount, .slice AqAtoms nqAtoms cqAtoms] 48))).alloc (Nat.le_refl _) (.cells #[.slice AsBoxLow nsBoxLow csBoxLow, .slice AsBoxHigh nsBoxHigh csBoxHigh, .slice AsCosts nsCosts csCosts, .slice AsChoices nsChoices csChoices, .slice AsPlans nsPlans csPlans] 53)
  replace hB := hB.trans (hAs.mono hB.size)
  replace bxm := bxm.below hAs
  replace bxq := bxq.below hAs
  have bxs := Bx.new (((w).alloc (.cells csm.toArray 44)).alloc (.cells #[.int .i64 q.fVariableCount, .slice AqAtoms nqAtoms cqAtoms] 48)) [.slice AsBoxLow nsBoxLow csBoxLow, .slice AsBoxHigh nsBoxHigh csBoxHigh, .slice AsCosts nsCosts csCosts, .slice AsChoices nsChoices csChoices, .slice AsPlans nsPlans csPlans] 53
  simp only [World.size_alloc] at bxs
  clear hAs
  have lenm' : csm.length = 30 := lenm
  clear lenm
  have hnf := hf.bound
  go_enter Tryz.func18, Tryz.ntmps18
  go_upto_region 1 with fail
  obtain ⟨wb, hwb⟩ : ∃ W, W = ((w.alloc (.cells csm.toArray 44)).alloc (.cells #[.int .i64 q.fVariableCount, .slice AqAtoms nqAtoms cqAtoms] 48)).alloc (.cells #[.slice AsBoxLow nsBoxLow csBoxLow, .slice AsBoxHigh nsBoxHigh csBoxHigh, .slice AsCosts nsCosts csCosts, .slice AsChoices nsChoices csChoices, .slice AsPlans nsPlans csPlans] 53) := ⟨_, rfl⟩
  rw [← hwb] at hB bxm bxq bxs ⊢
  clear hwb
  have hnp := hp.bound
  go_wp2
  go_loopw [13] (fun i wr => ∃ j : Nat, j ≤ nf ∧ i = .int .i64 j ∧ (f.take j).all (fun x => p.any (fun k => coversL m q s k x b)) = true ∧ Below wb.heap.size wb wr) (fun i _ => nf - (intOf i).toNat)
  case atStart => exact ⟨0, Nat.zero_le _, rfl, rfl, Below.refl _ _⟩
  case round =>
    obtain ⟨j, hj, rfl, hall, hE⟩ := hrel
    have HA := Lib.hid hall; clear hall
    have hB2 := hB.trans (hE.mono hB.size)
    by_cases hlt : j < nf
    · obtain ⟨bf, of, x, rfl, hc, hI, hx⟩ := hf.ati hlt
      have HX := Lib.hid hx.out; clear hx
      go_wp2
      go_loopw [14, 15] (fun v i wr => ∃ (t : Nat) (u : Bool), t ≤ np ∧ i = .int .i64 t ∧ v = .bool u ∧ u = (p.take t).any (fun k => coversL m q s k x b) ∧ Below wb.heap.size wb wr) (fun _ i _ => np - (intOf i).toNat)
      case atStart => exact ⟨0, false, Nat.zero_le _, rfl, rfl, rfl, hE⟩
      case round =>
        clear hE hB2
        obtain ⟨t, u, ht, rfl, rfl, hu, hE⟩ := hrel
        have HU := Lib.hid hu; clear hu
        have hB2 := hB.trans (hE.mono hB.size)
        cases u with
        | true =>
          have HY : Hid (p.any (fun k => coversL m q s k x b) = true) := by show _ = _; exact any_of_take HU.out.symm
          have HZ := Lib.hid (all_snoc (p := fun x => p.any (fun k => coversL m q s k x b)) HA.out HX.out HY.out)
          by_cases hlt2 : t < np
          all_goals
            go_wp2
            go_roundw
            case rel => exact ⟨j + 1, by omega, by go_num, HZ.out, hE⟩
            case measure => simp [intOf]; omega
        | false =>
          by_cases hlt2 : t < np
          · obtain ⟨bp, op, k, rfl, hcp, hIk, hk⟩ := hp.ati hlt2
            have HK := Lib.hid hk.out; clear hk
            have hcp2 := cells_below hB2 _ _ hcp
            have hcf2 := cells_below hB2 _ _ hc
            have HSS : Hid (∀ w', Below wr.heap.size wr w' → (w'.rangeAt w.heap.size 0 csm ∧ w'.cell? ⟨w.heap.size + 1, 0, none⟩ = some (.int .i64 q.fVariableCount) ∧ w'.cell? ⟨w.heap.size + 1, 1, none⟩ = some (.slice AqAtoms nqAtoms cqAtoms) ∧ w'.cell? ⟨w.heap.size + 1 + 1, 0, none⟩ = some (.slice AsBoxLow nsBoxLow csBoxLow) ∧ w'.cell? ⟨w.heap.size + 1 + 1, 1, none⟩ = some (.slice AsBoxHigh nsBoxHigh csBoxHigh) ∧ w'.cell? ⟨w.heap.size + 1 + 1, 2, none⟩ = some (.slice AsCosts nsCosts csCosts) ∧ w'.cell? ⟨w.heap.size + 1 + 1, 3, none⟩ = some (.slice AsChoices nsChoices csChoices) ∧ w'.cell? ⟨w.heap.size + 1 + 1, 4, none⟩ = some (.slice AsPlans nsPlans csPlans) ∧ w'.cell? ⟨bf, of + j, none⟩ = some (.int .i64 x) ∧ w'.cell? ⟨bp, op + t, none⟩ = some (.int .i64 k))) := by
              show ∀ w', _ → _
              intro w' hb
              have hz := hE.trans (hb.mono hE.size)
              exact ⟨(bxm.below hz).range, (bxq.below hz) 0 _ rfl, (bxq.below hz) 1 _ rfl, (bxs.below hz) 0 _ rfl, (bxs.below hz) 1 _ rfl, (bxs.below hz) 2 _ rfl, (bxs.below hz) 3 _ rfl, (bxs.below hz) 4 _ rfl, cells_below hb _ _ hcf2, cells_below hb _ _ hcp2⟩
            have K1 : Hid (∀ W, Below wb.heap.size wb W → Calls Tryz.prog 10 #[.agg csm.toArray, .agg #[.int .i64 q.fVariableCount, .slice AqAtoms nqAtoms cqAtoms], .agg #[.slice AsBoxLow nsBoxLow csBoxLow, .slice AsBoxHigh nsBoxHigh csBoxHigh, .slice AsCosts nsCosts csCosts, .slice AsChoices nsChoices csChoices, .slice AsPlans nsPlans csPlans], .int .i64 k, .int .i64 x, .int .i64 b] W fun e w' => e = .returned (.bool (coversL m q s k x b)) ∧ Below W.heap.size W w') := by
              show ∀ W, _ → _
              intro W hW
              have hX := hB.trans (hW.mono hB.size)
              exact sCoversLocation_c _ m _ q _ s k x b W ((rModel_ok NB).keep rm (cells_below hX)) ((rQuery_ok NB).keep rq (cells_below hX)) ((rSpace_ok NB).keep rs (cells_below hX)) hI
            have HN : Hid (coversL m q s k x b = (p.take (t + 1)).any (fun k => coversL m q s k x b)) := by
              show _ = _
              rw [take_snoc HK.out, List.any_append, ← HU.out]; simp
            clear hcp2 hcf2 hcp hc
            go_wp2
            refine hbg HSS.out (Below.refl _ _).drew (fun hHeld => ?_)
            refine' wpAnyH_take (i := 0) (oi := ⟨some 32,_,_,_,_,_⟩) (v := _) rfl (by kernel_rfl) (by kernel_rfl) (by kernel_rfl) (fun _ _ _ h => h) (yieldsIf_load_mid (by rfl) _ _ rfl _ _ rfl _ _ (fun w h => h.1) Tryz.underlying44 rfl (by rw [lenm']; exact sizeModel)) hHeld ?_
            simp only [putS]
            refine tka 1 (some 33) hHeld ?_; try simp only [putS]
            refine tka 2 (some 34) hHeld ?_; try simp only [putS]
            refine tka 3 (some 35) hHeld ?_; try simp only [putS]
            refine tka 4 (some 36) hHeld ?_; try simp only [putS]
            refine tka 5 (some 37) hHeld ?_; try simp only [putS]
            refine tka 6 (some 38) hHeld ?_; try simp only [putS]
            refine tka 7 (some 39) hHeld ?_; try simp only [putS]
            refine tka 8 (some 40) hHeld ?_; try simp only [putS]
            refine tka 9 (some 41) hHeld ?_; try simp only [putS]
            refine tka 10 (some 42) hHeld ?_; try simp only [putS]
            refine tka 11 (some 43) hHeld ?_; try simp only [putS]
            refine wpAnyH_ready (rs := [12]) (by kernel_rfl) (by simp) ?_
            refine AllReadyH.cons (o := ⟨some 44, _, _, _, _, _⟩) rfl (fun K hK => ?_) AllReadyH.nil
            clear hHeld
            go_simp
            refine (K1.out _ (hE.drew)).mono ?_
            rintro e w2 ⟨rfl, hb2⟩
            have hC : Below wr.heap.size wr w2 := ((Below.refl wr.heap.size wr).drew.trans (hb2.mono (by simp)))
            go_wp2_with fail
            refine hK.out _ _ (HSS.out _ hC) (fun hHeld => ?_)
            clear hK K
            try simp only [putS]
            refine tka 13 (some 14) hHeld ?_; try simp only [putS]
            refine wpAnyH_done (by kernel_rfl) ?_ _
            clear hHeld
            clear HSS K1
            go_wp2
            go_roundw
            case rel => exact ⟨t + 1, coversL m q s k x b, by omega, by go_num, rfl, HN.out, hE.trans (hC.mono hE.size)⟩
            case measure => simp [intOf]; omega
          · have HN : Hid (f.all (fun x => p.any (fun k => coversL m q s k x b)) = false) := by
              show _ = _
              have := HU.out
              rw [take_all hp.len hlt2] at this
              exact all_no2 (p := fun x => p.any (fun k => coversL m q s k x b)) HX.out this.symm
            go_wp2
            go_ret
            exact ⟨ret_bool (a := false) HN.out.symm, hB2⟩
    · have HE : Hid (f.all (fun x => p.any (fun k => coversL m q s k x b)) = true) := by show _ = _; have := HA.out; rwa [take_all hf.len hlt] at this
      go_wp2
      go_ret
      exact ⟨ret_bool (a := true) HE.out.symm, hB2⟩
end Go.Proofs.YtpdccgnapgneaaaGreat
