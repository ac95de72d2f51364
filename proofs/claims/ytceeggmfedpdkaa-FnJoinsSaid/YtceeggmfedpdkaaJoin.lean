/-
  Join
-/
import Derived.Test.YtceeggmfedpdkaaJnI
namespace Go.Proofs.Ytceeggmfedpdkaa
open Go.RowKit
set_option linter.unusedVariables false
set_option linter.unusedSimpArgs false

theorem union_iff {a b : List Int} (ha : colsOk a 4 = true) (hb : colsOk b 4 = true) (v : Int) : v ∈ unionI a b ↔ v ∈ a ∨ v ∈ b := by
 rw [unionI_mem]
 constructor
 ·exact fun h => h.2
 ·intro h
  refine ⟨?_, h⟩
  rcases h with h | h
  ·have := colsOk_mem ha h; omega
  ·have := colsOk_mem hb h; omega
theorem validStream_parts {x : StreamD} (h : validStream x = true) : colsOk x.fVars 4 = true ∧ (∀ r ∈ x.fRows, rowOk r x.fVars.length = true) ∧ x.fRows.length ≤ 4096 := by
 unfold validStream at h
 simp only [Bool.and_eq_true, List.all_eq_true, decide_eq_true_eq] at h
 exact ⟨h.1, h.2.1, h.2.2⟩
theorem rowOk_len {r : List Int} {n : Nat} (h : rowOk r n = true) : r.length = n := by
 unfold rowOk at h
 simp only [Bool.and_eq_true, decide_eq_true_eq] at h
 omega
theorem bset2 {B : Nat} {a w : World} (h : Below B a w) {Y : Nat} (hY : B ≤ Y) (u v : Value) : Below B a ((w.setCell ⟨Y, 0, none⟩ u).setCell ⟨Y, 1, none⟩ v) := (h.setCell hY _).setCell hY _
theorem rows_len {α β γ : Type} (f : α → β → Option γ) (xs : List α) (ys : List β) (k : Nat) (x : α) (hx : xs[k]? = some x) (h : ¬ (nestRows f (xs.take (k + 1)) ys).length ≤ 4096) : ¬ (nestRows f xs ys).length ≤ 4096 := by
 have := nest_le (f := f) (xs := xs) (ys := ys) (k + 1); omega
theorem capS_full {vars : List Int} {r r' : List (List Int)} (h : ¬ r.length ≤ 4096) (h' : ¬ r'.length ≤ 4096) : capS vars r = capS vars r' := by unfold capS; rw [if_neg h, if_neg h']
theorem fmt_snoc {α γ : Type} {f : α → Option γ} {ys : List α} {k : Nat} {y : α} (r : List γ) (h : ys[k]? = some y) : r ++ (ys.take (k + 1)).filterMap f = (r ++ (ys.take k).filterMap f) ++ (f y).toList := by rw [fm_snoc h, List.append_assoc]

set_option maxRecDepth 100000 in
set_option maxHeartbeats 1600000 in
theorem iHashJoin_c (csx : List Value) (x : StreamD) (csy : List Value) (y : StreamD) (w : World) (hx : (rStream NB).rep w csx x) (hy : (rStream NB).rep w csy y) :
  Calls Try.prog 14 #[.agg csx.toArray, .agg csy.toArray] w (RetVB (rStream NB) (hashJoin x y).1 (.bool (hashJoin x y).2) w) := by
 have rx := hx
 obtain ⟨AxVars, nxVars, cxVars, AxRows, nxRows, cxRows, rfl, hxVars, hxRows⟩ := rStream_rep.1 hx
 clear hx
 have ry := hy
 obtain ⟨AyVars, nyVars, cyVars, AyRows, nyRows, cyRows, rfl, hyVars, hyRows⟩ := rStream_rep.1 hy
 clear hy
 have hB : Below w.heap.size w w := Below.refl _ _
 have hAx := (Below.refl (World.heap (w)).size (w)).alloc (Nat.le_refl _) (.cells #[.slice AxVars nxVars cxVars, .slice AxRows nxRows cxRows] 40)
 replace hB := hB.trans (hAx.mono hB.size)
 have bxx := Bx.new (w) [.slice AxVars nxVars cxVars, .slice AxRows nxRows cxRows] 40
 clear hAx
 have hAy := (Below.refl (World.heap ((w).alloc (.cells #[.slice AxVars nxVars cxVars, .slice AxRows nxRows cxRows] 40))).size ((w).alloc (.cells #[.slice AxVars nxVars cxVars, .slice AxRows nxRows cxRows] 40))).alloc (Nat.le_refl _) (.cells #[.slice AyVars nyVars cyVars, .slice AyRows nyRows cyRows] 40)
 replace hB := hB.trans (hAy.mono hB.size)
 replace bxx := bxx.below hAy
 have bxy := Bx.new ((w).alloc (.cells #[.slice AxVars nxVars cxVars, .slice AxRows nxRows cxRows] 40)) [.slice AyVars nyVars cyVars, .slice AyRows nyRows cyRows] 40
 simp only [World.size_alloc] at bxy
 clear hAy
 have hnx := hxRows.bound
 have hny := hyRows.bound
 have HLX := Lib.hid hxRows.len
 have HLY := Lib.hid hyRows.len
 obtain ⟨wa, hwa⟩ : ∃ wa, wa = (w.alloc (.cells #[.slice AxVars nxVars cxVars, .slice AxRows nxRows cxRows] 40)).alloc (.cells #[.slice AyVars nyVars cyVars, .slice AyRows nyRows cyRows] 40) := ⟨_, rfl⟩
 rw [← hwa] at hB bxx bxy
 have hsa : wa.heap.size = w.heap.size + 1 + 1 := by rw [hwa]; simp
 have hBA := (Below.refl wa.heap.size wa).alloc (Nat.le_refl _) (.cells #[.slice none 0 0, .slice none 0 0] 40)
 have bkR := Bk.new wa [.slice none 0 0, .slice none 0 0] 40
 replace hB := hB.trans (hBA.mono hB.size)
 replace bxx := bxx.below hBA
 replace bxy := bxy.below hBA
 clear hBA
 rw [hwa] at hB bxx bxy bkR hsa
 have HSA := Lib.hid hsa; clear hsa
 simp only [World.size_alloc] at bkR
 clear hwa
 go_enter Try.func14, Try.ntmps14
 go_wp2_with fail
 refine (iIsValidStream_c _ x _ ((rStream_ok NB).keep rx (cells_below hB))).mono ?_
 rintro e w1 ⟨rfl, hb1⟩
 replace hB := hB.trans (hb1.mono hB.size)
 replace bxx := bxx.below hb1
 replace bxy := bxy.below hb1
 replace bkR := bkR.below hb1
 clear hb1
 cases e1 : validStream x
 ·have rf0 := bkR.frozen 0
  have rf1 := bkR.frozen 1
  have rc0 := bkR.bx 0 _ rfl
  have rc1 := bkR.bx 1 _ rfl
  have rl := bkR.lt
  have he : hashJoin x y = (⟨[], []⟩, false) := by simp [hashJoin, e1]
  have HE := Lib.hid he; clear he
  go_wp2
  have bk3 := (bkR.set 0 (.slice none 0 0)).set 1 (.slice none 0 0)
  have q0 := bk3.bx 0 _ rfl
  have q1 := bk3.bx 1 _ rfl
  refine bodyPost_ret (v := .tuple #[.agg #[.slice none 0 0, .slice none 0 0], .bool false]) (by simp [results, Try.results14, go_sem, q0, q1]) rfl ?_
  rw [HE.out]
  exact ⟨[.slice none 0 0, .slice none 0 0], [], rfl, zStream_own _, Fr.nil _, bset2 hB (by omega) _ _⟩
 have ky_0 := bxy 0 _ rfl
 have ky_1 := bxy 1 _ rfl
 go_wp2_with fail
 refine (iIsValidStream_c _ y _ ((rStream_ok NB).keep ry (cells_below hB))).mono ?_
 rintro e w2 ⟨rfl, hb2⟩
 replace hB := hB.trans (hb2.mono hB.size)
 replace bxx := bxx.below hb2
 replace bxy := bxy.below hb2
 replace bkR := bkR.below hb2
 clear hb2 ky_0 ky_1
 cases e2 : validStream y
 ·have rf0 := bkR.frozen 0
  have rf1 := bkR.frozen 1
  have rc0 := bkR.bx 0 _ rfl
  have rc1 := bkR.bx 1 _ rfl
  have rl := bkR.lt
  have he : hashJoin x y = (⟨[], []⟩, false) := by simp [hashJoin, e2]
  have HE := Lib.hid he; clear he
  go_wp2
  have bk3 := (bkR.set 0 (.slice none 0 0)).set 1 (.slice none 0 0)
  have q0 := bk3.bx 0 _ rfl
  have q1 := bk3.bx 1 _ rfl
  refine bodyPost_ret (v := .tuple #[.agg #[.slice none 0 0, .slice none 0 0], .bool false]) (by simp [results, Try.results14, go_sem, q0, q1]) rfl ?_
  rw [HE.out]
  exact ⟨[.slice none 0 0, .slice none 0 0], [], rfl, zStream_own _, Fr.nil _, bset2 hB (by omega) _ _⟩
 have HE : Hid (hashJoin x y = capS (unionI x.fVars y.fVars) (nestRows (fun q p => joinBy x y p q) y.fRows x.fRows)) := by show _ = _; simp [hashJoin, e1, e2]
 obtain ⟨px1, px2, px3⟩ := validStream_parts e1
 obtain ⟨py1, py2, py3⟩ := validStream_parts e2
 have HM := Lib.hid (union_iff px1 py1)
 have PX := Lib.hid px2
 have PY := Lib.hid py2
 clear e1 e2 px2 py2
 rw [HLX.out] at px3
 rw [HLY.out] at py3
 have kx_0 := bxx 0 _ rfl
 have kx_1 := bxx 1 _ rfl
 have ky_0 := bxy 0 _ rfl
 have ky_1 := bxy 1 _ rfl
 have RX := (hxRows.below (rSlice_ok NB _ rInt_ok) hB)
 have RY := (hyRows.below (rSlice_ok NB _ rInt_ok) hB)
 have RVx := (hxVars.below rInt_ok hB)
 have RVy := (hyVars.below rInt_ok hB)
 go_wp2_with fail
 refine (iNewJoiner_c _ _ _ _ _ _ _ _ _ _ _ _ x.fVars y.fVars _ RVx RVy px1 py1).mono ?_
 rintro e w3 ⟨g, AV, nV, cV, rfl, hkJ, hgB, ⟨fpV, oV, frV⟩, hVg, hb3⟩
 obtain rfl : fpV = blk AV := (osInt.1 oV).1
 obtain ⟨v2, hv2⟩ : ∃ v, v = Value.slice AxRows nxRows cxRows := ⟨_, rfl⟩
 obtain ⟨v4, hv4⟩ : ∃ v, v = Value.slice AyRows nyRows cyRows := ⟨_, rfl⟩
 rw [← hv2, ← hv4] at hkJ
 clear hv2 hv4
 have hJ : Jn w2 w3 g [.slice AxVars nxVars cxVars, v2, .slice AyVars nyVars cyVars, v4] (unionI x.fVars y.fVars) [] w3 := ⟨⟨AV, nV, cV, none, 0, 0, hkJ, oV, fun q hq => ⟨frV.ge q hq, oV.lt rInt_ok q hq, hVg q hq⟩, MS.nil _ (Nat.zero_le _)⟩, hgB, hkJ.lt, hb3, Nat.le_refl _⟩
 clear hkJ oV frV hVg px1 py1
 have ky_1 := (bxy.below hb3) 1 _ rfl
 go_wp2_with fail
 go_loopw [26] (fun i wr => ∃ k : Nat, k ≤ nyRows ∧ i = .int .i64 k ∧ (nestRows (fun q p => joinBy x y p q) (y.fRows.take k) x.fRows).length ≤ 4096 ∧ Jn w2 w3 g [.slice AxVars nxVars cxVars, v2, .slice AyVars nyVars cyVars, v4] (unionI x.fVars y.fVars) (nestRows (fun q p => joinBy x y p q) (y.fRows.take k) x.fRows) wr) (fun i _ => nyRows - (intOf i).toNat)
 case atStart => exact ⟨0, Nat.zero_le _, rfl, Nat.zero_le _, hJ⟩
 case round =>
  clear hJ ky_1
  obtain ⟨k, hk, rfl, hle, hJ⟩ := hrel
  have hE := hJ.b0
  by_cases hlt : k < nyRows
  ·obtain ⟨b1, o1, q, Aq, nq, cq, e0, hc, hrq, hq⟩ := RY.row hlt
   subst e0
   replace hc := cells_below hE _ _ hc
   have kx_1 := (bxx.below hE) 1 _ rfl
   have HS := Lib.hid (nest_snoc (f := (fun q p => joinBy x y p q)) (ys := x.fRows) hq.out)
   have lq : nq = nyVars := by rw [← hrq.len, rowOk_len (PY.out _ (mem_of_at hq.out)), RVy.len]
   have Lq := Lib.hid lq; clear lq
   go_wp2
   go_loopw [33] (fun i wr2 => ∃ j : Nat, j ≤ nxRows ∧ i = .int .i64 j ∧ Jn w2 w3 g [.slice AxVars nxVars cxVars, v2, .slice AyVars nyVars cyVars, v4] (unionI x.fVars y.fVars) (nestRows (fun q p => joinBy x y p q) (y.fRows.take k) x.fRows ++ (x.fRows.take j).filterMap ((fun q p => joinBy x y p q) q)) wr2) (fun i _ => nxRows - (intOf i).toNat)
   case atStart => exact ⟨0, Nat.zero_le _, rfl, by simpa using hJ⟩
   case round =>
    clear hJ hE hc
    obtain ⟨j, hj, rfl, hJ⟩ := hrel
    have hE := hJ.b0
    by_cases hlt2 : j < nxRows
    ·obtain ⟨b2, o2, p, Ap, np, cp, e0, hc, hrp, hp⟩ := RX.row hlt2
     subst e0
     replace hc := cells_below hE _ _ hc
     have HS2 := Lib.hid (fmt_snoc (f := (fun q p => joinBy x y p q) q) (nestRows (fun q p => joinBy x y p q) (y.fRows.take k) x.fRows) hp.out)
     have lp : np = nxVars := by rw [← hrp.len, rowOk_len (PX.out _ (mem_of_at hp.out)), RVx.len]
     have Lp := Lib.hid lp; clear lp
     have hbd : (nestRows (fun q p => joinBy x y p q) (y.fRows.take k) x.fRows ++ (x.fRows.take j).filterMap ((fun q p => joinBy x y p q) q)).length ≤ 100000 := by
      have h1 := fm_le ((fun q p => joinBy x y p q) q) (x.fRows.take j)
      have h2 : (x.fRows.take j).length ≤ j := List.length_take_le _ _
      rw [List.length_append]; omega
     go_wp2_with fail
     refine (iPair_c g w2 w3 _ _ _ _ _ _ _ _ _ _ _ _ _ _ _ x.fVars y.fVars p q _ _ hJ RVx RVy hrp hrq HM.out Lp.out Lq.out hbd).mono ?_
     rintro e w4 ⟨rfl, hJ4⟩
     go_wp2
     go_roundw
     case rel => exact ⟨j + 1, by omega, by go_num, by rw [HS2.out]; exact hJ4⟩
     case measure => simp [intOf]; omega
    ·have hje : x.fRows.take j = x.fRows := take_all HLX.out hlt2
     rw [hje, ← HS.out] at hJ
     clear hje
     obtain ⟨AV1, nV1, cV1, AR1, nR1, cR1, hkj, _, _, hRR⟩ := hJ.ex
     have hkl := hkj.lt
     have k5 := hkj.bx 5 _ rfl
     have hRl := Lib.hid hRR.len
     clear hRR hkj
     by_cases h4 : (4096 : Int) < nR1
     ·have HF : Hid (hashJoin x y = capS (unionI x.fVars y.fVars) (nestRows (fun q p => joinBy x y p q) (y.fRows.take (k + 1)) x.fRows)) := by
       show _ = _
       have hbig : ¬ (nestRows (fun q p => joinBy x y p q) (y.fRows.take (k + 1)) x.fRows).length ≤ 4096 := by rw [hRl.out]; omega
       rw [HE.out]; exact capS_full (rows_len _ _ _ k _ hq.out hbig) hbig
      go_wp2_with fail
      refine (iResult_c g w2 w3 _ _ _ _ _ _ _ hJ).mono ?_
      rintro e w5 ⟨cs5, fp5, rfl, o5, fr5, hb5⟩
      obtain ⟨B1, m1, d1, B2, m2, d2, f1, f2, rfl, rfl, oL, oH⟩ := rStream_own.1 o5
      have bkR5 := bkR.below hb5
      have rf0 := bkR5.frozen 0
      have rf1 := bkR5.frozen 1
      have rc0 := bkR5.bx 0 _ rfl
      have rc1 := bkR5.bx 1 _ rfl
      have rl := bkR5.lt
      go_wp2
      have bk3 := (bkR5.set 0 (.slice B1 m1 d1)).set 1 (.slice B2 m2 d2)
      have q0 := bk3.bx 0 _ rfl
      have q1 := bk3.bx 1 _ rfl
      refine bodyPost_ret (v := .tuple #[.agg #[.slice B1 m1 d1, .slice B2 m2 d2], .bool (hashJoin x y).2]) (by simp [results, Try.results14, go_sem, q0, q1, HF.out]) rfl ?_
      have hYl := bkR.lt
      rw [HF.out]
      refine ⟨_, f1 ++ f2, rfl, (rStream_ok NB).okeep o5 (fun z hz => ?_), ⟨fr5.nd, fun z hz => Nat.le_trans hB.size (fr5.ge z hz)⟩, bset2 (hB.trans (hb5.mono hB.size)) (by omega) _ _⟩
      have := fr5.ge z hz
      exact (heap_setCell_other _ ⟨w.heap.size + 1 + 1, 1, none⟩ z _ (fun e => by simp only at e; omega)).trans (heap_setCell_other _ ⟨w.heap.size + 1 + 1, 0, none⟩ z _ (fun e => by simp only at e; omega))
     ·go_wp2
      go_roundw
      case rel => exact ⟨k + 1, by omega, by go_num, by rw [hRl.out]; omega, hJ⟩
      case measure => simp [intOf]; omega
  ·have HF : Hid (hashJoin x y = capS (unionI x.fVars y.fVars) (nestRows (fun q p => joinBy x y p q) (y.fRows.take k) x.fRows)) := by
    show _ = _
    rw [HE.out, take_all HLY.out hlt]
   go_wp2_with fail
   refine (iResult_c g w2 w3 _ _ _ _ _ _ _ hJ).mono ?_
   rintro e w5 ⟨cs5, fp5, rfl, o5, fr5, hb5⟩
   obtain ⟨B1, m1, d1, B2, m2, d2, f1, f2, rfl, rfl, oL, oH⟩ := rStream_own.1 o5
   have bkR5 := bkR.below hb5
   have rf0 := bkR5.frozen 0
   have rf1 := bkR5.frozen 1
   have rc0 := bkR5.bx 0 _ rfl
   have rc1 := bkR5.bx 1 _ rfl
   have rl := bkR5.lt
   go_wp2
   have bk3 := (bkR5.set 0 (.slice B1 m1 d1)).set 1 (.slice B2 m2 d2)
   have q0 := bk3.bx 0 _ rfl
   have q1 := bk3.bx 1 _ rfl
   refine bodyPost_ret (v := .tuple #[.agg #[.slice B1 m1 d1, .slice B2 m2 d2], .bool (hashJoin x y).2]) (by simp [results, Try.results14, go_sem, q0, q1, HF.out]) rfl ?_
   have hYl := bkR.lt
   rw [HF.out]
   refine ⟨_, f1 ++ f2, rfl, (rStream_ok NB).okeep o5 (fun z hz => ?_), ⟨fr5.nd, fun z hz => Nat.le_trans hB.size (fr5.ge z hz)⟩, bset2 (hB.trans (hb5.mono hB.size)) (by omega) _ _⟩
   have := fr5.ge z hz
   exact (heap_setCell_other _ ⟨w.heap.size + 1 + 1, 1, none⟩ z _ (fun e => by simp only at e; omega)).trans (heap_setCell_other _ ⟨w.heap.size + 1 + 1, 0, none⟩ z _ (fun e => by simp only at e; omega))
set_option maxRecDepth 100000 in
set_option maxHeartbeats 1600000 in
theorem iNestedJoin_c (csx : List Value) (x : StreamD) (csy : List Value) (y : StreamD) (w : World) (hx : (rStream NB).rep w csx x) (hy : (rStream NB).rep w csy y) :
  Calls Try.prog 15 #[.agg csx.toArray, .agg csy.toArray] w (RetVB (rStream NB) (nestedJoin x y).1 (.bool (nestedJoin x y).2) w) := by
 have rx := hx
 obtain ⟨AxVars, nxVars, cxVars, AxRows, nxRows, cxRows, rfl, hxVars, hxRows⟩ := rStream_rep.1 hx
 clear hx
 have ry := hy
 obtain ⟨AyVars, nyVars, cyVars, AyRows, nyRows, cyRows, rfl, hyVars, hyRows⟩ := rStream_rep.1 hy
 clear hy
 have hB : Below w.heap.size w w := Below.refl _ _
 have hAx := (Below.refl (World.heap (w)).size (w)).alloc (Nat.le_refl _) (.cells #[.slice AxVars nxVars cxVars, .slice AxRows nxRows cxRows] 40)
 replace hB := hB.trans (hAx.mono hB.size)
 have bxx := Bx.new (w) [.slice AxVars nxVars cxVars, .slice AxRows nxRows cxRows] 40
 clear hAx
 have hAy := (Below.refl (World.heap ((w).alloc (.cells #[.slice AxVars nxVars cxVars, .slice AxRows nxRows cxRows] 40))).size ((w).alloc (.cells #[.slice AxVars nxVars cxVars, .slice AxRows nxRows cxRows] 40))).alloc (Nat.le_refl _) (.cells #[.slice AyVars nyVars cyVars, .slice AyRows nyRows cyRows] 40)
 replace hB := hB.trans (hAy.mono hB.size)
 replace bxx := bxx.below hAy
 have bxy := Bx.new ((w).alloc (.cells #[.slice AxVars nxVars cxVars, .slice AxRows nxRows cxRows] 40)) [.slice AyVars nyVars cyVars, .slice AyRows nyRows cyRows] 40
 simp only [World.size_alloc] at bxy
 clear hAy
 have hnx := hxRows.bound
 have hny := hyRows.bound
 have HLX := Lib.hid hxRows.len
 have HLY := Lib.hid hyRows.len
 obtain ⟨wa, hwa⟩ : ∃ wa, wa = (w.alloc (.cells #[.slice AxVars nxVars cxVars, .slice AxRows nxRows cxRows] 40)).alloc (.cells #[.slice AyVars nyVars cyVars, .slice AyRows nyRows cyRows] 40) := ⟨_, rfl⟩
 rw [← hwa] at hB bxx bxy
 have hsa : wa.heap.size = w.heap.size + 1 + 1 := by rw [hwa]; simp
 have hBA := (Below.refl wa.heap.size wa).alloc (Nat.le_refl _) (.cells #[.slice none 0 0, .slice none 0 0] 40)
 have bkR := Bk.new wa [.slice none 0 0, .slice none 0 0] 40
 replace hB := hB.trans (hBA.mono hB.size)
 replace bxx := bxx.below hBA
 replace bxy := bxy.below hBA
 clear hBA
 rw [hwa] at hB bxx bxy bkR hsa
 have HSA := Lib.hid hsa; clear hsa
 simp only [World.size_alloc] at bkR
 clear hwa
 go_enter Try.func15, Try.ntmps15
 go_wp2_with fail
 refine (iIsValidStream_c _ x _ ((rStream_ok NB).keep rx (cells_below hB))).mono ?_
 rintro e w1 ⟨rfl, hb1⟩
 replace hB := hB.trans (hb1.mono hB.size)
 replace bxx := bxx.below hb1
 replace bxy := bxy.below hb1
 replace bkR := bkR.below hb1
 clear hb1
 cases e1 : validStream x
 ·have rf0 := bkR.frozen 0
  have rf1 := bkR.frozen 1
  have rc0 := bkR.bx 0 _ rfl
  have rc1 := bkR.bx 1 _ rfl
  have rl := bkR.lt
  have he : nestedJoin x y = (⟨[], []⟩, false) := by simp [nestedJoin, e1]
  have HE := Lib.hid he; clear he
  go_wp2
  have bk3 := (bkR.set 0 (.slice none 0 0)).set 1 (.slice none 0 0)
  have q0 := bk3.bx 0 _ rfl
  have q1 := bk3.bx 1 _ rfl
  refine bodyPost_ret (v := .tuple #[.agg #[.slice none 0 0, .slice none 0 0], .bool false]) (by simp [results, Try.results15, go_sem, q0, q1]) rfl ?_
  rw [HE.out]
  exact ⟨[.slice none 0 0, .slice none 0 0], [], rfl, zStream_own _, Fr.nil _, bset2 hB (by omega) _ _⟩
 have ky_0 := bxy 0 _ rfl
 have ky_1 := bxy 1 _ rfl
 go_wp2_with fail
 refine (iIsValidStream_c _ y _ ((rStream_ok NB).keep ry (cells_below hB))).mono ?_
 rintro e w2 ⟨rfl, hb2⟩
 replace hB := hB.trans (hb2.mono hB.size)
 replace bxx := bxx.below hb2
 replace bxy := bxy.below hb2
 replace bkR := bkR.below hb2
 clear hb2 ky_0 ky_1
 cases e2 : validStream y
 ·have rf0 := bkR.frozen 0
  have rf1 := bkR.frozen 1
  have rc0 := bkR.bx 0 _ rfl
  have rc1 := bkR.bx 1 _ rfl
  have rl := bkR.lt
  have he : nestedJoin x y = (⟨[], []⟩, false) := by simp [nestedJoin, e2]
  have HE := Lib.hid he; clear he
  go_wp2
  have bk3 := (bkR.set 0 (.slice none 0 0)).set 1 (.slice none 0 0)
  have q0 := bk3.bx 0 _ rfl
  have q1 := bk3.bx 1 _ rfl
  refine bodyPost_ret (v := .tuple #[.agg #[.slice none 0 0, .slice none 0 0], .bool false]) (by simp [results, Try.results15, go_sem, q0, q1]) rfl ?_
  rw [HE.out]
  exact ⟨[.slice none 0 0, .slice none 0 0], [], rfl, zStream_own _, Fr.nil _, bset2 hB (by omega) _ _⟩
 have HE : Hid (nestedJoin x y = capS (unionI x.fVars y.fVars) (nestRows (fun p q => joinBy x y p q) x.fRows y.fRows)) := by show _ = _; simp [nestedJoin, e1, e2]
 obtain ⟨px1, px2, px3⟩ := validStream_parts e1
 obtain ⟨py1, py2, py3⟩ := validStream_parts e2
 have HM := Lib.hid (union_iff px1 py1)
 have PX := Lib.hid px2
 have PY := Lib.hid py2
 clear e1 e2 px2 py2
 rw [HLX.out] at px3
 rw [HLY.out] at py3
 have kx_0 := bxx 0 _ rfl
 have kx_1 := bxx 1 _ rfl
 have ky_0 := bxy 0 _ rfl
 have ky_1 := bxy 1 _ rfl
 have RX := (hxRows.below (rSlice_ok NB _ rInt_ok) hB)
 have RY := (hyRows.below (rSlice_ok NB _ rInt_ok) hB)
 have RVx := (hxVars.below rInt_ok hB)
 have RVy := (hyVars.below rInt_ok hB)
 go_wp2_with fail
 refine (iNewJoiner_c _ _ _ _ _ _ _ _ _ _ _ _ x.fVars y.fVars _ RVx RVy px1 py1).mono ?_
 rintro e w3 ⟨g, AV, nV, cV, rfl, hkJ, hgB, ⟨fpV, oV, frV⟩, hVg, hb3⟩
 obtain rfl : fpV = blk AV := (osInt.1 oV).1
 obtain ⟨v2, hv2⟩ : ∃ v, v = Value.slice AxRows nxRows cxRows := ⟨_, rfl⟩
 obtain ⟨v4, hv4⟩ : ∃ v, v = Value.slice AyRows nyRows cyRows := ⟨_, rfl⟩
 rw [← hv2, ← hv4] at hkJ
 clear hv2 hv4
 have hJ : Jn w2 w3 g [.slice AxVars nxVars cxVars, v2, .slice AyVars nyVars cyVars, v4] (unionI x.fVars y.fVars) [] w3 := ⟨⟨AV, nV, cV, none, 0, 0, hkJ, oV, fun q hq => ⟨frV.ge q hq, oV.lt rInt_ok q hq, hVg q hq⟩, MS.nil _ (Nat.zero_le _)⟩, hgB, hkJ.lt, hb3, Nat.le_refl _⟩
 clear hkJ oV frV hVg px1 py1
 have kx_1 := (bxx.below hb3) 1 _ rfl
 go_wp2_with fail
 go_loopw [26] (fun i wr => ∃ k : Nat, k ≤ nxRows ∧ i = .int .i64 k ∧ (nestRows (fun p q => joinBy x y p q) (x.fRows.take k) y.fRows).length ≤ 4096 ∧ Jn w2 w3 g [.slice AxVars nxVars cxVars, v2, .slice AyVars nyVars cyVars, v4] (unionI x.fVars y.fVars) (nestRows (fun p q => joinBy x y p q) (x.fRows.take k) y.fRows) wr) (fun i _ => nxRows - (intOf i).toNat)
 case atStart => exact ⟨0, Nat.zero_le _, rfl, Nat.zero_le _, hJ⟩
 case round =>
  clear hJ kx_1
  obtain ⟨k, hk, rfl, hle, hJ⟩ := hrel
  have hE := hJ.b0
  by_cases hlt : k < nxRows
  ·obtain ⟨b1, o1, p, Ap, np, cp, e0, hc, hrp, hp⟩ := RX.row hlt
   subst e0
   replace hc := cells_below hE _ _ hc
   have ky_1 := (bxy.below hE) 1 _ rfl
   have HS := Lib.hid (nest_snoc (f := (fun p q => joinBy x y p q)) (ys := y.fRows) hp.out)
   have lp : np = nxVars := by rw [← hrp.len, rowOk_len (PX.out _ (mem_of_at hp.out)), RVx.len]
   have Lp := Lib.hid lp; clear lp
   go_wp2
   go_loopw [33] (fun i wr2 => ∃ j : Nat, j ≤ nyRows ∧ i = .int .i64 j ∧ Jn w2 w3 g [.slice AxVars nxVars cxVars, v2, .slice AyVars nyVars cyVars, v4] (unionI x.fVars y.fVars) (nestRows (fun p q => joinBy x y p q) (x.fRows.take k) y.fRows ++ (y.fRows.take j).filterMap ((fun p q => joinBy x y p q) p)) wr2) (fun i _ => nyRows - (intOf i).toNat)
   case atStart => exact ⟨0, Nat.zero_le _, rfl, by simpa using hJ⟩
   case round =>
    clear hJ hE hc
    obtain ⟨j, hj, rfl, hJ⟩ := hrel
    have hE := hJ.b0
    by_cases hlt2 : j < nyRows
    ·obtain ⟨b2, o2, q, Aq, nq, cq, e0, hc, hrq, hq⟩ := RY.row hlt2
     subst e0
     replace hc := cells_below hE _ _ hc
     have HS2 := Lib.hid (fmt_snoc (f := (fun p q => joinBy x y p q) p) (nestRows (fun p q => joinBy x y p q) (x.fRows.take k) y.fRows) hq.out)
     have lq : nq = nyVars := by rw [← hrq.len, rowOk_len (PY.out _ (mem_of_at hq.out)), RVy.len]
     have Lq := Lib.hid lq; clear lq
     have hbd : (nestRows (fun p q => joinBy x y p q) (x.fRows.take k) y.fRows ++ (y.fRows.take j).filterMap ((fun p q => joinBy x y p q) p)).length ≤ 100000 := by
      have h1 := fm_le ((fun p q => joinBy x y p q) p) (y.fRows.take j)
      have h2 : (y.fRows.take j).length ≤ j := List.length_take_le _ _
      rw [List.length_append]; omega
     go_wp2_with fail
     refine (iPair_c g w2 w3 _ _ _ _ _ _ _ _ _ _ _ _ _ _ _ x.fVars y.fVars p q _ _ hJ RVx RVy hrp hrq HM.out Lp.out Lq.out hbd).mono ?_
     rintro e w4 ⟨rfl, hJ4⟩
     go_wp2
     go_roundw
     case rel => exact ⟨j + 1, by omega, by go_num, by rw [HS2.out]; exact hJ4⟩
     case measure => simp [intOf]; omega
    ·have hje : y.fRows.take j = y.fRows := take_all HLY.out hlt2
     rw [hje, ← HS.out] at hJ
     clear hje
     obtain ⟨AV1, nV1, cV1, AR1, nR1, cR1, hkj, _, _, hRR⟩ := hJ.ex
     have hkl := hkj.lt
     have k5 := hkj.bx 5 _ rfl
     have hRl := Lib.hid hRR.len
     clear hRR hkj
     by_cases h4 : (4096 : Int) < nR1
     ·have HF : Hid (nestedJoin x y = capS (unionI x.fVars y.fVars) (nestRows (fun p q => joinBy x y p q) (x.fRows.take (k + 1)) y.fRows)) := by
       show _ = _
       have hbig : ¬ (nestRows (fun p q => joinBy x y p q) (x.fRows.take (k + 1)) y.fRows).length ≤ 4096 := by rw [hRl.out]; omega
       rw [HE.out]; exact capS_full (rows_len _ _ _ k _ hp.out hbig) hbig
      go_wp2_with fail
      refine (iResult_c g w2 w3 _ _ _ _ _ _ _ hJ).mono ?_
      rintro e w5 ⟨cs5, fp5, rfl, o5, fr5, hb5⟩
      obtain ⟨B1, m1, d1, B2, m2, d2, f1, f2, rfl, rfl, oL, oH⟩ := rStream_own.1 o5
      have bkR5 := bkR.below hb5
      have rf0 := bkR5.frozen 0
      have rf1 := bkR5.frozen 1
      have rc0 := bkR5.bx 0 _ rfl
      have rc1 := bkR5.bx 1 _ rfl
      have rl := bkR5.lt
      go_wp2
      have bk3 := (bkR5.set 0 (.slice B1 m1 d1)).set 1 (.slice B2 m2 d2)
      have q0 := bk3.bx 0 _ rfl
      have q1 := bk3.bx 1 _ rfl
      refine bodyPost_ret (v := .tuple #[.agg #[.slice B1 m1 d1, .slice B2 m2 d2], .bool (nestedJoin x y).2]) (by simp [results, Try.results15, go_sem, q0, q1, HF.out]) rfl ?_
      have hYl := bkR.lt
      rw [HF.out]
      refine ⟨_, f1 ++ f2, rfl, (rStream_ok NB).okeep o5 (fun z hz => ?_), ⟨fr5.nd, fun z hz => Nat.le_trans hB.size (fr5.ge z hz)⟩, bset2 (hB.trans (hb5.mono hB.size)) (by omega) _ _⟩
      have := fr5.ge z hz
      exact (heap_setCell_other _ ⟨w.heap.size + 1 + 1, 1, none⟩ z _ (fun e => by simp only at e; omega)).trans (heap_setCell_other _ ⟨w.heap.size + 1 + 1, 0, none⟩ z _ (fun e => by simp only at e; omega))
     ·go_wp2
      go_roundw
      case rel => exact ⟨k + 1, by omega, by go_num, by rw [hRl.out]; omega, hJ⟩
      case measure => simp [intOf]; omega
  ·have HF : Hid (nestedJoin x y = capS (unionI x.fVars y.fVars) (nestRows (fun p q => joinBy x y p q) (x.fRows.take k) y.fRows)) := by
    show _ = _
    rw [HE.out, take_all HLX.out hlt]
   go_wp2_with fail
   refine (iResult_c g w2 w3 _ _ _ _ _ _ _ hJ).mono ?_
   rintro e w5 ⟨cs5, fp5, rfl, o5, fr5, hb5⟩
   obtain ⟨B1, m1, d1, B2, m2, d2, f1, f2, rfl, rfl, oL, oH⟩ := rStream_own.1 o5
   have bkR5 := bkR.below hb5
   have rf0 := bkR5.frozen 0
   have rf1 := bkR5.frozen 1
   have rc0 := bkR5.bx 0 _ rfl
   have rc1 := bkR5.bx 1 _ rfl
   have rl := bkR5.lt
   go_wp2
   have bk3 := (bkR5.set 0 (.slice B1 m1 d1)).set 1 (.slice B2 m2 d2)
   have q0 := bk3.bx 0 _ rfl
   have q1 := bk3.bx 1 _ rfl
   refine bodyPost_ret (v := .tuple #[.agg #[.slice B1 m1 d1, .slice B2 m2 d2], .bool (nestedJoin x y).2]) (by simp [results, Try.results15, go_sem, q0, q1, HF.out]) rfl ?_
   have hYl := bkR.lt
   rw [HF.out]
   refine ⟨_, f1 ++ f2, rfl, (rStream_ok NB).okeep o5 (fun z hz => ?_), ⟨fr5.nd, fun z hz => Nat.le_trans hB.size (fr5.ge z hz)⟩, bset2 (hB.trans (hb5.mono hB.size)) (by omega) _ _⟩
   have := fr5.ge z hz
   exact (heap_setCell_other _ ⟨w.heap.size + 1 + 1, 1, none⟩ z _ (fun e => by simp only at e; omega)).trans (heap_setCell_other _ ⟨w.heap.size + 1 + 1, 0, none⟩ z _ (fun e => by simp only at e; omega))
end Go.Proofs.Ytceeggmfedpdkaa
