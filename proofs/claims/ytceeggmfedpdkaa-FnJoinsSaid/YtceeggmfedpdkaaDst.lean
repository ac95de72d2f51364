/-
  Dst
-/
import Derived.Test.YtceeggmfedpdkaaKeep
import Derived.Test.YtceeggmfedpdkaaCul
import Derived.Test.YtceeggmfedpdkaaCpr
namespace Go.Proofs.Ytceeggmfedpdkaa
open Go.RowKit
set_option linter.unusedVariables false
set_option linter.unusedSimpArgs false
theorem OS.chgN {α : Type} {r : Rp α} {M : Nat} {e : TypeId} {w w' : World} {fp : List Nat} {A : Option Addr} {n cap : Nat} {l : List α} {g : Nat} (h : OS M e r w fp A n cap l) (hr : r.Ok) (hc : Chg [g] w w') (hg : ∀ k ∈ fp, k ≠ g) : OS M e r w' fp A n cap l :=
 h.okeep hr (fun k hk => hc.block k (h.lt hr k hk) (by simpa using hg k hk))
theorem MS.chgN {α : Type} {r : Rp α} {B M : Nat} {e : TypeId} {w w' : World} {A : Option Addr} {n cap : Nat} {l : List α} {g : Nat} (h : MS B M e r w A n cap l) (hr : r.Ok) (hc : Chg [g] w w') (hg : g < B) : MS B M e r w' A n cap l := by
 obtain ⟨fp, o, f⟩ := h
 exact ⟨fp, o.chgN hr hc (fun k hk => by have := f.ge k hk; omega), f⟩
/-- a stream under way: its variables lie between its box and B, its rows from B on; beside them the cursor alone turns -/
structure Dst (w1 : World) (g gO B : Nat) (V : List Int) (AV : Option Addr) (nV cV : Nat) (R : List (List Int)) (AR : Option Addr) (nR cR : Nat) (W : World) : Prop where
 kO : Bk W gO 40 [.slice AV nV cV, .slice AR nR cR]
 oV : OS NB 3 rInt W (blk AV) AV nV cV V
 lV : ∀ k ∈ blk AV, gO < k ∧ k < B
 mR : MS B NB 37 (rSlice NB 3 rInt) W AR nR cR R
 cur : Cur W g
 chg : Chg [g] w1 W
 sz : B ≤ W.heap.size
section
variable {w1 W W' WA : World} {g gO B : Nat} {V V' : List Int} {AV AV' : Option Addr} {nV cV nV' cV' : Nat} {R R' : List (List Int)} {AR AR' : Option Addr} {nR cR nR' cR' : Nat}
theorem Dst.step (h : Dst w1 g gO B V AV nV cV R AR nR cR W) (hg : g < gO ∧ gO < B) (hc : Chg [g] W W') (cu : Cur W' g) : Dst w1 g gO B V AV nV cV R AR nR cR W' :=
 ⟨(hc.block gO h.kO.lt (by simp; omega)).trans h.kO, h.oV.chgN rInt_ok hc (fun k hk => by have := h.lV k hk; omega), h.lV, h.mR.chgN (rSlice_ok NB _ rInt_ok) hc (by omega), cu, h.chg.trans hc, Nat.le_trans h.sz hc.size⟩
theorem Dst.below (h : Dst w1 g gO B V AV nV cV R AR nR cR W) (hb : Below W.heap.size W W') : Dst w1 g gO B V AV nV cV R AR nR cR W' :=
 ⟨h.kO.below hb, h.oV.belowS rInt_ok hb, h.lV, h.mR.below (rSlice_ok NB _ rInt_ok) hb, h.cur.below hb, h.chg.trans (Chg.ofBelow hb _), Nat.le_trans h.sz hb.size⟩
/-- from a later base on, while there is no row -/
theorem Dst.rise (h : Dst w1 g gO B V AV nV cV R none 0 0 W) : Dst w1 g gO W.heap.size V AV nV cV [] none 0 0 W :=
 ⟨h.kO, h.oV, fun k hk => ⟨(h.lV k hk).1, h.oV.lt rInt_ok k hk⟩, MS.nil _ (Nat.zero_le _), h.cur, h.chg, Nat.le_refl _⟩
theorem chgB {w0 a b : World} {B : Nat} (h : Chg [g] w0 a) (hb : Below B a b) (hB : w0.heap.size ≤ B) : Chg [g] w0 b :=
 ⟨hb.os.trans h.os, hb.tape.trans h.tape, hb.output.trans h.output, Nat.le_trans h.size hb.size, fun k hk hn => (hb.block k (by omega)).trans (h.block k hk hn)⟩
/-- a row appended -/
theorem Dst.appR (h : Dst w1 g gO B V AV nV cV R AR nR cR WA) (hg : g < gO ∧ gO < B) (h1 : w1.heap.size ≤ gO) (hm : MS B NB 37 (rSlice NB 3 rInt) W' AR' nR' cR' R') (hb : Below B WA W') :
  Bk W' gO 40 [.slice AV nV cV, .slice AR nR cR] ∧ Dst w1 g gO B V AV nV cV R' AR' nR' cR' (W'.setCell ⟨gO, 1, none⟩ (.slice AR' nR' cR')) := by
 have hs : ∀ z, z ≠ gO → (W'.setCell ⟨gO, 1, none⟩ (.slice AR' nR' cR')).heap[z]? = W'.heap[z]? := fun z hz => heap_setCell_other _ _ z _ (fun e => hz e)
 have k1 : Bk W' gO 40 [.slice AV nV cV, .slice AR nR cR] := (hb.block _ hg.2).trans h.kO
 have b1 : Below gO WA W' := hb.mono (by omega)
 have b2 : Below gO WA (W'.setCell ⟨gO, 1, none⟩ (.slice AR' nR' cR')) := b1.setCell (p := ⟨gO, 1, none⟩) (Nat.le_refl _) _
 refine ⟨k1, k1.set 1 _, h.oV.okeep rInt_ok (fun k hk => (hs k (by have := h.lV k hk; omega)).trans (hb.block k (h.lV k hk).2)), h.lV, ?_, h.cur.low hg.1 b2, chgB h.chg b2 h1, by rw [World.size_setCell]; exact Nat.le_trans h.sz hb.size⟩
 obtain ⟨f, o, fr⟩ := hm
 exact ⟨f, o.okeep (rSlice_ok NB _ rInt_ok) (fun k hk => hs k (by have := fr.ge k hk; omega)), fr⟩
/-- a variable appended while there is no row -/
theorem Dst.appV (h : Dst w1 g gO B V AV nV cV [] none 0 0 WA) (hg : g < gO ∧ gO < B) (h1 : w1.heap.size ≤ gO) (hm : MS (gO + 1) NB 3 rInt W' AV' nV' cV' V') (hb : Below (gO + 1) WA W') :
  Bk W' gO 40 [.slice AV nV cV, .slice none 0 0] ∧ Dst w1 g gO W'.heap.size V' AV' nV' cV' [] none 0 0 (W'.setCell ⟨gO, 0, none⟩ (.slice AV' nV' cV')) := by
 have hs : ∀ z, z ≠ gO → (W'.setCell ⟨gO, 0, none⟩ (.slice AV' nV' cV')).heap[z]? = W'.heap[z]? := fun z hz => heap_setCell_other _ _ z _ (fun e => hz e)
 have k1 : Bk W' gO 40 [.slice AV nV cV, .slice none 0 0] := (hb.block _ (by omega)).trans h.kO
 have b1 : Below gO WA W' := hb.mono (by omega)
 have b2 : Below gO WA (W'.setCell ⟨gO, 0, none⟩ (.slice AV' nV' cV')) := b1.setCell (p := ⟨gO, 0, none⟩) (Nat.le_refl _) _
 have o1 := hm.bI
 exact ⟨k1, k1.set 0 _, o1.1.okeep rInt_ok (fun k hk => hs k (by have := o1.2 k hk; omega)), fun k hk => by have := o1.2 k hk; omega, MS.nil _ (Nat.zero_le _), h.cur.low hg.1 b2, chgB h.chg b2 h1, by rw [World.size_setCell]; exact Nat.le_refl _⟩
/-- what is handed back -/
def DrawnS (g : Nat) (w : World) (e : Ending) (w' : World) : Prop := ∃ (x : StreamD) (cs : List Value) (fp : List Nat), e = .returned (.agg cs.toArray) ∧ (rStream NB).own w' fp cs x ∧ Fr w.heap.size fp ∧ Cur w' g ∧ Chg [g] w w'
theorem dst_fin {w w1 : World} {fR : List Nat} (oV : OS NB 3 rInt W (blk AV) AV nV cV V) (lV : ∀ k ∈ blk AV, gO < k ∧ k ∉ fR) (oR : OS NB 37 (rSlice NB 3 rInt) W fR AR nR cR R) (fr : Fr (gO + 1) fR) (cu : Cur W g) (hc : Chg [g] w1 W) (hs : w1.heap.size = w.heap.size + 1) (hw : Chg [g] w w1) (hg : g < w.heap.size) (hO : w.heap.size < gO) (u v : Value) :
  DrawnS g w (.returned (.agg #[.slice AV nV cV, .slice AR nR cR])) (set2 W w.heap.size u v) := by
 have hk : ∀ k, k ≠ w.heap.size → (set2 W w.heap.size u v).heap[k]? = W.heap[k]? := fun k hk => (heap_setCell_other _ ⟨w.heap.size, 1, none⟩ k _ (fun e => hk e)).trans (heap_setCell_other _ ⟨w.heap.size, 0, none⟩ k _ (fun e => hk e))
 have b2 : Below w.heap.size W (set2 W w.heap.size u v) := bls2 (Below.refl _ _) (Nat.le_refl _) _ _
 refine ⟨⟨V, R⟩, [.slice AV nV cV, .slice AR nR cR], blk AV ++ fR, rfl, rStream_own.2 ⟨AV, nV, cV, AR, nR, cR, blk AV, fR, rfl, rfl, oV.okeep rInt_ok (fun k h => hk k (by have := (lV k h).1; omega)), oR.okeep (rSlice_ok NB _ rInt_ok) (fun k h => hk k (by have := fr.ge k h; omega))⟩, ⟨List.nodup_append.2 ⟨by cases AV <;> simp [blk], fr.nd, fun a ha b hb e => (lV a ha).2 (e ▸ hb)⟩, fun k h => ?_⟩, cu.low hg b2, chgB (hw.trans hc) b2 (Nat.le_refl _)⟩
 rcases List.mem_append.1 h with h | h
 ·have := (lV k h).1; omega
 ·have := fr.ge k h; omega
theorem Dst.fin {w : World} (h : Dst w1 g gO B V AV nV cV R AR nR cR W) (hg : g < w.heap.size) (hO : w.heap.size < gO ∧ gO < B) (hs : w1.heap.size = w.heap.size + 1) (hw : Chg [g] w w1) (u v : Value) : DrawnS g w (.returned (.agg #[.slice AV nV cV, .slice AR nR cR])) (set2 W w.heap.size u v) := by
 obtain ⟨f, o, fr⟩ := h.mR
 exact dst_fin h.oV (fun k hk => ⟨(h.lV k hk).1, fun hf => by have := (h.lV k hk).2; have := fr.ge k hf; omega⟩) o (fr.mono (by omega)) h.cur h.chg hs hw hg hO.1 u v
/-- a variable appended behind the rows -/
theorem Dst.appX {w : World} (h : Dst w1 g gO B V AV nV cV R AR nR cR WA) (hg : g < gO ∧ gO < B) (hm : MS (gO + 1) NB 3 rInt W' AV' nV' cV' V') (hb : Below (gO + 1) WA W') (hgr : WA.grownBy W' (AV.map (·.block)))
  (hA : AV'.map (·.block) = AV.map (·.block) ∨ AV'.map (·.block) = some WA.heap.size) (hgw : g < w.heap.size) (hO : w.heap.size < gO) (hs : w1.heap.size = w.heap.size + 1) (hw : Chg [g] w w1) :
  Bk W' gO 40 [.slice AV nV cV, .slice AR nR cR] ∧ Chg [g] w1 (W'.setCell ⟨gO, 0, none⟩ (.slice AV' nV' cV')) ∧ ∀ u v, DrawnS g w (.returned (.agg #[.slice AV' nV' cV', .slice AR nR cR])) (set2 (W'.setCell ⟨gO, 0, none⟩ (.slice AV' nV' cV')) w.heap.size u v) := by
 have hs' : ∀ z, z ≠ gO → (W'.setCell ⟨gO, 0, none⟩ (.slice AV' nV' cV')).heap[z]? = W'.heap[z]? := fun z hz => heap_setCell_other _ _ z _ (fun e => hz e)
 have k1 : Bk W' gO 40 [.slice AV nV cV, .slice AR nR cR] := (hb.block _ (by omega)).trans h.kO
 have b1 : Below gO WA W' := hb.mono (by omega)
 have b2 : Below gO WA (W'.setCell ⟨gO, 0, none⟩ (.slice AV' nV' cV')) := b1.setCell (p := ⟨gO, 0, none⟩) (Nat.le_refl _) _
 have o1 := hm.bI
 obtain ⟨fR, oR, fr⟩ := h.mR
 have hc := chgB h.chg b2 (by omega)
 have hn : ∀ k ∈ fR, k ∉ blk AV' := by
  intro k hk hk2
  have h1 := mem_blk.1 hk2
  rcases hA with e | e
  ·have := h.lV k (mem_blk.2 (e ▸ h1)); have := fr.ge k hk; omega
  ·rw [e] at h1; injection h1 with h1; have := oR.lt (rSlice_ok NB _ rInt_ok) k hk; omega
 refine ⟨k1, hc, fun u v => dst_fin (o1.1.okeep rInt_ok (fun k hk => hs' k (by have := o1.2 k hk; omega))) (fun k hk => ⟨by have := o1.2 k hk; omega, fun hf => hn k hf hk⟩) (oR.okeep (rSlice_ok NB _ rInt_ok) (fun k hk => (hs' k (by have := fr.ge k hk; omega)).trans (hgr.block k (oR.lt (rSlice_ok NB _ rInt_ok) k hk) (fun e => by have := h.lV k (mem_blk.2 e.symm); have := fr.ge k hk; omega)))) (fr.mono (by omega)) (h.cur.low hg.1 b2) hc hs hw hgw hO u v⟩
end
set_option maxRecDepth 100000 in
set_option maxHeartbeats 3200000 in
theorem l27Stream_c (g : Nat) (w : World) (hc : Cur w g) : Calls Try.prog 40 #[.pointer (some ⟨g, 0, none⟩)] w (DrawnS g w) := by
 have hgw := hc.lt
 obtain ⟨w1, hw1⟩ : ∃ w1, w1 = w.alloc (.cells #[.slice none 0 0, .slice none 0 0] 40) := ⟨_, rfl⟩
 have hs1 : w1.heap.size = w.heap.size + 1 := by rw [hw1]; simp
 have hc1 : Chg [g] w w1 := by rw [hw1]; exact Chg.ofBelow ((Below.refl _ _).alloc (Nat.le_refl _) _) _
 have kR : Bk w1 w.heap.size 40 [.slice none 0 0, .slice none 0 0] := by rw [hw1]; exact Bk.new w _ _
 obtain ⟨w2, hw2⟩ : ∃ W, W = w1.alloc (.cells #[.slice none 0 0, .slice none 0 0] 40) := ⟨_, rfl⟩
 have hs2 : w2.heap.size = w.heap.size + 1 + 1 := by rw [hw2]; simp [hs1]
 have J0 : Dst w1 g (w.heap.size + 1) (w.heap.size + 1 + 1) [] none 0 0 [] none 0 0 w2 := by
  refine ⟨?_, MS.blkI (MS.nil (B := 0) _ (Nat.zero_le _)) |>.1, fun k hk => by simp [blk] at hk, MS.nil _ (Nat.zero_le _), ?_, ?_, by omega⟩
  ·rw [hw2, ← hs1]; exact Bk.new w1 _ _
  ·rw [hw2, hw1]; exact (hc.alloc _).alloc _
  ·rw [hw2]; exact Chg.ofBelow ((Below.refl _ _).alloc (Nat.le_refl _) _) _
 have HKR : Hid (∀ W, Chg [g] w1 W → Bk W w.heap.size 40 [.slice none 0 0, .slice none 0 0]) := by
  show ∀ W, _ → _
  intro W h
  exact (h.block _ kR.lt (by simp; omega)).trans kR
 have HG : Hid (g < w.heap.size + 1 ∧ w.heap.size + 1 < w.heap.size + 1 + 1) := by show _ ∧ _; omega
 have HS1 := Lib.hid hs1
 have HC1 := Lib.hid hc1
 clear hs2 hs1 hc1 kR
 go_enter Try.func40, Try.ntmps40
 go_upto_region 2 with fail
 rw [← hw1, ← hw2]
 clear hw1 hw2
 go_wp2
 go_loopw [4] (fun i wr => ∃ (k nV cV B : Nat) (AV : Option Addr) (V : List Int), k ≤ 4 ∧ nV ≤ 3 ∧ i = .int .i64 k ∧ w.heap.size + 1 < B ∧ Dst w1 g (w.heap.size + 1) B V AV nV cV [] none 0 0 wr) (fun i _ => 4 - (intOf i).toNat)
 case atStart => exact ⟨0, 0, 0, _, none, [], by omega, by omega, rfl, Nat.lt_succ_self _, J0⟩
 case round =>
  clear J0
  obtain ⟨k, nV, cV, B, AV, V, hk, hnV, rfl, hB0, J⟩ := hrel
  obtain ⟨o0, o1⟩ := J.kO.bx.b2
  by_cases hlt : k < 4
  ·have hki : (k : Int) < 4 := by omega
   by_cases h3 : nV < 3
   ·have h3i : (nV : Int) < 3 := by omega
    go_wp2_with fail
    refine (l1Once_c g 3 _ (by omega) J.cur).mono ?_
    rintro e w3 ⟨b, rfl, cu3, ch3⟩
    have J3 := J.step ⟨HG.out.1, hB0⟩ ch3 cu3
    clear J cu3 ch3 o0 o1
    cases b
    ·have ⟨o0, o1⟩ := J3.kO.bx.b2
     have lv3 := J3.oV.lt rInt_ok
     have szW : w.heap.size + 1 + 1 ≤ w3.heap.size := by have := J3.sz; omega
     have mV : MS (w.heap.size + 1 + 1) NB 3 rInt w3 AV nV cV V := ⟨blk AV, J3.oV, ⟨by cases AV <;> simp [blk], fun k hk => by have := J3.lV k hk; omega⟩⟩
     go_wp2_with (at_builtin; refine wpList_appB (r := rInt) rfl _ _ 37 rfl _ 8 eiInt rInt_ok rfl mV ((Below.refl _ _).alloc (Nat.le_refl _) _) szW ⟨w3.heap.size, 0, none⟩ rfl [] [.int .i64 k] k ⟨rfl, rfl, ⟨by omega, by omega⟩⟩ (Fr.nil _) (cell_one_new _ _ _) (by unfold NB; omega) (Nat.le_refl _) (by omega) ?_; intro A4 c4 w4 hM4 hb4 hg4 hA4; obtain ⟨k4, J4⟩ := (J3.below ((Below.refl _ _).alloc (Nat.le_refl _) (.cells #[.int .i64 k] 3))).appV ⟨HG.out.1, hB0⟩ (by have := HS1.out; omega) hM4 hb4; have f4 := k4.frozen 0; have x4 := k4.bx 0 _ rfl; have z4 := J4.sz; have hz4 := hb4.size)
     go_roundw
     case rel => exact ⟨k + 1, nV + 1, c4, w4.heap.size, A4, V ++ [(k : Int)], by omega, by omega, by go_num, by simp at hz4; omega, J4⟩
     case measure => simp [intOf]; omega
    ·go_wp2
     go_roundw
     case rel => exact ⟨k + 1, nV, cV, B, AV, V, by omega, by omega, by go_num, hB0, J3⟩
     case measure => simp [intOf]; omega
   ·have h3i : ¬ (nV : Int) < 3 := by omega
    go_wp2
    go_roundw
    case rel => exact ⟨k + 1, nV, cV, B, AV, V, by omega, by omega, by go_num, hB0, J⟩
    case measure => simp [intOf]; omega
  ·have hki : ¬ (k : Int) < 4 := by omega
   clear o0 o1
   go_wp2_with fail
   refine (l1Below_c g 7 _ (by omega) J.cur).mono ?_
   rintro e w3 ⟨m0, rfl, ⟨m1, _, m2⟩, cu3, ch3⟩
   have m3 := m2 (by omega)
   have J3 := (J.step ⟨HG.out.1, hB0⟩ ch3 cu3).rise
   have hB3 : w.heap.size + 1 < w3.heap.size := by have := J.sz; have := ch3.size; omega
   clear J cu3 ch3 m2 hB0
   obtain ⟨B, hBe⟩ : ∃ B, B = w3.heap.size := ⟨_, rfl⟩
   rw [← hBe] at J3 hB3
   clear hBe
   have H1 : Hid (w1.heap.size ≤ w.heap.size + 1) := by show _ ≤ _; have := HS1.out; omega
   go_wp2
   go_loopw [5] (fun i wr => ∃ (m nR cR : Nat) (AR : Option Addr) (R : List (List Int)), m + nR ≤ 6 ∧ i = .int .i64 m ∧ Dst w1 g (w.heap.size + 1) B V AV nV cV R AR nR cR wr) (fun i _ => (intOf i).toNat)
   case atStart => exact ⟨m0.toNat, 0, 0, none, [], by omega, by rw [Int.toNat_of_nonneg m1], J3⟩
   case round =>
    clear J3 m3 m1
    obtain ⟨m, nR, cR, AR, R, hmn, rfl, J⟩ := hrel
    by_cases hm0 : 0 < m
    ·have hm0i : (0 : Int) < m := by omega
     obtain ⟨m', rfl⟩ : ∃ q, m = q + 1 := ⟨m - 1, by omega⟩
     have szr := J.sz
     have hgr := J.cur.lt
     obtain ⟨wo, hwo⟩ : ∃ W, W = wr := ⟨_, rfl⟩
     rw [← hwo] at J szr hgr ⊢
     have HJ := Lib.hid J
     have M0 := MS.empty (B := wo.heap.size) (M := NB) (e := 3) (r := rInt) wo (Nat.le_refl _)
     have C0 : Chg [g] wo (wo.alloc (.cells #[] 3)) := Chg.ofBelow ((Below.refl _ _).alloc (Nat.le_refl _) _) _
     have U0 := J.cur.alloc (.cells #[] 3)
     clear J hwo
     go_wp2
     go_loopw [6, 7] (fun o i wr => ∃ (k c : Nat) (A : Option Addr) (l : List Int), k ≤ nV ∧ i = .int .i64 k ∧ o = .slice A k c ∧ MS wo.heap.size NB 3 rInt wr A k c l ∧ Chg [g] wo wr ∧ Cur wr g) (fun _ i _ => nV - (intOf i).toNat)
     case atStart => exact ⟨0, 0, _, [], Nat.zero_le _, rfl, rfl, M0, C0, U0⟩
     case round =>
      clear M0 C0 U0
      obtain ⟨k2, c, A, l, hk2, rfl, rfl, M, C, U⟩ := hrel
      have J := HJ.out.step ⟨HG.out.1, hB3⟩ C U
      obtain ⟨o0, o1⟩ := J.kO.bx.b2
      have szW := C.size
      by_cases hl2 : k2 < nV
      ·have hl2i : (k2 : Int) < nV := by omega
       clear J
       go_wp2_with fail
       refine (l1Below_c g 3 _ (by omega) U).mono ?_
       rintro e w4 ⟨y, rfl, ⟨y0, _, y1⟩, cu4, ch4⟩
       have y2 := y1 (by omega)
       have M4 := M.chgN rInt_ok ch4 hgr
       have C4 := C.trans ch4
       have szW4 := C4.size
       clear M U C ch4 y1 o0 o1
       go_wp2_with (at_builtin; refine wpList_appB (r := rInt) rfl _ _ 37 rfl _ 8 eiInt rInt_ok rfl M4 ((Below.refl _ _).alloc (Nat.le_refl _) _) szW4 ⟨w4.heap.size, 0, none⟩ rfl [] [.int .i64 y] y ⟨rfl, rfl, ⟨by omega, by omega⟩⟩ (Fr.nil _) (cell_one_new _ _ _) (by unfold NB; omega) (Nat.le_refl _) (by omega) ?_; intro A5 c5 w5 hM5 hb5 hg5 hA5)
       have hb45 : Below wo.heap.size w4 w5 := (((Below.refl w4.heap.size w4).alloc (Nat.le_refl _) (.cells #[.int .i64 y] 3)).mono szW4).trans hb5
       go_roundw
       case rel => exact ⟨k2 + 1, by omega, by go_num, c5, A5, ⟨rfl, rfl, rfl⟩, ⟨l ++ [y], hM5⟩, chgB C4 hb45 (Nat.le_refl _), cu4.low hgr hb45⟩
       case measure => simp [intOf]; omega
      ·have hl2i : ¬ (k2 : Int) < nV := by omega
       obtain ⟨f, o, fr⟩ := M
       have hAl := (Below.refl wr.heap.size wr).alloc (Nat.le_refl _) (.cells #[.slice A k2 c] 37)
       obtain ⟨v, v1, v2, v3⟩ := HJ.out.mR.upto (rSlice_ok NB _ rInt_ok) C (Nat.lt_trans HG.out.1 hB3)
       have v4 := v2.trans (hAl.mono (by rw [v1]; exact szW))
       have JA := J.below hAl
       go_wp2_with (at_builtin; refine wpList_appB (r := rSlice NB 3 rInt) rfl _ _ 38 rfl _ 24 eiRowS (rSlice_ok NB _ rInt_ok) rfl v3 v4 (v1.symm ▸ szr) ⟨wr.heap.size, 0, none⟩ rfl f [.slice A k2 c] l ⟨A, k2, c, rfl, o.belowS rInt_ok hAl⟩ (v1.symm ▸ fr) (cell_one_new _ _ _) (by unfold NB; omega) (Nat.le_refl _) (by omega) ?_; intro A6 c6 w6 hM6 hb6 hg6 hA6; obtain ⟨k6, J6⟩ := JA.appR ⟨HG.out.1, hB3⟩ H1.out hM6 hb6; have f6 := k6.frozen 1; have x6 := k6.bx 1 _ rfl)
       go_roundw
       case rel => exact ⟨m', nR + 1, c6, A6, _, by omega, by go_num, J6⟩
       case measure => simp [intOf]
    ·obtain rfl : m = 0 := by omega
     go_wp2_with fail
     refine (l1Below_c g 16 _ (by omega) J.cur).mono ?_
     rintro e w6 ⟨q, rfl, ⟨q0, _, q1⟩, cu6, ch6⟩
     have J6 := J.step ⟨HG.out.1, hB3⟩ ch6 cu6
     clear J cu6 ch6 q1
     have hd0 := (Below.refl w6.heap.size w6).drew
     have JD := J6.below hd0
     by_cases hq0 : q = 0
     ·subst hq0
      have HSS : Hid (∀ w' : World, w'.heap[w.heap.size + 1]? = w6.heap[w.heap.size + 1]? → w'.cell? ⟨w.heap.size + 1, 1, none⟩ = some (.slice AR nR cR)) := by
       show ∀ w', _ → _
       exact fun w' h => Bk.bx (h.trans J6.kO) 1 _ rfl
      have hA := Below.alb hd0 (.cells #[.int .i64 0, .int .i64 10, .int .i64 (-1)] 3)
      have J7 := J6.below hA
      go_wp2
      refine hgg 9 HSS.out rfl (fun hHeld => ?_)
      refine tgk 0 57 hHeld ?_; simp only [putS]
      refine tgk 1 58 hHeld ?_; simp only [putS]
      refine tgk 2 59 hHeld ?_; simp only [putS]
      refine rg 3 (some 60) fun K hK => ?_
      clear hHeld
      go_simp
      refine hK.out _ _ (fun _ => HSS.out _ (hA.block _ J6.kO.lt)) fun hHeld => ?_
      replace hHeld := hHeld (by decide)
      clear hK K
      try simp only [putS]
      refine rg 4 (some 61) fun K hK => ?_
      clear hHeld
      go_simp
      refine (l1PickInt_c g _ 3 3 [0, 10, -1] _ (RS.lit w6.drew [0, 10, -1] _ (by simp) (by simp [I64])) JD.cur.ne (by omega) J7.cur).mono ?_
      rintro e w7 ⟨z, rfl, hz, cu7, ch7⟩
      have J8 := J7.step ⟨HG.out.1, hB3⟩ ch7 cu7
      have X5 : w7.heap[w.heap.size + 1]? = w6.heap[w.heap.size + 1]? := (ch7.block _ J7.kO.lt (by have := HG.out.1; simp; omega)).trans (hA.block _ J6.kO.lt)
      have hz2 : I64 z := by simp at hz; unfold I64; omega
      go_wp2_with fail
      refine hK.out _ _ (fun _ => HSS.out _ X5) fun hHeld => ?_
      replace hHeld := hHeld (by decide)
      clear hK K
      try simp only [putS]
      have o9 := (MS.one (B := w7.heap.size) (M := NB) (e := 3) w7 (Nat.le_refl _) (by unfold NB; omega) hz2).blkI
      have hC := (Below.refl w7.heap.size w7).alloc (Nat.le_refl _) (.cells #[.int .i64 z] 3)
      have hD := Below.alb hC (.cells #[.slice (some ⟨w7.heap.size, 0, none⟩) 1 1] 37)
      have J9 := J8.below hD
      refine rg 5 (some 62) fun K hK => ?_
      clear hHeld
      go_simp
      refine hK.out _ _ (fun _ => HSS.out _ ((hC.block _ J8.kO.lt).trans X5)) fun hHeld => ?_
      replace hHeld := hHeld (by decide)
      clear hK K
      try simp only [putS]
      refine rg 6 (some 63) fun K hK => ?_
      clear hHeld
      go_simp
      refine hK.out _ _ (fun _ => HSS.out _ ((hD.block _ J8.kO.lt).trans X5)) fun hHeld => ?_
      replace hHeld := hHeld (by decide)
      clear hK K
      try simp only [putS]
      refine rg 7 (some 64) fun K hK => ?_
      clear hHeld
      refine step_appR (r := rSlice NB 3 rInt) (by rfl) _ _ 38 (by rfl) _ 24 eiRowS (rSlice_ok NB _ rInt_ok) (by rfl) J8.mR hD J8.sz ⟨w7.heap.size + 1, 0, none⟩ (by rfl) (f := blk (some ⟨w7.heap.size, 0, none⟩)) (cs := [.slice (some ⟨w7.heap.size, 0, none⟩) 1 1]) (y := [z]) ⟨_, _, _, rfl, o9.1.belowS rInt_ok ((Below.refl _ _).alloc (Nat.le_refl _) _)⟩ ⟨by simp [blk], o9.2⟩ (by have := cell_one_new (w7.alloc (.cells #[.int .i64 z] 3)) (.slice (some ⟨w7.heap.size, 0, none⟩) 1 1) 37; simpa using this) (by unfold NB; omega) (Nat.le_refl _) (by omega) ?_
      intro A9 c9 w9 hM9 hb9 hg9 hA9
      obtain ⟨k9, JZ⟩ := J9.appR ⟨HG.out.1, hB3⟩ H1.out hM9 hb9
      have X9 : w9.heap[w.heap.size + 1]? = w6.heap[w.heap.size + 1]? := k9.trans J6.kO.symm
      have f9 := k9.frozen 1
      have x9 := k9.bx 1 _ rfl
      refine hK.out _ _ (fun _ => HSS.out _ X9) fun hHeld => ?_
      replace hHeld := hHeld (by decide)
      clear hK K
      try simp only [putS]
      refine tgk 8 65 hHeld ?_; simp only [putS]
      refine rg 9 none fun K hK => ?_
      clear hHeld
      go_simp
      refine hK.out _ _ (fun h => absurd rfl h) fun hHeld => ?_
      clear hK K
      try simp only [putS]
      refine wpG_done (by kernel_rfl) ?_ _
      clear hHeld
      clear HSS
      have kRW := HKR.out _ JZ.chg
      have ⟨s0, s1, s2, s3⟩ := kRW.r2
      have ⟨c0, c1⟩ := JZ.kO.bx.b2
      go_wp2
      have ⟨z0, z1⟩ := kRW.s2
      refine bodyPost_ret (v := .agg #[.slice AV nV cV, .slice A9 (nR + 1) c9]) (by simp [results, Try.results40, go_sem, z0, z1]) rfl ?_
      exact JZ.fin hgw ⟨Nat.lt_succ_self _, hB3⟩ HS1.out HC1.out _ _
     ·by_cases hq1 : q = 1
      ·subst hq1
       have HSS : Hid (∀ w' : World, w'.heap[w.heap.size + 1]? = w6.heap[w.heap.size + 1]? → w'.cell? ⟨w.heap.size + 1, 0, none⟩ = some (.slice AV nV cV)) := by
        show ∀ w', _ → _
        exact fun w' h => Bk.bx (h.trans J6.kO) 0 _ rfl
       have hA := Below.alb hd0 (.cells #[.int .i64 0, .int .i64 4, .int .i64 (-1)] 3)
       have J7 := J6.below hA
       go_wp2
       refine hgg 8 HSS.out rfl (fun hHeld => ?_)
       refine tgk 0 68 hHeld ?_; simp only [putS]
       refine tgk 1 69 hHeld ?_; simp only [putS]
       refine tgk 2 70 hHeld ?_; simp only [putS]
       refine rg 3 (some 71) fun K hK => ?_
       clear hHeld
       go_simp
       refine hK.out _ _ (fun _ => HSS.out _ (hA.block _ J6.kO.lt)) fun hHeld => ?_
       replace hHeld := hHeld (by decide)
       clear hK K
       try simp only [putS]
       refine rg 4 (some 72) fun K hK => ?_
       clear hHeld
       go_simp
       refine (l1PickInt_c g _ 3 3 [0, 4, -1] _ (RS.lit w6.drew [0, 4, -1] _ (by simp) (by simp [I64])) JD.cur.ne (by omega) J7.cur).mono ?_
       rintro e w7 ⟨z, rfl, hz, cu7, ch7⟩
       have J8 := J7.step ⟨HG.out.1, hB3⟩ ch7 cu7
       have X5 : w7.heap[w.heap.size + 1]? = w6.heap[w.heap.size + 1]? := (ch7.block _ J7.kO.lt (by have := HG.out.1; simp; omega)).trans (hA.block _ J6.kO.lt)
       have hz2 : I64 z := by simp at hz; unfold I64; omega
       go_wp2_with fail
       refine hK.out _ _ (fun _ => HSS.out _ X5) fun hHeld => ?_
       replace hHeld := hHeld (by decide)
       clear hK K
       try simp only [putS]
       have hC := (Below.refl w7.heap.size w7).alloc (Nat.le_refl _) (.cells #[.int .i64 z] 3)
       have J9 := J8.below hC
       have mV : MS (w.heap.size + 1 + 1) NB 3 rInt w7 AV nV cV V := ⟨blk AV, J8.oV, ⟨by cases AV <;> simp [blk], fun k hk => by have := J8.lV k hk; omega⟩⟩
       refine rg 5 (some 73) fun K hK => ?_
       clear hHeld
       go_simp
       refine hK.out _ _ (fun _ => HSS.out _ ((hC.block _ J8.kO.lt).trans X5)) fun hHeld => ?_
       replace hHeld := hHeld (by decide)
       clear hK K
       try simp only [putS]
       refine rg 6 (some 74) fun K hK => ?_
       clear hHeld
       refine step_appR (r := rInt) (by rfl) _ _ 37 (by rfl) _ 8 eiInt rInt_ok (by rfl) mV hC (by have := J8.sz; omega) ⟨w7.heap.size, 0, none⟩ (by rfl) (f := []) (cs := [.int .i64 z]) (y := z) ⟨rfl, rfl, hz2⟩ (Fr.nil _) (cell_one_new _ _ _) (by unfold NB; omega) (Nat.le_refl _) (by omega) ?_
       intro A9 c9 w9 hM9 hb9 hg9 hA9
       obtain ⟨k9, ch9, JZ⟩ := J9.appX ⟨HG.out.1, hB3⟩ hM9 hb9 hg9 hA9 hgw (Nat.lt_succ_self _) HS1.out HC1.out
       have X9 : w9.heap[w.heap.size + 1]? = w6.heap[w.heap.size + 1]? := k9.trans J6.kO.symm
       have f9 := k9.frozen 0
       have x9 := k9.bx 0 _ rfl
       refine hK.out _ _ (fun _ => HSS.out _ X9) fun hHeld => ?_
       replace hHeld := hHeld (by decide)
       clear hK K
       try simp only [putS]
       refine tgk 7 75 hHeld ?_; simp only [putS]
       refine rg 8 none fun K hK => ?_
       clear hHeld
       go_simp
       refine hK.out _ _ (fun h => absurd rfl h) fun hHeld => ?_
       clear hK K
       try simp only [putS]
       refine wpG_done (by kernel_rfl) ?_ _
       clear hHeld
       clear HSS
       have kRW := HKR.out _ ch9
       have ⟨s0, s1, s2, s3⟩ := kRW.r2
       have ⟨c0, c1⟩ := (k9.set 0 (.slice A9 (nV + 1) c9)).bx.b2
       go_wp2
       have ⟨z0, z1⟩ := kRW.s2
       refine bodyPost_ret (v := .agg #[.slice A9 (nV + 1) c9, .slice AR nR cR]) (by simp [results, Try.results40, go_sem, z0, z1]) rfl ?_
       exact JZ _ _
      ·have kRW := HKR.out _ J6.chg
       have ⟨s0, s1, s2, s3⟩ := kRW.r2
       have ⟨c0, c1⟩ := J6.kO.bx.b2
       clear JD hd0
       go_wp2
       have ⟨z0, z1⟩ := kRW.s2
       refine bodyPost_ret (v := .agg #[.slice AV nV cV, .slice AR nR cR]) (by simp [results, Try.results40, go_sem, z0, z1]) rfl ?_
       exact J6.fin hgw ⟨Nat.lt_succ_self _, hB3⟩ HS1.out HC1.out _ _
end Go.Proofs.Ytceeggmfedpdkaa
