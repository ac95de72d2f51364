/-
  Bxe
-/
import Derived.Test.YtkdajdafhjobbaaKeep
import Derived.Test.YtkdajdafhjobbaaBxd
namespace Go.Proofs.Ytkdajdafhjobbaa
open Go.RowKit
set_option linter.unusedVariables false
set_option linter.unusedSimpArgs false
def rng8 (l : List Int) : Prop := ∀ x ∈ l, -1 ≤ x ∧ x ≤ 8
theorem rng8_app {l : List Int} {x : Int} (h : rng8 l) (h1 : -1 ≤ x ∧ x ≤ 8) : rng8 (l ++ [x]) := fun y hy => by
 rcases List.mem_append.1 hy with hy | hy
 ·exact h y hy
 ·rw [List.mem_singleton] at hy; subst hy; exact h1
theorem rng8_set {l : List Int} {x : Int} {k : Nat} (h : rng8 l) (h1 : -1 ≤ x ∧ x ≤ 8) : rng8 (l.set k x) := fun y hy => by
 rcases List.mem_or_eq_of_mem_set hy with hy | rfl
 ·exact h y hy
 ·exact h1
def BoxFit (b : BoxD) (n : Nat) : Prop := b.fLow.length = n ∧ (b.fHigh.length = n ∨ b.fHigh.length = n + 1) ∧ rng8 b.fLow ∧ rng8 b.fHigh
theorem Bxl.own {w1 wr : World} {g gO : Nat} {lo hi : List Int} {AL AH : Option Addr} {nL cL nH cH : Nat} (h : Bxl w1 g gO lo hi AL nL cL AH nH cH wr) : ∃ fp, (rBox NB).own wr fp [.slice AL nL cL, .slice AH nH cH] ⟨lo, hi⟩ ∧ Fr w1.heap.size fp := by
 have o1 := h.mL.bI
 have o2 := h.mH.bI
 refine ⟨blk AL ++ blk AH, rBox_own.2 ⟨AL, nL, cL, AH, nH, cH, blk AL, blk AH, rfl, rfl, o1.1, o2.1⟩, ⟨List.nodup_append.2 ⟨by cases AL <;> simp [blk], by cases AH <;> simp [blk], fun p hp q hq e => h.dj p hp (e ▸ hq)⟩, fun q hq => ?_⟩⟩
 rcases List.mem_append.1 hq with hq | hq
 ·exact (o1.2 q hq).1
 ·exact (o2.2 q hq).1
theorem Bxl.setH {w1 W : World} {g gO gH : Nat} {lo hi : List Int} {AL : Option Addr} {nL cL nH cH : Nat} (h : Bxl w1 g gO lo hi AL nL cL (some ⟨gH, 0, none⟩) nH cH W) (hg0 : g < w1.heap.size) (k : Nat) {x : Int} (hx : I64 x) :
  Bxl w1 g gO lo (hi.set k x) AL nL cL (some ⟨gH, 0, none⟩) nH cH (W.setCell ⟨gH, k, none⟩ (.int .i64 x)) := by
 have n1 := osI_ne h.mH.bI.1 h.kO neB1
 have hB := (h.mH.bI.2 gH (by simp [blk])).1
 have hs : ∀ z, z ≠ gH → (W.setCell ⟨gH, k, none⟩ (.int .i64 x)).heap[z]? = W.heap[z]? := fun z hz => heap_setCell_other _ _ _ _ (fun e => hz e)
 have b2 : Below w1.heap.size W (W.setCell ⟨gH, k, none⟩ (.int .i64 x)) := (Below.refl _ _).setCell hB _
 exact ⟨(hs gO (fun e => n1 (by rw [e]; simp [blk]))).trans h.kO, h.mL.keepI (fun z hz => hs z (fun e => h.dj z hz (by rw [e]; simp [blk]))), h.mH.set k hx, h.dj, h.cur.low hg0 b2, h.chg.low b2⟩
theorem Bxl.setL {w1 W : World} {g gO gL : Nat} {lo hi : List Int} {AH : Option Addr} {nL cL nH cH : Nat} (h : Bxl w1 g gO lo hi (some ⟨gL, 0, none⟩) nL cL AH nH cH W) (hg0 : g < w1.heap.size) (k : Nat) {x : Int} (hx : I64 x) :
  Bxl w1 g gO (lo.set k x) hi (some ⟨gL, 0, none⟩) nL cL AH nH cH (W.setCell ⟨gL, k, none⟩ (.int .i64 x)) := by
 have n1 := osI_ne h.mL.bI.1 h.kO neB1
 have hB := (h.mL.bI.2 gL (by simp [blk])).1
 have hs : ∀ z, z ≠ gL → (W.setCell ⟨gL, k, none⟩ (.int .i64 x)).heap[z]? = W.heap[z]? := fun z hz => heap_setCell_other _ _ _ _ (fun e => hz e)
 have b2 : Below w1.heap.size W (W.setCell ⟨gL, k, none⟩ (.int .i64 x)) := (Below.refl _ _).setCell hB _
 exact ⟨(hs gO (fun e => n1 (by rw [e]; simp [blk]))).trans h.kO, h.mL.set k hx, h.mH.keepI (fun z hz => hs z (fun e => h.dj gL (by simp [blk]) (e ▸ hz))), h.dj, h.cur.low hg0 b2, h.chg.low b2⟩
theorem bxl_fin {w w1 W : World} {g gO n : Nat} {lo hi : List Int} {AL AH : Option Addr} {nL cL nH cH : Nat} {v1 v2 : Value} (h : Bxl w1 g gO lo hi AL nL cL AH nH cH W) (hs : w1.heap.size = w.heap.size + 1) (hc : Chg [g] w w1) (hg : g < w.heap.size) (hf : BoxFit ⟨lo, hi⟩ n) :
  ∃ (b : BoxD) (cs : List Value) (fp : List Nat), Ending.returned (.agg #[.slice AL nL cL, .slice AH nH cH]) = .returned (.agg cs.toArray) ∧ (rBox NB).own ((W.setCell ⟨w.heap.size, 0, none⟩ v1).setCell ⟨w.heap.size, 1, none⟩ v2) fp cs b ∧ Fr w.heap.size fp ∧ BoxFit b n ∧ Cur ((W.setCell ⟨w.heap.size, 0, none⟩ v1).setCell ⟨w.heap.size, 1, none⟩ v2) g ∧ Chg [g] w ((W.setCell ⟨w.heap.size, 0, none⟩ v1).setCell ⟨w.heap.size, 1, none⟩ v2) := by
 obtain ⟨fp, o, f⟩ := h.own
 have b1 : Below w.heap.size W (W.setCell ⟨w.heap.size, 0, none⟩ v1) := (Below.refl w.heap.size W).setCell (Nat.le_refl w.heap.size) v1
 have b2 : Below w.heap.size W ((W.setCell ⟨w.heap.size, 0, none⟩ v1).setCell ⟨w.heap.size, 1, none⟩ v2) := b1.setCell (Nat.le_refl w.heap.size) v2
 refine ⟨⟨lo, hi⟩, [.slice AL nL cL, .slice AH nH cH], fp, rfl, (rBox_ok NB).okeep o (fun z hz => ?_), f.mono (by omega), hf, h.cur.low hg b2, (hc.trans h.chg).low b2⟩
 have hz2 := f.ge z hz
 have hn : z ≠ w.heap.size := by omega
 exact (heap_setCell_other _ ⟨w.heap.size, 1, none⟩ z _ (fun e => hn e)).trans (heap_setCell_other _ ⟨w.heap.size, 0, none⟩ z _ (fun e => hn e))

set_option maxRecDepth 100000 in
set_option maxHeartbeats 3200000 in
theorem l20Box_c (g n : Nat) (w : World) (hn : n ≤ 16) (hc : Cur w g) :
  Calls Try.prog 120 #[.pointer (some ⟨g, 0, none⟩), .int .i64 n] w fun e w' => ∃ (b : BoxD) (cs : List Value) (fp : List Nat), e = .returned (.agg cs.toArray) ∧ (rBox NB).own w' fp cs b ∧ Fr w.heap.size fp ∧ BoxFit b n ∧ Cur w' g ∧ Chg [g] w w' := by
 obtain ⟨w1, hw1⟩ : ∃ w1, w1 = w.alloc (.cells #[.slice none 0 0, .slice none 0 0] 26) := ⟨_, rfl⟩
 have hs1 : w1.heap.size = w.heap.size + 1 := by rw [hw1]; simp
 have hAl := (Below.refl w.heap.size w).alloc (Nat.le_refl _) (.cells #[.slice none 0 0, .slice none 0 0] 26)
 have cu1 : Cur w1 g := by rw [hw1]; exact hc.alloc _
 have kR : Bk w1 w.heap.size 26 [.slice none 0 0, .slice none 0 0] := by rw [hw1]; exact Bk.new w _ _
 have kO : Bk (w1.alloc (.cells #[.slice none 0 0, .slice none 0 0] 26)) (w.heap.size + 1) 26 [.slice none 0 0, .slice none 0 0] := hs1 ▸ Bk.new w1 _ _
 have hJ : Bxl w1 g (w.heap.size + 1) [] [] none 0 0 none 0 0 (w1.alloc (.cells #[.slice none 0 0, .slice none 0 0] 26)) :=
  ⟨kO, MS.nil _ (Nat.zero_le _), MS.nil _ (Nat.zero_le _), fun k hk => by simp [blk] at hk, cu1.alloc _, Chg.ofBelow ((Below.refl _ _).alloc (Nat.le_refl _) _) _⟩
 have HG : Hid (g < w1.heap.size) := by show _ < _; have := hc.lt; omega
 have HO : Hid (w1.heap.size ≤ w.heap.size + 1) := by show _ ≤ _; omega
 have hB1 : Chg [g] w w1 := by rw [hw1]; exact Chg.ofBelow hAl _
 have HB1 := Lib.hid hB1; clear hB1 kO cu1 hAl
 have KR := Lib.hid kR; clear kR
 have HGW := Lib.hid hc.lt
 have HS1 := Lib.hid hs1; clear hs1
 rw [hw1] at hJ
 have HW1 := Lib.hid hw1
 go_enter Try.func120, Try.ntmps120
 go_wp2_with fail
 rw [← hw1] at hJ ⊢
 clear hw1
 go_loopw [6, 7, 8] (fun o i kk wr => ∃ (k : Nat) (q : Int) (lo hi : List Int) (AL AH : Option Addr) (nL cL nH cH : Nat), k ≤ n ∧ o = .int .i64 q ∧ 0 ≤ q ∧ q ≤ k ∧ i = .int .i64 k ∧ lo.length = k ∧ hi.length = k ∧ rng8 lo ∧ rng8 hi ∧ Bxl w1 g (w.heap.size + 1) lo hi AL nL cL AH nH cH wr) (fun _ i _ _ => n - (intOf i).toNat)
 case atStart => exact ⟨0, 0, [], [], none, none, 0, 0, 0, 0, Nat.zero_le _, rfl, by omega, by omega, rfl, rfl, rfl, (by intro x hx; cases hx), (by intro x hx; cases hx), hJ⟩
 case round =>
  clear hJ
  obtain ⟨k, q, lo, hi, AL, AH, nL, cL, nH, cH, hk, rfl, hq0, hq1, rfl, hlo, hhi, rlo, rhi, hJ⟩ := hrel
  have hnL : Hid (nL = k) := by show _ = _; rw [← hJ.mL.len, hlo]
  have hnH : Hid (nH = k) := by show _ = _; rw [← hJ.mH.len, hhi]
  have HLo := Lib.hid hlo; clear hlo
  have HHi := Lib.hid hhi; clear hhi
  have RLo := Lib.hid rlo; clear rlo
  have RHi := Lib.hid rhi; clear rhi
  by_cases hlt : k < n
  ·go_wp2_with fail
   refine (l1Below_c g 5 _ (by omega) hJ.cur).mono ?_
   rintro e w2 ⟨x, rfl, ⟨x0, _, x1⟩, cu2, ch2⟩
   have x2 := x1 (by omega)
   clear x1
   have J2 := hJ.step HG.out HO.out ch2 cu2
   clear hJ cu2 ch2
   have ko := J2.kO.bx 0 _ rfl
   have szW := J2.chg.size
   go_upto_region 8 with (at_builtin; refine wpList_appB (r := rInt) rfl _ _ 24 rfl _ 8 eiInt rInt_ok rfl J2.mL ((Below.refl _ _).alloc (Nat.le_refl _) _) szW ⟨w2.heap.size, 0, none⟩ rfl [] [.int .i64 (x)] (x) ⟨rfl, rfl, ⟨by omega, by omega⟩⟩ (Fr.nil _) (cell_one_new _ _ _) (by have := hnL.out; unfold NB; omega) (Nat.le_refl _) (by have := hnL.out; omega) ?_; intro Au cu yu hMu hbu hgu hAu; obtain ⟨ku, Ju⟩ := (J2.below ((Below.refl _ _).alloc (Nat.le_refl _) (.cells #[.int .i64 (x)] 3))).appL HG.out HO.out hMu hbu hgu hAu; have fu := ku.frozen 0; have xu := ku.bx 0 _ rfl)
   obtain ⟨w3, hw3⟩ : ∃ W, W = yu.setCell ⟨w.heap.size + 1, 0, none⟩ (.slice Au (nL + 1) cu) := ⟨_, rfl⟩
   rw [← hw3] at Ju ⊢
   clear hw3 fu xu ku hMu hbu hgu hAu J2 ko szW
   by_cases hq4 : q < 4
   ·go_wp2_with fail
    refine (l1Once_c g 2 _ (by omega) Ju.cur).mono ?_
    rintro e w4 ⟨b, rfl, cu4, ch4⟩
    have J4 := Ju.step HG.out HO.out ch4 cu4
    clear Ju cu4 ch4
    cases b
    ·have ko := J4.kO.bx 1 _ rfl
     have szW := J4.chg.size
     go_wp2_with (at_builtin; refine wpList_appB (r := rInt) rfl _ _ 24 rfl _ 8 eiInt rInt_ok rfl J4.mH ((Below.refl _ _).alloc (Nat.le_refl _) _) szW ⟨w4.heap.size, 0, none⟩ rfl [] [.int .i64 (x)] (x) ⟨rfl, rfl, ⟨by omega, by omega⟩⟩ (Fr.nil _) (cell_one_new _ _ _) (by have := hnH.out; unfold NB; omega) (Nat.le_refl _) (by have := hnH.out; omega) ?_; intro Az cz yz hMz hbz hgz hAz; obtain ⟨kz, Jz⟩ := (J4.below ((Below.refl _ _).alloc (Nat.le_refl _) (.cells #[.int .i64 (x)] 3))).appH HG.out HO.out hMz hbz hgz hAz; have fz := kz.frozen 1; have xz := kz.bx 1 _ rfl)
     go_roundw
     case rel => exact ⟨k + 1, q, lo ++ [x], hi ++ [x], _, _, _, _, _, _, by omega, by first | rfl | go_num, by omega, by omega, by go_num, by simp [HLo.out], by simp [HHi.out], rng8_app RLo.out ⟨by omega, by omega⟩, rng8_app RHi.out ⟨by omega, by omega⟩, Jz⟩
     case measure => simp [intOf]; omega
    ·go_wp2_with fail
     refine (l1Below_c g 4 _ (by omega) J4.cur).mono ?_
     rintro e w5 ⟨y, rfl, ⟨y0, _, y1⟩, cu5, ch5⟩
     have y2 := y1 (by omega)
     clear y1
     have J5 := J4.step HG.out HO.out ch5 cu5
     clear J4 cu5 ch5
     have e1 : IntKind.i64.wrap (x + y) = x + y := IntWalk.i64_in _ (by omega)
     have e2 : IntKind.i64.wrap (q + 1) = q + 1 := IntWalk.i64_in _ (by omega)
     by_cases h7 : x + y < 7
     ·have ko := J5.kO.bx 1 _ rfl
      have szW := J5.chg.size
      go_wp2_with (at_builtin; refine wpList_appB (r := rInt) rfl _ _ 24 rfl _ 8 eiInt rInt_ok rfl J5.mH ((Below.refl _ _).alloc (Nat.le_refl _) _) szW ⟨w5.heap.size, 0, none⟩ rfl [] [.int .i64 (x + y)] (x + y) ⟨rfl, rfl, ⟨by omega, by omega⟩⟩ (Fr.nil _) (cell_one_new _ _ _) (by have := hnH.out; unfold NB; omega) (Nat.le_refl _) (by have := hnH.out; omega) ?_; intro Az cz yz hMz hbz hgz hAz; obtain ⟨kz, Jz⟩ := (J5.below ((Below.refl _ _).alloc (Nat.le_refl _) (.cells #[.int .i64 (x + y)] 3))).appH HG.out HO.out hMz hbz hgz hAz; have fz := kz.frozen 1; have xz := kz.bx 1 _ rfl)
      go_roundw
      case rel => exact ⟨k + 1, q + 1, lo ++ [x], hi ++ [x + y], _, _, _, _, _, _, by omega, by first | rfl | go_num, by omega, by omega, by go_num, by simp [HLo.out], by simp [HHi.out], rng8_app RLo.out ⟨by omega, by omega⟩, rng8_app RHi.out ⟨by omega, by omega⟩, Jz⟩
      case measure => simp [intOf]; omega
     ·have ko := J5.kO.bx 1 _ rfl
      have szW := J5.chg.size
      go_wp2_with (at_builtin; refine wpList_appB (r := rInt) rfl _ _ 24 rfl _ 8 eiInt rInt_ok rfl J5.mH ((Below.refl _ _).alloc (Nat.le_refl _) _) szW ⟨w5.heap.size, 0, none⟩ rfl [] [.int .i64 (7)] (7) ⟨rfl, rfl, ⟨by omega, by omega⟩⟩ (Fr.nil _) (cell_one_new _ _ _) (by have := hnH.out; unfold NB; omega) (Nat.le_refl _) (by have := hnH.out; omega) ?_; intro Az cz yz hMz hbz hgz hAz; obtain ⟨kz, Jz⟩ := (J5.below ((Below.refl _ _).alloc (Nat.le_refl _) (.cells #[.int .i64 (7)] 3))).appH HG.out HO.out hMz hbz hgz hAz; have fz := kz.frozen 1; have xz := kz.bx 1 _ rfl)
      go_roundw
      case rel => exact ⟨k + 1, q + 1, lo ++ [x], hi ++ [7], _, _, _, _, _, _, by omega, by first | rfl | go_num, by omega, by omega, by go_num, by simp [HLo.out], by simp [HHi.out], rng8_app RLo.out ⟨by omega, by omega⟩, rng8_app RHi.out ⟨by omega, by omega⟩, Jz⟩
      case measure => simp [intOf]; omega
   ·have ko := Ju.kO.bx 1 _ rfl
    have szW := Ju.chg.size
    go_wp2_with (at_builtin; refine wpList_appB (r := rInt) rfl _ _ 24 rfl _ 8 eiInt rInt_ok rfl Ju.mH ((Below.refl _ _).alloc (Nat.le_refl _) _) szW ⟨w3.heap.size, 0, none⟩ rfl [] [.int .i64 (x)] (x) ⟨rfl, rfl, ⟨by omega, by omega⟩⟩ (Fr.nil _) (cell_one_new _ _ _) (by have := hnH.out; unfold NB; omega) (Nat.le_refl _) (by have := hnH.out; omega) ?_; intro Az cz yz hMz hbz hgz hAz; obtain ⟨kz, Jz⟩ := (Ju.below ((Below.refl _ _).alloc (Nat.le_refl _) (.cells #[.int .i64 (x)] 3))).appH HG.out HO.out hMz hbz hgz hAz; have fz := kz.frozen 1; have xz := kz.bx 1 _ rfl)
    go_roundw
    case rel => exact ⟨k + 1, q, lo ++ [x], hi ++ [x], _, _, _, _, _, _, by omega, by first | rfl | go_num, by omega, by omega, by go_num, by simp [HLo.out], by simp [HHi.out], rng8_app RLo.out ⟨by omega, by omega⟩, rng8_app RHi.out ⟨by omega, by omega⟩, Jz⟩
    case measure => simp [intOf]; omega
  ·have hkn : k = n := by omega
   subst hkn
   go_wp2_with fail
   refine (l1Below_c g 16 _ (by omega) hJ.cur).mono ?_
   rintro e w2 ⟨t, rfl, ⟨t0, _, t1⟩, cu2, ch2⟩
   have J2 := hJ.step HG.out HO.out ch2 cu2
   clear hJ cu2 ch2 t1
   by_cases ht0 : t = 0
   ·subst ht0
    by_cases hk0 : (0 : Int) < k
    ·obtain ⟨gX, hA, hXl, hXB⟩ := J2.mH.form (by have := hnH.out; omega)
     subst hA
     have HSS := Lib.hid (fun (w' : World) (h : ∃ lo hi, Bxl w1 g (w.heap.size + 1) lo hi AL nL cL (some ⟨gX, 0, none⟩) nH cH w') => (h.elim fun _ h => h.elim fun _ h => h.kO.bx 1 _ rfl : w'.cell? ⟨w.heap.size + 1, 1, none⟩ = some (.slice (some ⟨gX, 0, none⟩) nH cH)))
     have J3 := J2.below (Below.refl w2.heap.size w2).drew
     have hnX : 0 < nH := by have := hnH.out; omega
     go_wp2_with fail
     refine wp_region_held_drew (S := fun w' => w'.cell? ⟨w.heap.size + 1, 1, none⟩ = some (.slice (some ⟨gX, 0, none⟩) nH cH)) (by kernel_rfl) ?_ (fun hHeld => ?_)
     ·exact HSS.out _ ⟨_, _, J3⟩
     refine tk 0 (some 48) rfl (by kernel_rfl) (by kernel_rfl) (by kernel_rfl) (fun _ _ _ h => h) (by rfl) hHeld (fun w h => by (try dsimp only at h); ((go_simp) <;> with_reducible rfl)) ?_
     try simp only [putS]
     refine tk 1 (some 49) rfl (by kernel_rfl) (by kernel_rfl) (by kernel_rfl) (fun _ _ _ h => h) (by rfl) hHeld (fun w h => by (try dsimp only at h); ((go_simp) <;> with_reducible rfl)) ?_
     try simp only [putS]
     refine tk 2 (some 50) rfl (by kernel_rfl) (by kernel_rfl) (by kernel_rfl) (fun _ _ _ h => h) (by rfl) hHeld (fun w h => by (try dsimp only at h); ((go_simp) <;> with_reducible rfl)) ?_
     try simp only [putS]
     have J4 := J3.below ((Below.refl _ _).alloc (Nat.le_refl _) (.cells #[.int .i64 (-1), .int .i64 (8), .int .i64 (7), .int .i64 (0)] 3))
     refine wpAnyH_ready (rs := [3]) (by kernel_rfl) (by simp) ?_
     refine AllReadyH.cons (o := ⟨some 51, _, _, _, _, _⟩) rfl (fun K hK => ?_) AllReadyH.nil
     clear hHeld
     go_simp
     refine hK.out _ _ (HSS.out _ ⟨_, _, J4⟩) (fun hHeld => ?_)
     clear hK K
     try simp only [putS]
     refine wpAnyH_ready (rs := [4]) (by kernel_rfl) (by simp) ?_
     refine AllReadyH.cons (o := ⟨some 52, _, _, _, _, _⟩) rfl (fun K hK => ?_) AllReadyH.nil
     clear hHeld
     go_simp
     refine (l1PickInt_c g _ 4 4 [-1, 8, 7, 0] _ (RS.lit w2.drew [-1, 8, 7, 0] _ (by simp) (by simp [I64])) J3.cur.ne (by omega) J4.cur).mono ?_
     rintro e w5 ⟨z, rfl, hz, cu5, ch5⟩
     have J5 := J4.step HG.out HO.out ch5 cu5
     have hz2 : -1 ≤ z ∧ z ≤ 8 := by simp at hz; omega
     go_wp2_with fail
     refine hK.out _ _ (HSS.out _ ⟨_, _, J5⟩) (fun hHeld => ?_)
     clear hK K
     try simp only [putS]
     refine tk 5 (some 53) rfl (by kernel_rfl) (by kernel_rfl) (by kernel_rfl) (fun _ _ _ h => h) (by rfl) hHeld (fun w h => by (try dsimp only at h); ((go_simp) <;> with_reducible rfl)) ?_
     try simp only [putS]
     have hXc := J5.mH.frozen 0
     obtain ⟨u, hu⟩ : ∃ u, w5.cell? ⟨gX, 0, none⟩ = some u := by obtain ⟨u, hu, _⟩ := J5.mH.celli (k := 0) (by omega); exact ⟨_, by simpa using hu⟩
     have J6 := J5.setH HG.out 0 (x := z) ⟨by omega, by omega⟩
     refine wpAnyH_ready (rs := [6]) (by kernel_rfl) (by simp) ?_
     refine AllReadyH.cons (o := ⟨none, _, _, _, _, _⟩) rfl (fun K hK => ?_) AllReadyH.nil
     clear hHeld
     go_simp
     refine hK.out _ _ (HSS.out _ ⟨_, _, J6⟩) (fun hHeld => ?_)
     clear hK K
     try simp only [putS]
     refine wpAnyH_done (by kernel_rfl) ?_ _
     clear hHeld
     clear HSS hu
     have c0 := J6.kO.bx 0 _ rfl
     have c1 := J6.kO.bx 1 _ rfl
     have kRW := KR.out.chg J6.chg (by have := HGW.out; simp; omega)
     have rf0 := kRW.frozen 0
     have rf1 := kRW.frozen 1
     have rc0 := kRW.bx 0 _ rfl
     have rc1 := kRW.bx 1 _ rfl
     have rl := kRW.lt
     go_wp2
     have bk3 := (kRW.set 0 (.slice AL nL cL)).set 1 (.slice (some ⟨gX, 0, none⟩) nH cH)
     have q0 := bk3.bx 0 _ rfl
     have q1 := bk3.bx 1 _ rfl
     refine bodyPost_ret (v := .agg #[.slice AL nL cL, .slice (some ⟨gX, 0, none⟩) nH cH]) (by simp [results, Try.results120, go_sem, q0, q1]) rfl ?_
     exact bxl_fin J6 HS1.out HB1.out HGW.out ⟨HLo.out, Or.inl (by rw [List.length_set]; exact HHi.out), RLo.out, rng8_set RHi.out hz2⟩
    ·have c0 := J2.kO.bx 0 _ rfl
     have c1 := J2.kO.bx 1 _ rfl
     have kRW := KR.out.chg J2.chg (by have := HGW.out; simp; omega)
     have rf0 := kRW.frozen 0
     have rf1 := kRW.frozen 1
     have rc0 := kRW.bx 0 _ rfl
     have rc1 := kRW.bx 1 _ rfl
     have rl := kRW.lt
     go_wp2
     have bk3 := (kRW.set 0 (.slice AL nL cL)).set 1 (.slice AH nH cH)
     have q0 := bk3.bx 0 _ rfl
     have q1 := bk3.bx 1 _ rfl
     refine bodyPost_ret (v := .agg #[.slice AL nL cL, .slice AH nH cH]) (by simp [results, Try.results120, go_sem, q0, q1]) rfl ?_
     exact bxl_fin J2 HS1.out HB1.out HGW.out ⟨HLo.out, Or.inl HHi.out, RLo.out, RHi.out⟩
   by_cases ht1 : t = 1
   ·subst ht1
    have ko := J2.kO.bx 1 _ rfl
    have szW := J2.chg.size
    go_upto_region 21 with (at_builtin; refine wpList_appB (r := rInt) rfl _ _ 24 rfl _ 8 eiInt rInt_ok rfl J2.mH ((Below.refl _ _).alloc (Nat.le_refl _) _) szW ⟨w2.heap.size, 0, none⟩ rfl [] [.int .i64 (1)] (1) ⟨rfl, rfl, ⟨by omega, by omega⟩⟩ (Fr.nil _) (cell_one_new _ _ _) (by have := hnH.out; unfold NB; omega) (Nat.le_refl _) (by have := hnH.out; omega) ?_; intro Az cz yz hMz hbz hgz hAz; obtain ⟨kz, Jz⟩ := (J2.below ((Below.refl _ _).alloc (Nat.le_refl _) (.cells #[.int .i64 (1)] 3))).appH HG.out HO.out hMz hbz hgz hAz; have fz := kz.frozen 1; have xz := kz.bx 1 _ rfl)
    obtain ⟨w3, hw3⟩ : ∃ W, W = yz.setCell ⟨w.heap.size + 1, 1, none⟩ (.slice Az (nH + 1) cz) := ⟨_, rfl⟩
    rw [← hw3] at Jz ⊢
    clear hw3 fz xz kz hMz hbz hgz hAz J2 ko szW
    have c0 := Jz.kO.bx 0 _ rfl
    have c1 := Jz.kO.bx 1 _ rfl
    have kRW := KR.out.chg Jz.chg (by have := HGW.out; simp; omega)
    have rf0 := kRW.frozen 0
    have rf1 := kRW.frozen 1
    have rc0 := kRW.bx 0 _ rfl
    have rc1 := kRW.bx 1 _ rfl
    have rl := kRW.lt
    go_wp2
    have bk3 := (kRW.set 0 (.slice AL nL cL)).set 1 (.slice Az (nH + 1) cz)
    have q0 := bk3.bx 0 _ rfl
    have q1 := bk3.bx 1 _ rfl
    refine bodyPost_ret (v := .agg #[.slice AL nL cL, .slice Az (nH + 1) cz]) (by simp [results, Try.results120, go_sem, q0, q1]) rfl ?_
    exact bxl_fin Jz HS1.out HB1.out HGW.out ⟨HLo.out, Or.inr (by simp [HHi.out]), RLo.out, rng8_app RHi.out ⟨by omega, by omega⟩⟩
   by_cases ht2 : t = 2
   ·subst ht2
    by_cases hk0 : (0 : Int) < k
    ·obtain ⟨m, hm⟩ : ∃ m : Nat, k = m + 1 := ⟨k - 1, by omega⟩
     have e0 : (k : Int) - 1 = (m : Int) := by omega
     have e1 : IntKind.i64.wrap ((k : Int) - 1) = (m : Int) := by rw [e0]; exact IntWalk.i64_in _ (by omega)
     have hmn : m < nL := by have := hnL.out; omega
     clear e0
     have HM := Lib.hid hm; clear hm
     obtain ⟨gX, hA, hXl, hXB⟩ := J2.mL.form (by have := hnL.out; omega)
     subst hA
     have HSS := Lib.hid (fun (w' : World) (h : ∃ lo hi, Bxl w1 g (w.heap.size + 1) lo hi (some ⟨gX, 0, none⟩) nL cL AH nH cH w') => (h.elim fun _ h => h.elim fun _ h => h.kO.bx 0 _ rfl : w'.cell? ⟨w.heap.size + 1, 0, none⟩ = some (.slice (some ⟨gX, 0, none⟩) nL cL)))
     have J3 := J2.below (Below.refl w2.heap.size w2).drew
     have hnX : 0 < nL := by have := hnL.out; omega
     go_wp2_with fail
     refine wp_region_held_drew (S := fun w' => w'.cell? ⟨w.heap.size + 1, 0, none⟩ = some (.slice (some ⟨gX, 0, none⟩) nL cL)) (by kernel_rfl) ?_ (fun hHeld => ?_)
     ·exact HSS.out _ ⟨_, _, J3⟩
     refine tk 0 (some 65) rfl (by kernel_rfl) (by kernel_rfl) (by kernel_rfl) (fun _ _ _ h => h) (by rfl) hHeld (fun w h => by (try dsimp only at h); ((go_simp) <;> with_reducible rfl)) ?_
     try simp only [putS]
     refine tk 1 (some 66) rfl (by kernel_rfl) (by kernel_rfl) (by kernel_rfl) (fun _ _ _ h => h) (by rfl) hHeld (fun w h => by (try dsimp only at h); ((go_simp) <;> with_reducible rfl)) ?_
     try simp only [putS]
     refine tk 2 (some 67) rfl (by kernel_rfl) (by kernel_rfl) (by kernel_rfl) (fun _ _ _ h => h) (by rfl) hHeld (fun w h => by (try dsimp only at h); ((go_simp) <;> with_reducible rfl)) ?_
     try simp only [putS]
     refine tk 3 (some 68) rfl (by kernel_rfl) (by kernel_rfl) (by kernel_rfl) (fun _ _ _ h => h) (by rfl) hHeld (fun w h => by (try dsimp only at h); ((go_simp) <;> with_reducible rfl)) ?_
     try simp only [putS]
     refine tk 4 (some 69) rfl (by kernel_rfl) (by kernel_rfl) (by kernel_rfl) (fun _ _ _ h => h) (by rfl) hHeld (fun w h => by (try dsimp only at h); ((go_simp) <;> with_reducible rfl)) ?_
     try simp only [putS]
     have J4 := J3.below ((Below.refl _ _).alloc (Nat.le_refl _) (.cells #[.int .i64 (-1), .int .i64 (7)] 3))
     refine wpAnyH_ready (rs := [5]) (by kernel_rfl) (by simp) ?_
     refine AllReadyH.cons (o := ⟨some 70, _, _, _, _, _⟩) rfl (fun K hK => ?_) AllReadyH.nil
     clear hHeld
     go_simp
     refine hK.out _ _ (HSS.out _ ⟨_, _, J4⟩) (fun hHeld => ?_)
     clear hK K
     try simp only [putS]
     refine wpAnyH_ready (rs := [6]) (by kernel_rfl) (by simp) ?_
     refine AllReadyH.cons (o := ⟨some 71, _, _, _, _, _⟩) rfl (fun K hK => ?_) AllReadyH.nil
     clear hHeld
     go_simp
     refine (l1PickInt_c g _ 2 2 [-1, 7] _ (RS.lit w2.drew [-1, 7] _ (by simp) (by simp [I64])) J3.cur.ne (by omega) J4.cur).mono ?_
     rintro e w5 ⟨z, rfl, hz, cu5, ch5⟩
     have J5 := J4.step HG.out HO.out ch5 cu5
     have hz2 : -1 ≤ z ∧ z ≤ 8 := by simp at hz; omega
     go_wp2_with fail
     refine hK.out _ _ (HSS.out _ ⟨_, _, J5⟩) (fun hHeld => ?_)
     clear hK K
     try simp only [putS]
     refine tk 7 (some 72) rfl (by kernel_rfl) (by kernel_rfl) (by kernel_rfl) (fun _ _ _ h => h) (by rfl) hHeld (fun w h => by (try dsimp only at h); ((go_simp) <;> with_reducible rfl)) ?_
     try simp only [putS]
     have hXc := J5.mL.frozen m
     obtain ⟨u, hu⟩ : ∃ u, w5.cell? ⟨gX, m, none⟩ = some u := by obtain ⟨u, hu, _⟩ := J5.mL.celli (k := m) (by omega); exact ⟨_, by simpa using hu⟩
     have J6 := J5.setL HG.out m (x := z) ⟨by omega, by omega⟩
     refine wpAnyH_ready (rs := [8]) (by kernel_rfl) (by simp) ?_
     refine AllReadyH.cons (o := ⟨none, _, _, _, _, _⟩) rfl (fun K hK => ?_) AllReadyH.nil
     clear hHeld
     go_simp
     refine hK.out _ _ (HSS.out _ ⟨_, _, J6⟩) (fun hHeld => ?_)
     clear hK K
     try simp only [putS]
     refine wpAnyH_done (by kernel_rfl) ?_ _
     clear hHeld
     clear HSS hu
     have c0 := J6.kO.bx 0 _ rfl
     have c1 := J6.kO.bx 1 _ rfl
     have kRW := KR.out.chg J6.chg (by have := HGW.out; simp; omega)
     have rf0 := kRW.frozen 0
     have rf1 := kRW.frozen 1
     have rc0 := kRW.bx 0 _ rfl
     have rc1 := kRW.bx 1 _ rfl
     have rl := kRW.lt
     go_wp2
     have bk3 := (kRW.set 0 (.slice (some ⟨gX, 0, none⟩) nL cL)).set 1 (.slice AH nH cH)
     have q0 := bk3.bx 0 _ rfl
     have q1 := bk3.bx 1 _ rfl
     refine bodyPost_ret (v := .agg #[.slice (some ⟨gX, 0, none⟩) nL cL, .slice AH nH cH]) (by simp [results, Try.results120, go_sem, q0, q1]) rfl ?_
     exact bxl_fin J6 HS1.out HB1.out HGW.out ⟨by rw [List.length_set]; exact HLo.out, Or.inl HHi.out, rng8_set RLo.out hz2, RHi.out⟩
    ·have c0 := J2.kO.bx 0 _ rfl
     have c1 := J2.kO.bx 1 _ rfl
     have kRW := KR.out.chg J2.chg (by have := HGW.out; simp; omega)
     have rf0 := kRW.frozen 0
     have rf1 := kRW.frozen 1
     have rc0 := kRW.bx 0 _ rfl
     have rc1 := kRW.bx 1 _ rfl
     have rl := kRW.lt
     go_wp2
     have bk3 := (kRW.set 0 (.slice AL nL cL)).set 1 (.slice AH nH cH)
     have q0 := bk3.bx 0 _ rfl
     have q1 := bk3.bx 1 _ rfl
     refine bodyPost_ret (v := .agg #[.slice AL nL cL, .slice AH nH cH]) (by simp [results, Try.results120, go_sem, q0, q1]) rfl ?_
     exact bxl_fin J2 HS1.out HB1.out HGW.out ⟨HLo.out, Or.inl HHi.out, RLo.out, RHi.out⟩
   have c0 := J2.kO.bx 0 _ rfl
   have c1 := J2.kO.bx 1 _ rfl
   have kRW := KR.out.chg J2.chg (by have := HGW.out; simp; omega)
   have rf0 := kRW.frozen 0
   have rf1 := kRW.frozen 1
   have rc0 := kRW.bx 0 _ rfl
   have rc1 := kRW.bx 1 _ rfl
   have rl := kRW.lt
   go_wp2
   have bk3 := (kRW.set 0 (.slice AL nL cL)).set 1 (.slice AH nH cH)
   have q0 := bk3.bx 0 _ rfl
   have q1 := bk3.bx 1 _ rfl
   refine bodyPost_ret (v := .agg #[.slice AL nL cL, .slice AH nH cH]) (by simp [results, Try.results120, go_sem, q0, q1]) rfl ?_
   exact bxl_fin J2 HS1.out HB1.out HGW.out ⟨HLo.out, Or.inl HHi.out, RLo.out, RHi.out⟩
end Go.Proofs.Ytkdajdafhjobbaa
