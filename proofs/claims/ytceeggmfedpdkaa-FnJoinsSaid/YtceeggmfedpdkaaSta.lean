/-
  Sta
-/
import Derived.Test.YtceeggmfedpdkaaKeep
import Derived.Test.YtceeggmfedpdkaaSrd
import Derived.Test.YtceeggmfedpdkaaJlw
namespace Go.Proofs.Ytceeggmfedpdkaa
open Go.RowKit
set_option linter.unusedVariables false
set_option linter.unusedSimpArgs false
theorem ans_fin {w W : World} {B gR : Nat} {A1 A2 : Option Addr} {n1 c1 n2 c2 : Nat} {V : List Int} {R : List (List Int)} (o1 : OS NB 3 rInt W (blk A1) A1 n1 c1 V) (h1 : ∀ k ∈ blk A1, gR < k ∧ k < B) (m2 : MS B NB 37 (rSlice NB 3 rInt) W A2 n2 c2 R) (hg : gR < B) (hw : w.heap.size ≤ gR) (hB : Below w.heap.size w W) (u v : Value) :
  ∃ fp, (rAnswer NB).own (set2 W gR u v) fp [.slice A1 n1 c1, .slice A2 n2 c2] ⟨V, R⟩ ∧ Fr w.heap.size fp ∧ Below w.heap.size w (set2 W gR u v) := by
 have hs : ∀ k, k ≠ gR → (set2 W gR u v).heap[k]? = W.heap[k]? := fun k hk => (heap_setCell_other _ ⟨gR, 1, none⟩ k _ (fun e => hk e)).trans (heap_setCell_other _ ⟨gR, 0, none⟩ k _ (fun e => hk e))
 obtain ⟨f, o, fr⟩ := m2
 refine ⟨blk A1 ++ f, rAnswer_own.2 ⟨A1, n1, c1, A2, n2, c2, blk A1, f, rfl, rfl, o1.okeep rInt_ok (fun k hk => hs k (by have := h1 k hk; omega)), o.okeep (rSlice_ok NB _ rInt_ok) (fun k hk => hs k (by have := fr.ge k hk; omega))⟩, ⟨List.nodup_append.2 ⟨by cases A1 <;> simp [blk], fr.nd, fun a ha b hb e => by have := h1 a ha; have := fr.ge b hb; omega⟩, fun k hk => ?_⟩, bls2 hB hw _ _⟩
 rcases List.mem_append.1 hk with hk | hk
 ·have := h1 k hk; omega
 ·have := fr.ge k hk; omega
theorem zAns_r (w : World) (w0 : World) (h : Below w0.heap.size w0 w) : ∃ cs fp, Ending.returned (.tuple #[.agg #[.slice none 0 0, .slice none 0 0], .bool false]) = .returned (.tuple #[.agg cs.toArray, .bool false]) ∧ (rAnswer NB).own w fp cs ⟨[], []⟩ ∧ Fr w0.heap.size fp ∧ Below w0.heap.size w0 w :=
 ⟨[.slice none 0 0, .slice none 0 0], [], rfl, zAnswer_own w, Fr.nil _, h⟩
set_option maxRecDepth 100000 in
set_option maxHeartbeats 1600000 in
theorem iStreamAnswer_c (csx : List Value) (x : StreamD) (w : World) (hx : (rStream NB).rep w csx x) :
  Calls Try.prog 20 #[.agg csx.toArray] w (RetVB (rAnswer NB) (streamAnswer x).1 (.bool (streamAnswer x).2) w) := by
 have rx := hx
 obtain ⟨AxVars, nxVars, cxVars, AxRows, nxRows, cxRows, rfl, hxVars, hxRows⟩ := rStream_rep.1 hx
 clear hx
 have hB : Below w.heap.size w w := Below.refl _ _
 have hAx := (Below.refl (World.heap (w)).size (w)).alloc (Nat.le_refl _) (.cells #[.slice AxVars nxVars cxVars, .slice AxRows nxRows cxRows] 40)
 replace hB := hB.trans (hAx.mono hB.size)
 have bxx := Bx.new (w) [.slice AxVars nxVars cxVars, .slice AxRows nxRows cxRows] 40
 clear hAx
 obtain ⟨wa, hwa⟩ : ∃ W, W = w.alloc (.cells #[.slice AxVars nxVars cxVars, .slice AxRows nxRows cxRows] 40) := ⟨_, rfl⟩
 rw [← hwa] at hB bxx
 have hsa : wa.heap.size = w.heap.size + 1 := by rw [hwa]; simp
 have kR := Bk.new wa [.slice none 0 0, .slice none 0 0] 47
 have hb0 := (Below.refl wa.heap.size wa).alloc (Nat.le_refl _) (.cells #[.slice none 0 0, .slice none 0 0] 47)
 rw [hsa] at kR
 replace hB := hB.trans (hb0.mono hB.size)
 replace bxx := bxx.below hb0
 clear hb0
 obtain ⟨wb, hwb⟩ : ∃ W, W = wa.alloc (.cells #[.slice none 0 0, .slice none 0 0] 47) := ⟨_, rfl⟩
 rw [← hwb] at hB bxx kR
 go_enter Try.func20, Try.ntmps20
 go_upto_region 1 with fail
 rw [← hwa, ← hwb]
 clear hwa hwb hsa
 have kx_0 := bxx 0 _ rfl
 have kx_1 := bxx 1 _ rfl
 go_wp2_with fail
 refine (iIsValidStream_c _ x _ ((rStream_ok NB).keep rx (cells_below hB))).mono ?_
 rintro e w1 ⟨rfl, hb1⟩
 replace hB := hB.trans (hb1.mono hB.size)
 replace bxx := bxx.below hb1
 replace kR := kR.below hb1
 clear hb1 kx_0 kx_1
 cases hv : validStream x
 ·have HV : Hid (streamAnswer x = (⟨[], []⟩, false)) := by show _ = _; unfold streamAnswer; rw [if_neg (by rw [hv]; decide)]
  clear hv
  obtain ⟨r0, f0, r1, f1⟩ := kR.r2
  go_wp2
  have q := kR.s2
  refine bodyPost_ret (v := _) (by simp [results, Try.results20, go_sem, q]; rfl) rfl ?_
  rw [HV.out]
  exact zAns_r _ w (bls2 hB (Nat.le_succ _) _ _)
 have HV : Hid (streamAnswer x = (⟨x.fVars, setR x.fRows⟩, true)) := by show _ = _; unfold streamAnswer; rw [if_pos hv]
 clear hv
 have hlt : w.heap.size + 1 ≤ w1.heap.size := Nat.le_of_lt kR.lt
 have HSS : Hid (∀ w', Below (w.heap.size + 1) w1 w' → (w'.cell? ⟨w.heap.size, 0, none⟩ = some (.slice AxVars nxVars cxVars) ∧ w'.cell? ⟨w.heap.size, 1, none⟩ = some (.slice AxRows nxRows cxRows))) := by
  show ∀ w', _ → _
  intro w' hb
  exact (bxx.low (Nat.lt_succ_self _) hb).b2
 have hd0 := (Below.refl w1.heap.size w1).drew
 go_wp2
 refine hbg HSS.out (hd0.mono hlt) (fun hHeld => ?_)
 refine tka 0 8 hHeld ?_; simp only [putS]
 refine tka 1 9 hHeld ?_; simp only [putS]
 refine tka 3 11 hHeld ?_; simp only [putS]
 refine tka 4 12 hHeld ?_; simp only [putS]
 refine rd 2 (some 10) fun K hK => ?_
 clear hHeld
 go_simp
 refine (iCopyInts_c _ _ _ x.fVars _ (hxVars.below rInt_ok (hB.trans (hd0.mono hB.size)))).mono ?_
 rintro e w4 ⟨A1, n1, c1, rfl, m1, hb4⟩
 have hC1 := hd0.trans (hb4.mono hd0.size)
 go_wp2_with fail
 refine hK.out _ _ (HSS.out _ (hC1.mono hlt)) (fun hHeld => ?_)
 clear hK K
 try simp only [putS]
 refine rd 5 (some 13) fun K hK => ?_
 clear hHeld
 go_simp
 refine (iSorted_c _ _ _ x.fRows _ (hxRows.below (rSlice_ok NB _ rInt_ok) (hB.trans (hC1.mono hB.size)))).mono ?_
 rintro e w5 ⟨A2, n2, c2, rfl, m2, hb5⟩
 have hC2 := hC1.trans (hb5.mono hC1.size)
 go_wp2_with fail
 refine hK.out _ _ (HSS.out _ (hC2.mono hlt)) (fun hHeld => ?_)
 clear hK K
 try simp only [putS]
 have k5 := kR.below hC2
 obtain ⟨r0, f0, r1, f1⟩ := k5.r2
 refine tka 6 14 hHeld ?_; simp only [putS]
 refine rd 7 none fun K hK => ?_
 clear hHeld
 go_simp
 refine hK.out _ _ (HSS.out _ (bls2 (hC2.mono hlt) (Nat.le_refl _) _ _)) (fun hHeld => ?_)
 clear hK K
 try simp only [putS]
 refine tka 8 3 hHeld ?_; simp only [putS]
 refine wpAnyH_done (by kernel_rfl) ?_ _
 clear hHeld
 clear HSS r0 f0 r1 f1
 go_wp2
 have q := k5.s2
 refine bodyPost_ret (v := _) (by simp [results, Try.results20, go_sem, q]; rfl) rfl ?_
 rw [HV.out]
 obtain ⟨o1, g1⟩ := m1.blkI
 replace g1 : ∀ k ∈ blk A1, w1.heap.size ≤ k := g1
 have hl2 := kR.lt
 have l1 := o1.lt rInt_ok
 have z1 := hC1.size
 obtain ⟨fp, e1, e2, e3⟩ := ans_fin (w := w) (o1.belowS rInt_ok hb5) (fun k hk => ⟨by have := g1 k hk; omega, l1 k hk⟩) m2 (by omega) (Nat.le_succ _) (hB.trans (hC2.mono hB.size)) (.slice A1 n1 c1) (.slice A2 n2 c2)
 exact ⟨_, fp, rfl, e1, e2, e3⟩
end Go.Proofs.Ytceeggmfedpdkaa
