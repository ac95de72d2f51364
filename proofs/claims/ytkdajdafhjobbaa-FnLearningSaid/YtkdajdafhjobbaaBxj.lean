/-
  Bxj
-/
import Derived.Test.YtkdajdafhjobbaaKeep
import Derived.Test.YtkdajdafhjobbaaBxi
namespace Go.Proofs.Ytkdajdafhjobbaa
open Go.RowKit
set_option linter.unusedVariables false
set_option linter.unusedSimpArgs false
set_option maxRecDepth 100000 in
set_option maxHeartbeats 1600000 in
theorem drawIsIn_c (A : Option Addr) (n cap : Nat) (l : List Int) (w : World) (hr : RS NB rByte w A n cap l) :
  Calls Try.prog 15 #[.slice A n cap] w fun e w' => ∃ (b : BoxD) (L : List Int) (A1 : Option Addr) (n1 c1 : Nat) (A2 : Option Addr) (n2 c2 : Nat) (AL : Option Addr) (nL cL : Nat), e = .returned (.tuple #[.agg #[.slice A1 n1 c1, .slice A2 n2 c2], .slice AL nL cL]) ∧
   (rBox NB).rep w' [.slice A1 n1 c1, .slice A2 n2 c2] b ∧ RS NB rInt w' AL nL cL L ∧ Below w.heap.size w w' := by
 obtain ⟨wa, hwa⟩ : ∃ wa, wa = w.alloc (.cells #[.slice none 0 0, .slice none 0 0] 26) := ⟨_, rfl⟩
 have hs : wa.heap.size = w.heap.size + 1 := by rw [hwa]; simp
 have hba : Below w.heap.size w wa := by rw [hwa]; exact (Below.refl w.heap.size w).alloc (Nat.le_refl _) _
 have kR : Bk wa w.heap.size 26 [.slice none 0 0, .slice none 0 0] := by rw [hwa]; exact Bk.new w _ _
 have hra := hr.below rByte_ok hba
 go_enter Try.func15, Try.ntmps15
 go_wp2_with fail
 rw [← hwa]
 clear hwa
 refine (l20Both_c _ _ _ _ _ hra).mono ?_
 rintro e w1 ⟨g, N, lo, hi, L, A1, n1, c1, A2, n2, c2, AL, nL, cL, fp, rfl, ob, hfp, hgf, hfit, hN, hM, hc, hg, hB1⟩
 have kR1 := kR.below hB1
 have HX : Hid (w.heap.size < g) := by show _ < _; omega
 have HFP : Hid (∀ z ∈ fp, w.heap.size < z) := by show ∀ z ∈ fp, _; exact fun z hz => by have := hfp z hz; omega
 have hB : Below w.heap.size w w1 := hba.trans (hB1.mono hba.size)
 obtain ⟨w2, hw2⟩ : ∃ W, W = w1.alloc (.cells #[.slice A1 n1 c1, .slice A2 n2 c2] 26) := ⟨_, rfl⟩
 have hb2 : Below w1.heap.size w1 w2 := by rw [hw2]; exact (Below.refl w1.heap.size w1).alloc (Nat.le_refl _) _
 have kB : Bk w2 w1.heap.size 26 [.slice A1 n1 c1, .slice A2 n2 c2] := by rw [hw2]; exact Bk.new w1 _ _
 have kR2 := kR1.below hb2
 have ob2 := (rBox_ok NB).ownB ob hb2
 have hM2 := hM.below rInt_ok hb2
 have hB2 := hB.trans (hb2.mono hB.size)
 clear kR kR1 hs hba hra hfp hB1 hb2 ob hM hc hgf hg hB
 go_upto_region 2 with fail
 rw [← hw2]
 clear hw2
 have b0 := kB.bx 0 _ rfl
 have b1 := kB.bx 1 _ rfl
 have rf0 := kR2.frozen 0
 have rf1 := kR2.frozen 1
 have rc0 := kR2.bx 0 _ rfl
 have rc1 := kR2.bx 1 _ rfl
 go_wp2
 have bk3 := (kR2.set 0 (.slice A1 n1 c1)).set 1 (.slice A2 n2 c2)
 have q0 := bk3.bx 0 _ rfl
 have q1 := bk3.bx 1 _ rfl
 refine bodyPost_ret (v := .tuple #[.agg #[.slice A1 n1 c1, .slice A2 n2 c2], .slice AL nL cL]) (by simp [results, Try.results15, go_sem, q0, q1]) rfl ?_
 have hs : ∀ z, z ≠ w.heap.size → ((w2.setCell ⟨w.heap.size, 0, none⟩ (.slice A1 n1 c1)).setCell ⟨w.heap.size, 1, none⟩ (.slice A2 n2 c2)).heap[z]? = w2.heap[z]? := fun z hz => (heap_setCell_other _ ⟨w.heap.size, 1, none⟩ z _ (fun e => hz e)).trans (heap_setCell_other _ ⟨w.heap.size, 0, none⟩ z _ (fun e => hz e))
 have hMf : MS (g + 1) NB 3 rInt ((w2.setCell ⟨w.heap.size, 0, none⟩ (.slice A1 n1 c1)).setCell ⟨w.heap.size, 1, none⟩ (.slice A2 n2 c2)) AL nL cL L := by
  obtain ⟨f, o, fr⟩ := hM2
  exact ⟨f, o.okeep rInt_ok (fun z hz => hs z (by have := fr.ge z hz; have := HX.out; omega)), fr⟩
 exact ⟨⟨lo, hi⟩, L, A1, n1, c1, A2, n2, c2, AL, nL, cL, rfl, (rBox_ok NB).toRep ((rBox_ok NB).okeep ob2 (fun z hz => hs z (by have := HFP.out z hz; omega))), hMf.rs rInt_ok, hB2.trans (((Below.refl w.heap.size w2).setCell (Nat.le_refl w.heap.size) _).setCell (Nat.le_refl w.heap.size) _)⟩
set_option maxRecDepth 100000 in
set_option maxHeartbeats 1600000 in
theorem drawObsH_c (A : Option Addr) (n cap : Nat) (l : List Int) (w : World) (hr : RS NB rByte w A n cap l) :
  Calls Try.prog 16 #[.slice A n cap] w fun e w' => ∃ (m k : Int) (x : Bool) (L : List Int) (AL : Option Addr) (nL cL : Nat), e = .returned (.tuple #[.agg #[.int .i64 m, .int .i64 k, .bool x], .slice AL nL cL]) ∧
   I64 m ∧ I64 k ∧ RS NB rInt w' AL nL cL L ∧ Below w.heap.size w w' := by
 obtain ⟨wa, hwa⟩ : ∃ wa, wa = w.alloc (.cells #[.int .i64 0, .int .i64 0, .bool false] 38) := ⟨_, rfl⟩
 have hs : wa.heap.size = w.heap.size + 1 := by rw [hwa]; simp
 have hba : Below w.heap.size w wa := by rw [hwa]; exact (Below.refl w.heap.size w).alloc (Nat.le_refl _) _
 have kR : Bk wa w.heap.size 38 [.int .i64 0, .int .i64 0, .bool false] := by rw [hwa]; exact Bk.new w _ _
 have hra := hr.below rByte_ok hba
 go_enter Try.func16, Try.ntmps16
 go_wp2_with fail
 rw [← hwa]
 clear hwa
 refine (l20Both_c _ _ _ _ _ hra).mono ?_
 rintro e w1 ⟨g, N, lo, hi, L, A1, n1, c1, A2, n2, c2, AL, nL, cL, fp, rfl, ob, hfp, hgf, hfit, hN, hM, hc, hg, hB1⟩
 have kR1 := kR.below hB1
 have HX : Hid (w.heap.size < g) := by show _ < _; omega
 have hB : Below w.heap.size w w1 := hba.trans (hB1.mono hba.size)
 obtain ⟨w2, hw2⟩ : ∃ W, W = w1.alloc (.cells #[.slice A1 n1 c1, .slice A2 n2 c2] 26) := ⟨_, rfl⟩
 have hb2 : Below w1.heap.size w1 w2 := by rw [hw2]; exact (Below.refl w1.heap.size w1).alloc (Nat.le_refl _) _
 have kB : Bk w2 w1.heap.size 26 [.slice A1 n1 c1, .slice A2 n2 c2] := by rw [hw2]; exact Bk.new w1 _ _
 have kR2 := kR1.below hb2
 have ob2 := (rBox_ok NB).ownB ob hb2
 have hM2 := hM.below rInt_ok hb2
 have hc2 := hc.below hb2
 have hB2 := hB.trans (hb2.mono hB.size)
 have HGF := Lib.hid hgf
 clear kR kR1 hs hba hra hfp hB1 hb2 ob hM hc hgf hg hB
 go_upto_region 2 with fail
 rw [← hw2]
 clear hw2
 have b0 := kB.bx 0 _ rfl
 have b1 := kB.bx 1 _ rfl
 go_wp2_with fail
 refine (l29Obs_c g N A1 A2 n1 c1 n2 c2 fp lo hi _ hN ob2 hfit HGF.out hc2).mono ?_
 rintro e w5 ⟨m, q, x, rfl, hm, hq, hc5, hC5⟩
 have kR5 := kR2.chg hC5 (by simp; have := HX.out; omega)
 have hB5 : Below w.heap.size w w5 := hB2.trans (hC5.of1 hB2.size (Nat.le_of_lt HX.out))
 have hM5 : MS (g + 1) NB 3 rInt w5 AL nL cL L := by
  obtain ⟨f, o, fr⟩ := hM2
  exact ⟨f, o.chg rInt_ok hC5 (fun z hz => by have := fr.ge z hz; simp; omega), fr⟩
 clear b0 b1 hM2 kR2 hB2 hc2 hC5 ob2
 have rf0 := kR5.frozen 0
 have rf1 := kR5.frozen 1
 have rf2 := kR5.frozen 2
 have rc0 := kR5.bx 0 _ rfl
 have rc1 := kR5.bx 1 _ rfl
 have rc2 := kR5.bx 2 _ rfl
 go_wp2
 have bk3 := ((kR5.set 0 (.int .i64 m)).set 1 (.int .i64 q)).set 2 (.bool x)
 have q0 := bk3.bx 0 _ rfl
 have q1 := bk3.bx 1 _ rfl
 have q2 := bk3.bx 2 _ rfl
 refine bodyPost_ret (v := .tuple #[.agg #[.int .i64 m, .int .i64 q, .bool x], .slice AL nL cL]) (by simp [results, Try.results16, go_sem, q0, q1, q2]) rfl ?_
 have hs : ∀ z, z ≠ w.heap.size → (((w5.setCell ⟨w.heap.size, 0, none⟩ (.int .i64 m)).setCell ⟨w.heap.size, 1, none⟩ (.int .i64 q)).setCell ⟨w.heap.size, 2, none⟩ (.bool x)).heap[z]? = w5.heap[z]? := fun z hz => ((heap_setCell_other _ ⟨w.heap.size, 2, none⟩ z _ (fun e => hz e)).trans (heap_setCell_other _ ⟨w.heap.size, 1, none⟩ z _ (fun e => hz e))).trans (heap_setCell_other _ ⟨w.heap.size, 0, none⟩ z _ (fun e => hz e))
 have hMf : MS (g + 1) NB 3 rInt (((w5.setCell ⟨w.heap.size, 0, none⟩ (.int .i64 m)).setCell ⟨w.heap.size, 1, none⟩ (.int .i64 q)).setCell ⟨w.heap.size, 2, none⟩ (.bool x)) AL nL cL L := by
  obtain ⟨f, o, fr⟩ := hM5
  exact ⟨f, o.okeep rInt_ok (fun z hz => hs z (by have := fr.ge z hz; have := HX.out; omega)), fr⟩
 exact ⟨m, q, x, L, AL, nL, cL, rfl, hm, hq, hMf.rs rInt_ok, hB5.trans (bset3 (Nat.le_refl _) _ _ _)⟩
end Go.Proofs.Ytkdajdafhjobbaa
