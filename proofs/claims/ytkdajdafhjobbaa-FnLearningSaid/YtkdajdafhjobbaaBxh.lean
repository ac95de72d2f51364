/-
  Bxh
-/
import Derived.Test.YtkdajdafhjobbaaBxg
import Derived.Test.YtkdajdafhjobbaaTo
namespace Go.Proofs.Ytkdajdafhjobbaa
open Go.RowKit
set_option linter.unusedVariables false
set_option linter.unusedSimpArgs false
theorem cells3_new (w : World) (t : TypeId) (a b c : Value) (j : Nat) (u : Value) (h : [a, b, c][j]? = some u) : (w.alloc (.cells #[a, b, c] t)).cell? (Addr.add ⟨w.heap.size, 0, none⟩ j) = some u := by
 have := (Bk.new w [a, b, c] t).bx j u h
 match j, h, this with
 | 0, h, this => exact this
 | 1, h, this => exact this
 | 2, h, this => exact this
set_option maxRecDepth 100000 in
set_option maxHeartbeats 1600000 in
theorem drawLearn_c (A : Option Addr) (n cap : Nat) (l : List Int) (w : World) (hr : RS NB rByte w A n cap l) :
  Calls Try.prog 8 #[.slice A n cap] w fun e w' => ∃ (b : BoxD) (L : List ObservationD) (A1 : Option Addr) (n1 c1 : Nat) (A2 : Option Addr) (n2 c2 : Nat) (AL : Option Addr) (nL cL : Nat), e = .returned (.tuple #[.agg #[.slice A1 n1 c1, .slice A2 n2 c2], .slice AL nL cL]) ∧
   (rBox NB).rep w' [.slice A1 n1 c1, .slice A2 n2 c2] b ∧ RS NB (rObservation NB) w' AL nL cL L ∧ Below w.heap.size w w' := by
 obtain ⟨wa, hwa⟩ : ∃ wa, wa = w.alloc (.cells #[.slice none 0 0, .slice none 0 0] 26) := ⟨_, rfl⟩
 have hs : wa.heap.size = w.heap.size + 1 := by rw [hwa]; simp
 have hba : Below w.heap.size w wa := by rw [hwa]; exact (Below.refl w.heap.size w).alloc (Nat.le_refl _) _
 have kR : Bk wa w.heap.size 26 [.slice none 0 0, .slice none 0 0] := by rw [hwa]; exact Bk.new w _ _
 have hra := hr.below rByte_ok hba
 go_enter Try.func8, Try.ntmps8
 go_wp2_with fail
 rw [← hwa]
 clear hwa
 refine (l1New_c _ _ _ _ _ hra).mono ?_
 rintro e w1 ⟨g, rfl, hg, hc1, hB1⟩
 have kR1 := kR.below hB1
 go_wp2_with fail
 refine (l20Any_c g _ hc1).mono ?_
 rintro e w2 ⟨N, lo, hi, A1, n1, c1, A2, n2, c2, fp, hN, rfl, ob, fb, hfit, hc2, hC2⟩
 have hgw := hc1.lt
 have kR2 := kR1.chg hC2 (by simp; omega)
 obtain ⟨w3, hw3⟩ : ∃ w3, w3 = (w2.alloc (.cells #[.slice A1 n1 c1, .slice A2 n2 c2] 26)).alloc (.cells #[] 38) := ⟨_, rfl⟩
 have hb3 : Below w2.heap.size w2 w3 := by rw [hw3]; exact ((Below.refl w2.heap.size w2).alloc (Nat.le_refl _) _).alloc (by simp) _
 have hs3 : w3.heap.size = w2.heap.size + 1 + 1 := by rw [hw3]; simp
 have kB : Bk w3 w2.heap.size 26 [.slice A1 n1 c1, .slice A2 n2 c2] := by rw [hw3]; exact (Bk.new w2 _ _).below ((Below.refl _ _).alloc (Nat.le_refl _) _)
 have hMS : MS (w2.heap.size + 1) NB 38 (rObservation NB) w3 (some ⟨w2.heap.size + 1, 0, none⟩) 0 0 [] := by
  rw [hw3]
  have := MS.empty (B := w2.heap.size + 1) (M := NB) (e := 38) (r := rObservation NB) (w2.alloc (.cells #[.slice A1 n1 c1, .slice A2 n2 c2] 26)) (by simp)
  simpa using this
 have hc3 := hc2.below hb3
 have kR3 := kR2.below hb3
 have ob3 := (rBox_ok NB).ownB ob hb3
 have hs2 := hC2.size
 have hs1 := hB1.size
 have HFP : Hid (∀ z ∈ fp, z ≠ g ∧ z < w2.heap.size ∧ z ≠ w.heap.size) := by
  show ∀ z ∈ fp, _
  exact fun z hz => ⟨fun e => by have := fb.ge z hz; omega, (rBox_ok NB).lt ob z hz, fun e => by have := fb.ge z hz; omega⟩
 have HX : Hid (g < w2.heap.size ∧ w.heap.size < w2.heap.size ∧ w.heap.size ≠ g ∧ w.heap.size ≤ g) := by show _ ∧ _; omega
 have hB3 : Below w.heap.size w w3 := ((hba.trans (hB1.mono hba.size)).trans (hC2.of1 (Nat.le_trans hba.size hB1.size) (by omega))).trans (hb3.mono (by omega))
 clear hc2 hC2 kR2 kR1 hB1 ob hb3 hra hc1 hgw hs1 hs2 fb kR hba
 go_wp2_with fail
 rw [← hw3]
 clear hw3
 refine (l1Below_c g 5 _ (by omega) hc3).mono ?_
 rintro e w4 ⟨k, rfl, ⟨k0, _, k1⟩, hc4, hC4⟩
 have k2 := k1 (by omega)
 clear k1
 have kR4 := kR3.chg hC4 (by simp; exact HX.out.2.2.1)
 have kB4 := kB.chg hC4 (by have := HX.out.1; simp; omega)
 have ob4 := (rBox_ok NB).ownC ob3 hC4 (fun z hz => by simp; exact (HFP.out z hz).1)
 have hB4 : Below w.heap.size w w4 := hB3.trans (hC4.of1 hB3.size HX.out.2.2.2)
 have hz4 : w2.heap.size + 1 ≤ w4.heap.size := by have := hC4.size; omega
 have hM4 : MS (w2.heap.size + 1) NB 38 (rObservation NB) w4 (some ⟨w2.heap.size + 1, 0, none⟩) 0 0 [] := by
  obtain ⟨f, o, fr⟩ := hMS
  exact ⟨f, o.chg (rObservation_ok NB) hC4 (fun z hz => by have := fr.ge z hz; have := HX.out.1; simp; omega), fr⟩
 obtain ⟨kn, hkn, rfl⟩ : ∃ kn : Nat, kn ≤ 4 ∧ k = (kn : Int) := ⟨k.toNat, by omega, by omega⟩
 clear hC4 kR3 kB ob3 hMS hc3 hB3 hs3
 go_wp2_with fail
 go_loopw [6, 7] (fun s t wr => ∃ (j : Nat) (L : List ObservationD) (AL : Option Addr) (nL cL : Nat), j ≤ 4 ∧ nL + j ≤ 4 ∧ t = .int .i64 j ∧ s = .slice AL nL cL ∧ MS (w2.heap.size + 1) NB 38 (rObservation NB) wr AL nL cL L ∧ Bk wr w.heap.size 26 [.slice none 0 0, .slice none 0 0] ∧ Bk wr w2.heap.size 26 [.slice A1 n1 c1, .slice A2 n2 c2] ∧ (rBox NB).own wr fp [.slice A1 n1 c1, .slice A2 n2 c2] ⟨lo, hi⟩ ∧ Cur wr g ∧ Below w.heap.size w wr ∧ w2.heap.size + 1 ≤ wr.heap.size) (fun _ t _ => (intOf t).toNat)
 case atStart => exact ⟨kn, [], _, 0, 0, hkn, by omega, rfl, rfl, hM4, kR4, kB4, ob4, hc4, hB4, hz4⟩
 case round =>
  clear hM4 kR4 kB4 ob4 hc4 hB4 hz4
  obtain ⟨j, L, AL, nL, cL, hj, hnL, rfl, rfl, hM, kR, kB, ob, hc, hB, hz⟩ := hrel
  have b0 := kB.bx 0 _ rfl
  have b1 := kB.bx 1 _ rfl
  by_cases hp : (0 : Int) < j
  ·go_wp2_with fail
   refine (l29Obs_c g N A1 A2 n1 c1 n2 c2 fp lo hi _ hN ob hfit (fun h => (HFP.out g h).1 rfl) hc).mono ?_
   rintro e w5 ⟨m, q, x, rfl, hm, hq, hc5, hC5⟩
   have kR5 := kR.chg hC5 (by simp; exact HX.out.2.2.1)
   have kB5 := kB.chg hC5 (by have := HX.out.1; simp; omega)
   have ob5 := (rBox_ok NB).ownC ob hC5 (fun z hz => by simp; exact (HFP.out z hz).1)
   have hB5 : Below w.heap.size w w5 := hB.trans (hC5.of1 hB.size HX.out.2.2.2)
   have hz5 : w2.heap.size + 1 ≤ w5.heap.size := Nat.le_trans hz hC5.size
   have hM5 : MS (w2.heap.size + 1) NB 38 (rObservation NB) w5 AL nL cL L := by
    obtain ⟨f, o, fr⟩ := hM
    exact ⟨f, o.chg (rObservation_ok NB) hC5 (fun z hz => by have := fr.ge z hz; have := HX.out.1; simp; omega), fr⟩
   clear b0 b1
   go_wp2_with (at_builtin; refine wpList_app (r := rObservation NB) rfl _ _ 27 rfl _ 24 eiObservation (rObservation_ok NB) rfl hM5 ((Below.refl _ _).alloc (Nat.le_refl _) _) hz5 ⟨w5.heap.size, 0, none⟩ rfl [] [.int .i64 m, .int .i64 q, .bool x] ⟨m, q, x⟩ (rObservation_own.2 ⟨rfl, rfl, hm, hq⟩) (Fr.nil _) (cells3_new _ _ _ _ _) (by unfold NB; omega) (Nat.le_refl _) (by omega) ?_; intro A9 c9 w9 hM9 hb9 hg9)
   have hAl := (Below.refl w5.heap.size w5).alloc (Nat.le_refl _) (.cells #[.int .i64 m, .int .i64 q, .bool x] 38)
   have hb59 : Below (w2.heap.size + 1) w5 w9 := (hAl.mono hz5).trans hb9
   have hjj : IntKind.i64.wrap ((j : Int) - 1) = ((j - 1 : Nat) : Int) := by
    have e : (j : Int) - 1 = ((j - 1 : Nat) : Int) := by omega
    rw [e]; exact IntWalk.i64_in _ (by omega)
   go_roundw
   case rel => exact ⟨j - 1, _, A9, nL + 1, c9, by omega, by omega, by rw [show ((j - 1 : Nat) : Int) = (j : Int) - 1 by omega], rfl, hM9, (hb59.block _ (by have := HX.out.2.1; omega)).trans kR5, (hb59.block _ (by omega)).trans kB5, (rBox_ok NB).okeep ob5 (fun z hz => hb59.block z (by have := (HFP.out z hz).2.1; omega)), hc5.low (by have := HX.out.1; omega) hb59, hB5.trans (hb59.mono (by have := HX.out.2.1; omega)), Nat.le_trans hz5 hb59.size⟩
   case measure => simp [intOf]; omega
  ·have rf0 := kR.frozen 0
   have rf1 := kR.frozen 1
   have rc0 := kR.bx 0 _ rfl
   have rc1 := kR.bx 1 _ rfl
   have rl := kR.lt
   go_wp2
   have bk3 := (kR.set 0 (.slice A1 n1 c1)).set 1 (.slice A2 n2 c2)
   have q0 := bk3.bx 0 _ rfl
   have q1 := bk3.bx 1 _ rfl
   refine bodyPost_ret (v := .tuple #[.agg #[.slice A1 n1 c1, .slice A2 n2 c2], .slice AL nL cL]) (by simp [results, Try.results8, go_sem, q0, q1]) rfl ?_
   have hx := HX.out
   have hs : ∀ z, z ≠ w.heap.size → ((wr.setCell ⟨w.heap.size, 0, none⟩ (.slice A1 n1 c1)).setCell ⟨w.heap.size, 1, none⟩ (.slice A2 n2 c2)).heap[z]? = wr.heap[z]? := fun z hz => (heap_setCell_other _ ⟨w.heap.size, 1, none⟩ z _ (fun e => hz e)).trans (heap_setCell_other _ ⟨w.heap.size, 0, none⟩ z _ (fun e => hz e))
   have hM2 : MS (w2.heap.size + 1) NB 38 (rObservation NB) ((wr.setCell ⟨w.heap.size, 0, none⟩ (.slice A1 n1 c1)).setCell ⟨w.heap.size, 1, none⟩ (.slice A2 n2 c2)) AL nL cL L := by
    obtain ⟨f, o, fr⟩ := hM
    exact ⟨f, o.okeep (rObservation_ok NB) (fun z hz => hs z (by have := fr.ge z hz; omega)), fr⟩
   refine ⟨⟨lo, hi⟩, L, A1, n1, c1, A2, n2, c2, AL, nL, cL, rfl, (rBox_ok NB).toRep ((rBox_ok NB).okeep ob (fun z hz => hs z ?_)), hM2.rs (rObservation_ok NB), hB.trans (((Below.refl w.heap.size wr).setCell (Nat.le_refl w.heap.size) _).setCell (Nat.le_refl w.heap.size) _)⟩
   exact (HFP.out z (by assumption)).2.2
end Go.Proofs.Ytkdajdafhjobbaa
