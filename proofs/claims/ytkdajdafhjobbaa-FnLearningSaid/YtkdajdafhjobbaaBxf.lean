/-
  Bxf
-/
import Derived.Test.YtkdajdafhjobbaaBxe
namespace Go.Proofs.Ytkdajdafhjobbaa
open Go.RowKit
set_option linter.unusedVariables false
set_option linter.unusedSimpArgs false
/-- a drawn box as a value -/
def DrawnBox (g : Nat) (w : World) (e : Ending) (w' : World) : Prop := ∃ (n : Nat) (lo hi : List Int) (A1 : Option Addr) (n1 c1 : Nat) (A2 : Option Addr) (n2 c2 : Nat) (fp : List Nat), n ≤ 16 ∧
 e = .returned (.agg #[.slice A1 n1 c1, .slice A2 n2 c2]) ∧ (rBox NB).own w' fp [.slice A1 n1 c1, .slice A2 n2 c2] ⟨lo, hi⟩ ∧ Fr w.heap.size fp ∧ BoxFit ⟨lo, hi⟩ n ∧ Cur w' g ∧ Chg [g] w w'
set_option maxRecDepth 100000 in
set_option maxHeartbeats 1600000 in
theorem l20Any_c (g : Nat) (w : World) (hc : Cur w g) : Calls Try.prog 54 #[.pointer (some ⟨g, 0, none⟩)] w (DrawnBox g w) := by
 have hAl := (Below.refl w.heap.size w).alloc (Nat.le_refl _) (.cells #[.slice none 0 0, .slice none 0 0] 26)
 have kR := Bk.new w [.slice none 0 0, .slice none 0 0] 26
 have cu1 := hc.alloc (.cells #[.slice none 0 0, .slice none 0 0] 26)
 have HGW := Lib.hid hc.lt
 obtain ⟨wa, hwa⟩ : ∃ wa, wa = w.alloc (.cells #[.slice none 0 0, .slice none 0 0] 26) := ⟨_, rfl⟩
 rw [← hwa] at hAl kR cu1
 have hs : wa.heap.size = w.heap.size + 1 := by rw [hwa]; simp
 go_enter Try.func54, Try.ntmps54
 go_wp2_with fail
 rw [← hwa, ← hs]
 clear hwa
 refine (l1PickInt_c g _ 6 6 [0, 2, 4, 8, 8, 16] _ (RS.lit wa [0, 2, 4, 8, 8, 16] _ (by simp) (by simp [I64])) cu1.ne (by omega) (cu1.alloc _)).mono ?_
 rintro e w1 ⟨x, rfl, hx, cu2, ch2⟩
 obtain ⟨n, hn, rfl⟩ : ∃ n : Nat, n ≤ 16 ∧ x = (n : Int) := by
  simp at hx
  exact ⟨x.toNat, by omega, by omega⟩
 clear hx
 have ch2 := ch2.al
 go_wp2_with fail
 refine (l20Box_c g n _ hn cu2).mono ?_
 rintro e w2 ⟨b, cs, fp, rfl, ob, fb, hf, cu3, ch3⟩
 obtain ⟨A1, n1, c1, A2, n2, c2, f1, f2, rfl, rfl, o1, o2⟩ := rBox_own.1 ob
 have ch := ch2.trans ch3
 have kRW := kR.chg ch (by have := HGW.out; simp; omega)
 have rf0 := kRW.frozen 0
 have rf1 := kRW.frozen 1
 have rc0 := kRW.bx 0 _ rfl
 have rc1 := kRW.bx 1 _ rfl
 have rl := kRW.lt
 go_wp2
 have bk3 := (kRW.set 0 (.slice A1 n1 c1)).set 1 (.slice A2 n2 c2)
 have q0 := bk3.bx 0 _ rfl
 have q1 := bk3.bx 1 _ rfl
 refine bodyPost_ret (v := .agg #[.slice A1 n1 c1, .slice A2 n2 c2]) (by simp [results, Try.results54, go_sem, q0, q1]) rfl ?_
 have b1 : Below w.heap.size w2 (w2.setCell ⟨w.heap.size, 0, none⟩ (.slice A1 n1 c1)) := (Below.refl w.heap.size w2).setCell (Nat.le_refl w.heap.size) _
 have b2 : Below w.heap.size w2 ((w2.setCell ⟨w.heap.size, 0, none⟩ (.slice A1 n1 c1)).setCell ⟨w.heap.size, 1, none⟩ (.slice A2 n2 c2)) := b1.setCell (Nat.le_refl w.heap.size) _
 have hz1 := ch2.size
 refine ⟨n, b.fLow, b.fHigh, A1, n1, c1, A2, n2, c2, f1 ++ f2, hn, rfl, (rBox_ok NB).okeep ob (fun z hz => ?_), fb.mono (by omega), hf, cu3.low HGW.out b2, ((Chg.ofBelow hAl _).trans ch).low b2⟩
 have hz2 := fb.ge z hz
 have hne : z ≠ w.heap.size := by omega
 exact (heap_setCell_other _ ⟨w.heap.size, 1, none⟩ z _ (fun e => hne e)).trans (heap_setCell_other _ ⟨w.heap.size, 0, none⟩ z _ (fun e => hne e))
end Go.Proofs.Ytkdajdafhjobbaa
