/-
  Bxg
-/
import Derived.Test.YtkdajdafhjobbaaKeep
import Derived.Test.YtkdajdafhjobbaaBxf
namespace Go.Proofs.Ytkdajdafhjobbaa
open Go.RowKit
set_option linter.unusedVariables false
set_option linter.unusedSimpArgs false
theorem rs_cell {w : World} {b o n c k : Nat} {l : List Int} {a : Int} (h : RS NB rInt w (some ⟨b, o, none⟩) n c l) (hk : k < n) (ha : l[k]? = some a) : w.cell? ⟨b, o + k, none⟩ = some (.int .i64 a) := by
 obtain ⟨b', o', x, e, hc, _, hx⟩ := h.ati hk
 injection e with e; injection e with e1 e2; subst e1; subst e2
 have := hx.out; rw [ha] at this; injection this with this; subst this
 exact hc
theorem bset3 {w W : World} {g : Nat} (hg : w.heap.size ≤ g) (u v x : Value) : Below w.heap.size W (((W.setCell ⟨g, 0, none⟩ u).setCell ⟨g, 1, none⟩ v).setCell ⟨g, 2, none⟩ x) := by
 have b1 : Below w.heap.size W (W.setCell ⟨g, 0, none⟩ u) := (Below.refl w.heap.size W).setCell hg u
 have b2 : Below w.heap.size W ((W.setCell ⟨g, 0, none⟩ u).setCell ⟨g, 1, none⟩ v) := b1.setCell hg v
 exact b2.setCell hg x
/-- the walk's world in l29Obs: the box's value, its cell, the observation's cell -/
structure Obl (w0 : World) (g gB gX gR : Nat) (A1 : Option Addr) (n1 c1 : Nat) (A2 : Option Addr) (n2 c2 : Nat) (fp : List Nat) (lo hi : List Int) (m k : Int) (x : Bool) (W : World) : Prop where
 own : (rBox NB).own W fp [.slice A1 n1 c1, .slice A2 n2 c2] ⟨lo, hi⟩
 kB : Bk W gB 26 [.slice A1 n1 c1, .slice A2 n2 c2]
 kX : Bk W gX 38 [.int .i64 m, .int .i64 k, .bool x]
 kR : Bk W gR 38 [.int .i64 0, .int .i64 0, .bool false]
 cur : Cur W g
 chg : Chg [g] w0 W
section
variable {w0 W W' : World} {g gB gX gR : Nat} {A1 A2 : Option Addr} {n1 c1 n2 c2 : Nat} {fp : List Nat} {lo hi : List Int} {m k : Int} {x : Bool}
theorem Obl.step (h : Obl w0 g gB gX gR A1 n1 c1 A2 n2 c2 fp lo hi m k x W) (hf : g ∉ fp) (h1 : g < gB) (h2 : g < gX) (h3 : g < gR) (hc : Chg [g] W W') (cu : Cur W' g) : Obl w0 g gB gX gR A1 n1 c1 A2 n2 c2 fp lo hi m k x W' :=
 ⟨(rBox_ok NB).ownC h.own hc (fun z hz => by simp; exact fun e => hf (e ▸ hz)), h.kB.chg hc (by simp; omega), h.kX.chg hc (by simp; omega), h.kR.chg hc (by simp; omega), cu, h.chg.trans hc⟩
theorem Obl.below (h : Obl w0 g gB gX gR A1 n1 c1 A2 n2 c2 fp lo hi m k x W) (hb : Below W.heap.size W W') : Obl w0 g gB gX gR A1 n1 c1 A2 n2 c2 fp lo hi m k x W' :=
 ⟨(rBox_ok NB).ownB h.own hb, h.kB.below hb, h.kX.below hb, h.kR.below hb, h.cur.below hb, h.chg.trans (Chg.ofBelow hb _)⟩
theorem Obl.rsL (h : Obl w0 g gB gX gR A1 n1 c1 A2 n2 c2 fp lo hi m k x W) : RS NB rInt W A1 n1 c1 lo := by
 obtain ⟨_, _, _, _, _, _, f1, f2, e, _, o1, o2⟩ := rBox_own.1 h.own
 injection e with e1 e2; injection e1 with e1 e3 e4; subst e1; subst e3; subst e4
 exact o1.rs rInt_ok
theorem Obl.rsH (h : Obl w0 g gB gX gR A1 n1 c1 A2 n2 c2 fp lo hi m k x W) : RS NB rInt W A2 n2 c2 hi := by
 obtain ⟨_, _, _, _, _, _, f1, f2, e, _, o1, o2⟩ := rBox_own.1 h.own
 injection e with e1 e2; injection e2 with e2 e5; injection e2 with e2 e3 e4; subst e2; subst e3; subst e4
 exact o2.rs rInt_ok
/-- a store to the observation's cell -/
theorem Obl.put (h : Obl w0 g gB gX gR A1 n1 c1 A2 n2 c2 fp lo hi m k x W) (hf : gX ∉ fp) (h0 : w0.heap.size ≤ gX) (hg : g < w0.heap.size) (h1 : gB ≠ gX) (h2 : gR ≠ gX) {m' k' : Int} {x' : Bool} (j : Nat) (v : Value) (hv : ([.int .i64 m, .int .i64 k, .bool x] : List Value).set j v = [.int .i64 m', .int .i64 k', .bool x']) :
  Obl w0 g gB gX gR A1 n1 c1 A2 n2 c2 fp lo hi m' k' x' (W.setCell ⟨gX, j, none⟩ v) := by
 have hs : ∀ z, z ≠ gX → (W.setCell ⟨gX, j, none⟩ v).heap[z]? = W.heap[z]? := fun z hz => heap_setCell_other _ _ _ _ (fun e => hz e)
 have b2 : Below w0.heap.size W (W.setCell ⟨gX, j, none⟩ v) := (Below.refl _ _).setCell h0 _
 exact ⟨(rBox_ok NB).okeep h.own (fun z hz => hs z (fun e => hf (e ▸ hz))), (hs gB h1).trans h.kB, hv ▸ h.kX.set j v, (hs gR h2).trans h.kR, h.cur.low hg b2, h.chg.low b2⟩
end
set_option maxRecDepth 100000 in
set_option maxHeartbeats 3200000 in
theorem l29Obs_c (g n : Nat) (A1 A2 : Option Addr) (n1 c1 n2 c2 : Nat) (fp : List Nat) (lo hi : List Int) (w : World) (hn : n ≤ 16) (ob : (rBox NB).own w fp [.slice A1 n1 c1, .slice A2 n2 c2] ⟨lo, hi⟩) (hf : BoxFit ⟨lo, hi⟩ n) (hg : g ∉ fp) (hc : Cur w g) :
  Calls Try.prog 56 #[.pointer (some ⟨g, 0, none⟩), .agg #[.slice A1 n1 c1, .slice A2 n2 c2]] w fun e w' => ∃ (m k : Int) (x : Bool), e = .returned (.agg #[.int .i64 m, .int .i64 k, .bool x]) ∧ I64 m ∧ I64 k ∧ Cur w' g ∧ Chg [g] w w' := by
 obtain ⟨hf1, hf2, hf3, hf4⟩ := hf
 have hgw := hc.lt
 obtain ⟨wa, hwa⟩ : ∃ wa, wa = (w.alloc (.cells #[.slice A1 n1 c1, .slice A2 n2 c2] 26)).alloc (.cells #[.int .i64 0, .int .i64 0, .bool false] 38) := ⟨_, rfl⟩
 have hs : wa.heap.size = w.heap.size + 1 + 1 := by rw [hwa]; simp
 have hba : Below w.heap.size w wa := by rw [hwa]; exact ((Below.refl w.heap.size w).alloc (Nat.le_refl _) _).alloc (by simp) _
 have oba := (rBox_ok NB).ownB ob hba
 have cua := hc.below hba
 have kB : Bk wa w.heap.size 26 [.slice A1 n1 c1, .slice A2 n2 c2] := by rw [hwa]; exact (Bk.new w _ _).below ((Below.refl _ _).alloc (Nat.le_refl _) _)
 have kR : Bk wa (w.heap.size + 1) 38 [.int .i64 0, .int .i64 0, .bool false] := by
  rw [hwa]; have := Bk.new (w.alloc (.cells #[.slice A1 n1 c1, .slice A2 n2 c2] 26)) [.int .i64 0, .int .i64 0, .bool false] 38; simpa using this
 have hfl : ∀ z ∈ fp, z < w.heap.size := fun z hz => (rBox_ok NB).lt ob z hz
 have hN1 : n1 = n := by
  obtain ⟨_, _, _, _, _, _, f1, f2, e, _, o1, o2⟩ := rBox_own.1 ob
  injection e with e1 e2; injection e1 with e1 e3 e4; subst e3
  exact o1.len.symm.trans hf1
 have HF1 := Lib.hid hf1; clear hf1
 have HF2 := Lib.hid hf2; clear hf2
 have HF3 := Lib.hid hf3; clear hf3
 have HF4 := Lib.hid hf4; clear hf4
 subst hN1
 have HFL := Lib.hid hfl; clear hfl
 have HBA := Lib.hid hba; clear hba
 have k0 := kB.bx 0 _ rfl
 obtain ⟨N, hN⟩ : ∃ N : Int, (if (1 : Int) < (n1 : Int) then (n1 : Int) else 1) = N := ⟨_, rfl⟩
 have hN1 : 1 ≤ N ∧ N ≤ 16 ∧ (0 < n1 → N ≤ n1) := by rw [← hN]; split <;> omega
 go_enter Try.func56, Try.ntmps56
 go_wp2_with fail
 rw [← hwa]
 refine (l1Below_c g N _ (by omega) cua).mono ?_
 rintro e w1 ⟨m, rfl, ⟨m0, m1, m2⟩, cu1, ch1⟩
 have m3 := m2 (by omega)
 clear hN m2 k0 hwa
 have hgs := Lib.hid hgw
 have ob1 := (rBox_ok NB).ownC oba ch1 (fun z hz => by simp; exact fun e => hg (e ▸ hz))
 have kB1 := kB.chg ch1 (by simp; omega)
 have kR1 := kR.chg ch1 (by simp; omega)
 go_wp2_with fail
 refine (l1Once_c g 2 _ (by omega) cu1).mono ?_
 rintro e w2 ⟨x, rfl, cu2, ch2⟩
 have ob2 := (rBox_ok NB).ownC ob1 ch2 (fun z hz => by simp; exact fun e => hg (e ▸ hz))
 have kB2 := kB1.chg ch2 (by simp; omega)
 have kR2 := kR1.chg ch2 (by simp; omega)
 have hAl := (Below.refl w2.heap.size w2).alloc (Nat.le_refl _) (.cells #[.int .i64 m, .int .i64 0, .bool x] 38)
 have kX := Bk.new w2 [.int .i64 m, .int .i64 0, .bool x] 38
 have hsz := Nat.le_trans ch1.size ch2.size
 obtain ⟨wb, hwb⟩ : ∃ wb, wb = w2.alloc (.cells #[.int .i64 m, .int .i64 0, .bool x] 38) := ⟨_, rfl⟩
 have J : Obl wa g w.heap.size w2.heap.size (w.heap.size + 1) A1 n1 c1 A2 n2 c2 fp lo hi m 0 x wb := by
  rw [hwb]; exact ⟨(rBox_ok NB).ownB ob2 hAl, kB2.below hAl, kX, kR2.below hAl, cu2.below hAl, (ch1.trans ch2).trans (Chg.ofBelow hAl _)⟩
 have HGF := Lib.hid hg
 have HGW := Lib.hid hgw
 have HG1 := Lib.hid hgw
 have HG2 : Hid (g < w2.heap.size) := by show _ < _; omega
 have HG3 : Hid (g < w.heap.size + 1) := by show _ < _; omega
 have HXF : Hid (w2.heap.size ∉ fp) := by show _ ∉ _; exact fun h => by have := HFL.out _ h; omega
 have HX0 : Hid (wa.heap.size ≤ w2.heap.size) := Lib.hid hsz
 have HGA : Hid (g < wa.heap.size) := by show _ < _; omega
 have HX1 : Hid (w.heap.size ≠ w2.heap.size) := by show _ ≠ _; omega
 have HX2 : Hid (w.heap.size + 1 ≠ w2.heap.size) := by show _ ≠ _; omega
 have hm : I64 m := by unfold I64; omega
 clear ob1 ob2 kB1 kB2 kR1 kR2 hAl kX hsz cu1 cu2 ch1 ch2 oba cua kB kR hg hs
 go_wp2_with fail
 rw [← hwb]
 clear hwb
 refine (l1Below_c g 6 _ (by omega) J.cur).mono ?_
 rintro e w3 ⟨k, rfl, ⟨k0, k1, _⟩, cu3, ch3⟩
 have J3 := J.step HGF.out HG1.out HG2.out HG3.out ch3 cu3
 have hk : I64 k := by unfold I64; omega
 clear J cu3 ch3
 have f3 := J3.kX.frozen 1
 have x3 := J3.kX.bx 1 _ rfl
 have J4 := J3.put HXF.out HX0.out HGA.out HX1.out HX2.out 1 (.int .i64 k) rfl
 go_upto_region 3 with fail
 obtain ⟨w4, hw4⟩ : ∃ W, W = w3.setCell ⟨w2.heap.size, 1, none⟩ (.int .i64 k) := ⟨_, rfl⟩
 rw [← hw4] at J4 ⊢
 clear hw4 f3 x3 J3
 have kb0 := J4.kB.bx 0 _ rfl
 have kb1 := J4.kB.bx 1 _ rfl
 by_cases hp : (0 : Int) < n1
 ·by_cases heq : n2 = n1
  ·subst heq
   go_wp2_with fail
   refine (l1Once_c g 3 _ (by omega) J4.cur).mono ?_
   rintro e w5 ⟨b, rfl, cu, ch⟩
   have J5 := J4.step HGF.out HG1.out HG2.out HG3.out ch cu
   clear cu ch J4 kb0 kb1
   cases b
   ·obtain ⟨mm, hmm⟩ : ∃ mm : Nat, m = (mm : Int) := ⟨m.toNat, by omega⟩
    subst hmm
    have hlt : mm < n2 := by have := hN1.2.2 (by omega); omega
    obtain ⟨b1, o1, a, e1, hc1, hI1, ha⟩ := J5.rsL.ati hlt
    obtain ⟨b2, o2, h, e2, hc2, hI2, hh⟩ := J5.rsH.ati hlt
    subst e1
    subst e2
    have a8 : -1 ≤ a ∧ a ≤ 8 := HF3.out a (mem_of_at ha.out)
    have h8 : -1 ≤ h ∧ h ≤ 8 := HF4.out h (mem_of_at hh.out)
    clear hc1 hc2
    have HSS := Lib.hid (fun (w' : World) (hh2 : ∃ k, Obl wa g w.heap.size w2.heap.size (w.heap.size + 1) (some ⟨b1, o1, none⟩) n2 c1 (some ⟨b2, o2, none⟩) n2 c2 fp lo hi mm k x w') => (hh2.elim fun k J => ⟨J.kB.bx 0 _ rfl, J.kB.bx 1 _ rfl, J.kX.bx 0 _ rfl, rs_cell J.rsL hlt ha.out, rs_cell J.rsH hlt hh.out⟩ : w'.cell? ⟨w.heap.size, 0, none⟩ = some (.slice (some ⟨b1, o1, none⟩) n2 c1) ∧ w'.cell? ⟨w.heap.size, 1, none⟩ = some (.slice (some ⟨b2, o2, none⟩) n2 c2) ∧ w'.cell? ⟨w2.heap.size, 0, none⟩ = some (.int .i64 mm) ∧ w'.cell? ⟨b1, o1 + mm, none⟩ = some (.int .i64 a) ∧ w'.cell? ⟨b2, o2 + mm, none⟩ = some (.int .i64 h)))
    have J5d := J5.below (Below.refl w5.heap.size w5).drew
    have e1 : IntKind.i64.wrap (h - a) = h - a := IntWalk.i64_in _ (by omega)
    have e2 : IntKind.i64.wrap (h - a + 1) = h - a + 1 := IntWalk.i64_in _ (by omega)
    obtain ⟨M, hM⟩ : ∃ M : Int, (if (1 : Int) < h - a + 1 then h - a + 1 else 1) = M := ⟨_, rfl⟩
    have hM1 : 1 ≤ M ∧ M ≤ 10 := by rw [← hM]; split <;> omega
    go_wp2_with fail
    refine wp_region_held_drew (S := fun w' => w'.cell? ⟨w.heap.size, 0, none⟩ = some (.slice (some ⟨b1, o1, none⟩) n2 c1) ∧ w'.cell? ⟨w.heap.size, 1, none⟩ = some (.slice (some ⟨b2, o2, none⟩) n2 c2) ∧ w'.cell? ⟨w2.heap.size, 0, none⟩ = some (.int .i64 mm) ∧ w'.cell? ⟨b1, o1 + mm, none⟩ = some (.int .i64 a) ∧ w'.cell? ⟨b2, o2 + mm, none⟩ = some (.int .i64 h)) (by kernel_rfl) ?_ (fun hHeld => ?_)
    ·exact HSS.out _ ⟨_, J5d⟩
    refine tk 0 (some 36) rfl (by kernel_rfl) (by kernel_rfl) (by kernel_rfl) (fun _ _ _ h => h) (by rfl) hHeld (fun w h => by (try dsimp only at h); ((go_simp) <;> with_reducible rfl)) ?_
    try simp only [putS]
    refine tk 1 (some 37) rfl (by kernel_rfl) (by kernel_rfl) (by kernel_rfl) (fun _ _ _ h => h) (by rfl) hHeld (fun w h => by (try dsimp only at h); ((go_simp) <;> with_reducible rfl)) ?_
    try simp only [putS]
    refine tk 2 (some 38) rfl (by kernel_rfl) (by kernel_rfl) (by kernel_rfl) (fun _ _ _ h => h) (by rfl) hHeld (fun w h => by (try dsimp only at h); ((go_simp) <;> with_reducible rfl)) ?_
    try simp only [putS]
    refine tk 3 (some 39) rfl (by kernel_rfl) (by kernel_rfl) (by kernel_rfl) (fun _ _ _ h => h) (by rfl) hHeld (fun w h => by (try dsimp only at h); ((go_simp) <;> with_reducible rfl)) ?_
    try simp only [putS]
    refine tk 4 (some 40) rfl (by kernel_rfl) (by kernel_rfl) (by kernel_rfl) (fun _ _ _ h => h) (by rfl) hHeld (fun w h => by (try dsimp only at h); ((go_simp) <;> with_reducible rfl)) ?_
    try simp only [putS]
    refine tk 5 (some 41) rfl (by kernel_rfl) (by kernel_rfl) (by kernel_rfl) (fun _ _ _ h => h) (by rfl) hHeld (fun w h => by (try dsimp only at h); ((go_simp) <;> with_reducible rfl)) ?_
    try simp only [putS]
    refine tk 6 (some 42) rfl (by kernel_rfl) (by kernel_rfl) (by kernel_rfl) (fun _ _ _ h => h) (by rfl) hHeld (fun w h => by (try dsimp only at h); ((go_simp) <;> with_reducible rfl)) ?_
    try simp only [putS]
    refine tk 7 (some 43) rfl (by kernel_rfl) (by kernel_rfl) (by kernel_rfl) (fun _ _ _ h => h) (by rfl) hHeld (fun w h => by (try dsimp only at h); ((go_simp) <;> with_reducible rfl)) ?_
    try simp only [putS]
    refine tk 8 (some 44) rfl (by kernel_rfl) (by kernel_rfl) (by kernel_rfl) (fun _ _ _ h => h) (by rfl) hHeld (fun w h => by (try dsimp only at h); ((go_simp) <;> with_reducible rfl)) ?_
    try simp only [putS]
    refine tk 9 (some 45) rfl (by kernel_rfl) (by kernel_rfl) (by kernel_rfl) (fun _ _ _ h => h) (by rfl) hHeld (fun w h => by (try dsimp only at h); ((go_simp) <;> with_reducible rfl)) ?_
    try simp only [putS]
    refine tk 10 (some 46) rfl (by kernel_rfl) (by kernel_rfl) (by kernel_rfl) (fun _ _ _ h => h) (by rfl) hHeld (fun w h => by (try dsimp only at h); ((go_simp) <;> with_reducible rfl)) ?_
    try simp only [putS]
    refine tk 11 (some 47) rfl (by kernel_rfl) (by kernel_rfl) (by kernel_rfl) (fun _ _ _ h => h) (by rfl) hHeld (fun w h => by (try dsimp only at h); ((go_simp) <;> with_reducible rfl)) ?_
    try simp only [putS]
    refine tk 12 (some 48) rfl (by kernel_rfl) (by kernel_rfl) (by kernel_rfl) (fun _ _ _ h => h) (by rfl) hHeld (fun w h => by (try dsimp only at h); ((go_simp) <;> with_reducible rfl)) ?_
    try simp only [putS]
    refine tk 13 (some 49) rfl (by kernel_rfl) (by kernel_rfl) (by kernel_rfl) (fun _ _ _ h => h) (by rfl) hHeld (fun w h => by (try dsimp only at h); ((go_simp) <;> with_reducible rfl)) ?_
    try simp only [putS]
    refine tk 14 (some 50) rfl (by kernel_rfl) (by kernel_rfl) (by kernel_rfl) (fun _ _ _ h => h) (by rfl) hHeld (fun w h => by (try dsimp only at h); ((go_simp) <;> with_reducible rfl)) ?_
    try simp only [putS]
    refine tk 15 (some 51) rfl (by kernel_rfl) (by kernel_rfl) (by kernel_rfl) (fun _ _ _ h => h) (by rfl) hHeld (fun w h => by (try dsimp only at h); ((go_simp) <;> with_reducible rfl)) ?_
    try simp only [putS]
    refine tk 16 (some 52) rfl (by kernel_rfl) (by kernel_rfl) (by kernel_rfl) (fun _ _ _ h => h) (by rfl) hHeld (fun w h => by (try dsimp only at h); ((go_simp) <;> with_reducible rfl)) ?_
    try simp only [putS]
    refine tk 17 (some 53) rfl (by kernel_rfl) (by kernel_rfl) (by kernel_rfl) (fun _ _ _ h => h) (by rfl) hHeld (fun w h => by (try dsimp only at h); ((go_simp) <;> with_reducible rfl)) ?_
    try simp only [putS]
    refine tk 18 (some 54) rfl (by kernel_rfl) (by kernel_rfl) (by kernel_rfl) (fun _ _ _ h => h) (by rfl) hHeld (fun w h => by (try dsimp only at h); ((go_simp) <;> with_reducible rfl)) ?_
    try simp only [putS]
    refine tk 19 (some 55) rfl (by kernel_rfl) (by kernel_rfl) (by kernel_rfl) (fun _ _ _ h => h) (by rfl) hHeld (fun w h => by (try dsimp only at h); ((go_simp) <;> with_reducible rfl)) ?_
    try simp only [putS]
    refine tk 20 (some 56) rfl (by kernel_rfl) (by kernel_rfl) (by kernel_rfl) (fun _ _ _ h => h) (by rfl) hHeld (fun w h => by (try dsimp only at h); ((go_simp) <;> with_reducible rfl)) ?_
    try simp only [putS]
    refine tk 21 (some 57) rfl (by kernel_rfl) (by kernel_rfl) (by kernel_rfl) (fun _ _ _ h => h) (by rfl) hHeld (fun w h => by (try dsimp only at h); ((go_simp) <;> with_reducible rfl)) ?_
    try simp only [putS]
    refine wpAnyH_ready (rs := [22]) (by kernel_rfl) (by simp) ?_
    refine AllReadyH.cons (o := ⟨some 58, _, _, _, _, _⟩) rfl (fun K hK => ?_) AllReadyH.nil
    clear hHeld
    go_simp
    refine (l1Below_c g M _ (by omega) J5d.cur).mono ?_
    rintro e w6 ⟨y, rfl, ⟨y0, _, y1⟩, cu, ch⟩
    have J6 := J5d.step HGF.out HG1.out HG2.out HG3.out ch cu
    have y2 := y1 (by omega)
    clear y1 cu ch
    go_wp2_with fail
    refine hK.out _ _ (HSS.out _ ⟨_, J6⟩) (fun hHeld => ?_)
    clear hK K
    try simp only [putS]
    have e3 : IntKind.i64.wrap (a + y) = a + y := IntWalk.i64_in _ (by omega)
    refine tk 23 (some 59) rfl (by kernel_rfl) (by kernel_rfl) (by kernel_rfl) (fun _ _ _ h => h) (by rfl) hHeld (fun w h => by (try dsimp only at h); ((go_simp) <;> with_reducible rfl)) ?_
    try simp only [putS]
    refine tk 24 (some 60) rfl (by kernel_rfl) (by kernel_rfl) (by kernel_rfl) (fun _ _ _ h => h) (by rfl) hHeld (fun w h => by (try dsimp only at h); ((go_simp) <;> with_reducible rfl)) ?_
    try simp only [putS]
    have f6 := J6.kX.frozen 1
    have x6 := J6.kX.bx 1 _ rfl
    have J7 := J6.put HXF.out HX0.out HGA.out HX1.out HX2.out 1 (.int .i64 (a + y)) rfl
    refine wpAnyH_ready (rs := [25]) (by kernel_rfl) (by simp) ?_
    refine AllReadyH.cons (o := ⟨none, _, _, _, _, _⟩) rfl (fun K hK => ?_) AllReadyH.nil
    clear hHeld
    go_simp
    refine hK.out _ _ (HSS.out _ ⟨_, J7⟩) (fun hHeld => ?_)
    clear hK K
    try simp only [putS]
    refine wpAnyH_done (by kernel_rfl) ?_ _
    clear hHeld
    clear HSS f6 x6 J6 J5d J5 e1 e2 e3 hM
    have hay : I64 (a + y) := by unfold I64; omega
    go_upto_region 5 with fail
    obtain ⟨w7, hw7⟩ : ∃ W, W = w6.setCell ⟨w2.heap.size, 1, none⟩ (.int .i64 (a + y)) := ⟨_, rfl⟩
    rw [← hw7] at J7 ⊢
    clear hw7
    go_wp2_with fail
    refine (l1Once_c g 16 _ (by omega) J7.cur).mono ?_
    rintro e wpah ⟨b, rfl, cu, ch⟩
    have Jpah := J7.step HGF.out HG1.out HG2.out HG3.out ch cu
    clear cu ch J7
    cases b
    ·go_wp2_with fail
     refine (l1Once_c g 16 _ (by omega) Jpah.cur).mono ?_
     rintro e wpbh1 ⟨b, rfl, cu, ch⟩
     have Jpbh1 := Jpah.step HGF.out HG1.out HG2.out HG3.out ch cu
     clear cu ch Jpah
     cases b
     ·have x0 := Jpbh1.kX.bx 0 _ rfl
      have x1 := Jpbh1.kX.bx 1 _ rfl
      have x2 := Jpbh1.kX.bx 2 _ rfl
      have r0 := Jpbh1.kR.bx 0 _ rfl
      have r1 := Jpbh1.kR.bx 1 _ rfl
      have r2 := Jpbh1.kR.bx 2 _ rfl
      have f0 := Jpbh1.kR.frozen 0
      have f1 := Jpbh1.kR.frozen 1
      have f2 := Jpbh1.kR.frozen 2
      have rl := Jpbh1.kR.lt
      go_wp2
      have bk3 := ((Jpbh1.kR.set 0 (.int .i64 (mm : Int))).set 1 (.int .i64 (a + y))).set 2 (.bool x)
      have q0 := bk3.bx 0 _ rfl
      have q1 := bk3.bx 1 _ rfl
      have q2 := bk3.bx 2 _ rfl
      refine bodyPost_ret (v := .agg #[.int .i64 (mm : Int), .int .i64 (a + y), .bool x]) (by simp [results, Try.results56, go_sem, q0, q1, q2]) rfl ?_
      have b3 := bset3 (w := w) (W := wpbh1) (g := w.heap.size + 1) (by omega) (.int .i64 (mm : Int)) (.int .i64 (a + y)) (.bool x)
      exact ⟨(mm : Int), (a + y), x, rfl, hm, hay, Jpbh1.cur.low HGW.out b3, ((Chg.ofBelow HBA.out _).trans Jpbh1.chg).low b3⟩
     ·go_wp2_with fail
      refine (l1PickInt_c g _ 3 3 [-1, 8, 7] _ (RS.lit wpbh1 [-1, 8, 7] _ (by simp) (by simp [I64])) Jpbh1.cur.ne (by omega) (Jpbh1.cur.alloc _)).mono ?_
      rintro e wqbh1 ⟨zbh1, rfl, hz, cu, ch⟩
      have hzbh1 : I64 zbh1 := by unfold I64; simp at hz; omega
      have Jqbh1 := Jpbh1.step HGF.out HG1.out HG2.out HG3.out ch.al cu
      clear hz cu ch Jpbh1
      have fq := Jqbh1.kX.frozen 1
      have xq := Jqbh1.kX.bx 1 _ rfl
      have Jrbh1 := Jqbh1.put HXF.out HX0.out HGA.out HX1.out HX2.out 1 (.int .i64 zbh1) rfl
      go_upto_region 9 with fail
      clear fq xq Jqbh1
      obtain ⟨wrbh1, hwrbh1⟩ : ∃ W, W = wqbh1.setCell ⟨w2.heap.size, 1, none⟩ (.int .i64 zbh1) := ⟨_, rfl⟩
      rw [← hwrbh1] at Jrbh1 ⊢
      clear hwrbh1
      have x0 := Jrbh1.kX.bx 0 _ rfl
      have x1 := Jrbh1.kX.bx 1 _ rfl
      have x2 := Jrbh1.kX.bx 2 _ rfl
      have r0 := Jrbh1.kR.bx 0 _ rfl
      have r1 := Jrbh1.kR.bx 1 _ rfl
      have r2 := Jrbh1.kR.bx 2 _ rfl
      have f0 := Jrbh1.kR.frozen 0
      have f1 := Jrbh1.kR.frozen 1
      have f2 := Jrbh1.kR.frozen 2
      have rl := Jrbh1.kR.lt
      go_wp2
      have bk3 := ((Jrbh1.kR.set 0 (.int .i64 (mm : Int))).set 1 (.int .i64 zbh1)).set 2 (.bool x)
      have q0 := bk3.bx 0 _ rfl
      have q1 := bk3.bx 1 _ rfl
      have q2 := bk3.bx 2 _ rfl
      refine bodyPost_ret (v := .agg #[.int .i64 (mm : Int), .int .i64 zbh1, .bool x]) (by simp [results, Try.results56, go_sem, q0, q1, q2]) rfl ?_
      have b3 := bset3 (w := w) (W := wrbh1) (g := w.heap.size + 1) (by omega) (.int .i64 (mm : Int)) (.int .i64 zbh1) (.bool x)
      exact ⟨(mm : Int), zbh1, x, rfl, hm, hzbh1, Jrbh1.cur.low HGW.out b3, ((Chg.ofBelow HBA.out _).trans Jrbh1.chg).low b3⟩
    ·go_wp2_with fail
     refine (l1PickInt_c g _ 3 3 [-1, 16, 9223372036854775807] _ (RS.lit wpah [-1, 16, 9223372036854775807] _ (by simp) (by simp [I64])) Jpah.cur.ne (by omega) (Jpah.cur.alloc _)).mono ?_
     rintro e wqah ⟨zah, rfl, hz, cu, ch⟩
     have hzah : I64 zah := by unfold I64; simp at hz; omega
     have Jqah := Jpah.step HGF.out HG1.out HG2.out HG3.out ch.al cu
     clear hz cu ch Jpah
     have fq := Jqah.kX.frozen 0
     have xq := Jqah.kX.bx 0 _ rfl
     have Jrah := Jqah.put HXF.out HX0.out HGA.out HX1.out HX2.out 0 (.int .i64 zah) rfl
     go_upto_region 7 with fail
     clear fq xq Jqah
     obtain ⟨wrah, hwrah⟩ : ∃ W, W = wqah.setCell ⟨w2.heap.size, 0, none⟩ (.int .i64 zah) := ⟨_, rfl⟩
     rw [← hwrah] at Jrah ⊢
     clear hwrah
     go_wp2_with fail
     refine (l1Once_c g 16 _ (by omega) Jrah.cur).mono ?_
     rintro e wpbh2 ⟨b, rfl, cu, ch⟩
     have Jpbh2 := Jrah.step HGF.out HG1.out HG2.out HG3.out ch cu
     clear cu ch Jrah
     cases b
     ·have x0 := Jpbh2.kX.bx 0 _ rfl
      have x1 := Jpbh2.kX.bx 1 _ rfl
      have x2 := Jpbh2.kX.bx 2 _ rfl
      have r0 := Jpbh2.kR.bx 0 _ rfl
      have r1 := Jpbh2.kR.bx 1 _ rfl
      have r2 := Jpbh2.kR.bx 2 _ rfl
      have f0 := Jpbh2.kR.frozen 0
      have f1 := Jpbh2.kR.frozen 1
      have f2 := Jpbh2.kR.frozen 2
      have rl := Jpbh2.kR.lt
      go_wp2
      have bk3 := ((Jpbh2.kR.set 0 (.int .i64 zah)).set 1 (.int .i64 (a + y))).set 2 (.bool x)
      have q0 := bk3.bx 0 _ rfl
      have q1 := bk3.bx 1 _ rfl
      have q2 := bk3.bx 2 _ rfl
      refine bodyPost_ret (v := .agg #[.int .i64 zah, .int .i64 (a + y), .bool x]) (by simp [results, Try.results56, go_sem, q0, q1, q2]) rfl ?_
      have b3 := bset3 (w := w) (W := wpbh2) (g := w.heap.size + 1) (by omega) (.int .i64 zah) (.int .i64 (a + y)) (.bool x)
      exact ⟨zah, (a + y), x, rfl, hzah, hay, Jpbh2.cur.low HGW.out b3, ((Chg.ofBelow HBA.out _).trans Jpbh2.chg).low b3⟩
     ·go_wp2_with fail
      refine (l1PickInt_c g _ 3 3 [-1, 8, 7] _ (RS.lit wpbh2 [-1, 8, 7] _ (by simp) (by simp [I64])) Jpbh2.cur.ne (by omega) (Jpbh2.cur.alloc _)).mono ?_
      rintro e wqbh2 ⟨zbh2, rfl, hz, cu, ch⟩
      have hzbh2 : I64 zbh2 := by unfold I64; simp at hz; omega
      have Jqbh2 := Jpbh2.step HGF.out HG1.out HG2.out HG3.out ch.al cu
      clear hz cu ch Jpbh2
      have fq := Jqbh2.kX.frozen 1
      have xq := Jqbh2.kX.bx 1 _ rfl
      have Jrbh2 := Jqbh2.put HXF.out HX0.out HGA.out HX1.out HX2.out 1 (.int .i64 zbh2) rfl
      go_upto_region 9 with fail
      clear fq xq Jqbh2
      obtain ⟨wrbh2, hwrbh2⟩ : ∃ W, W = wqbh2.setCell ⟨w2.heap.size, 1, none⟩ (.int .i64 zbh2) := ⟨_, rfl⟩
      rw [← hwrbh2] at Jrbh2 ⊢
      clear hwrbh2
      have x0 := Jrbh2.kX.bx 0 _ rfl
      have x1 := Jrbh2.kX.bx 1 _ rfl
      have x2 := Jrbh2.kX.bx 2 _ rfl
      have r0 := Jrbh2.kR.bx 0 _ rfl
      have r1 := Jrbh2.kR.bx 1 _ rfl
      have r2 := Jrbh2.kR.bx 2 _ rfl
      have f0 := Jrbh2.kR.frozen 0
      have f1 := Jrbh2.kR.frozen 1
      have f2 := Jrbh2.kR.frozen 2
      have rl := Jrbh2.kR.lt
      go_wp2
      have bk3 := ((Jrbh2.kR.set 0 (.int .i64 zah)).set 1 (.int .i64 zbh2)).set 2 (.bool x)
      have q0 := bk3.bx 0 _ rfl
      have q1 := bk3.bx 1 _ rfl
      have q2 := bk3.bx 2 _ rfl
      refine bodyPost_ret (v := .agg #[.int .i64 zah, .int .i64 zbh2, .bool x]) (by simp [results, Try.results56, go_sem, q0, q1, q2]) rfl ?_
      have b3 := bset3 (w := w) (W := wrbh2) (g := w.heap.size + 1) (by omega) (.int .i64 zah) (.int .i64 zbh2) (.bool x)
      exact ⟨zah, zbh2, x, rfl, hzah, hzbh2, Jrbh2.cur.low HGW.out b3, ((Chg.ofBelow HBA.out _).trans Jrbh2.chg).low b3⟩
   ·go_wp2_with fail
    refine (l1Once_c g 16 _ (by omega) J5.cur).mono ?_
    rintro e wpai ⟨b, rfl, cu, ch⟩
    have Jpai := J5.step HGF.out HG1.out HG2.out HG3.out ch cu
    clear cu ch J5
    cases b
    ·go_wp2_with fail
     refine (l1Once_c g 16 _ (by omega) Jpai.cur).mono ?_
     rintro e wpbi1 ⟨b, rfl, cu, ch⟩
     have Jpbi1 := Jpai.step HGF.out HG1.out HG2.out HG3.out ch cu
     clear cu ch Jpai
     cases b
     ·have x0 := Jpbi1.kX.bx 0 _ rfl
      have x1 := Jpbi1.kX.bx 1 _ rfl
      have x2 := Jpbi1.kX.bx 2 _ rfl
      have r0 := Jpbi1.kR.bx 0 _ rfl
      have r1 := Jpbi1.kR.bx 1 _ rfl
      have r2 := Jpbi1.kR.bx 2 _ rfl
      have f0 := Jpbi1.kR.frozen 0
      have f1 := Jpbi1.kR.frozen 1
      have f2 := Jpbi1.kR.frozen 2
      have rl := Jpbi1.kR.lt
      go_wp2
      have bk3 := ((Jpbi1.kR.set 0 (.int .i64 m)).set 1 (.int .i64 k)).set 2 (.bool x)
      have q0 := bk3.bx 0 _ rfl
      have q1 := bk3.bx 1 _ rfl
      have q2 := bk3.bx 2 _ rfl
      refine bodyPost_ret (v := .agg #[.int .i64 m, .int .i64 k, .bool x]) (by simp [results, Try.results56, go_sem, q0, q1, q2]) rfl ?_
      have b3 := bset3 (w := w) (W := wpbi1) (g := w.heap.size + 1) (by omega) (.int .i64 m) (.int .i64 k) (.bool x)
      exact ⟨m, k, x, rfl, hm, hk, Jpbi1.cur.low HGW.out b3, ((Chg.ofBelow HBA.out _).trans Jpbi1.chg).low b3⟩
     ·go_wp2_with fail
      refine (l1PickInt_c g _ 3 3 [-1, 8, 7] _ (RS.lit wpbi1 [-1, 8, 7] _ (by simp) (by simp [I64])) Jpbi1.cur.ne (by omega) (Jpbi1.cur.alloc _)).mono ?_
      rintro e wqbi1 ⟨zbi1, rfl, hz, cu, ch⟩
      have hzbi1 : I64 zbi1 := by unfold I64; simp at hz; omega
      have Jqbi1 := Jpbi1.step HGF.out HG1.out HG2.out HG3.out ch.al cu
      clear hz cu ch Jpbi1
      have fq := Jqbi1.kX.frozen 1
      have xq := Jqbi1.kX.bx 1 _ rfl
      have Jrbi1 := Jqbi1.put HXF.out HX0.out HGA.out HX1.out HX2.out 1 (.int .i64 zbi1) rfl
      go_upto_region 9 with fail
      clear fq xq Jqbi1
      obtain ⟨wrbi1, hwrbi1⟩ : ∃ W, W = wqbi1.setCell ⟨w2.heap.size, 1, none⟩ (.int .i64 zbi1) := ⟨_, rfl⟩
      rw [← hwrbi1] at Jrbi1 ⊢
      clear hwrbi1
      have x0 := Jrbi1.kX.bx 0 _ rfl
      have x1 := Jrbi1.kX.bx 1 _ rfl
      have x2 := Jrbi1.kX.bx 2 _ rfl
      have r0 := Jrbi1.kR.bx 0 _ rfl
      have r1 := Jrbi1.kR.bx 1 _ rfl
      have r2 := Jrbi1.kR.bx 2 _ rfl
      have f0 := Jrbi1.kR.frozen 0
      have f1 := Jrbi1.kR.frozen 1
      have f2 := Jrbi1.kR.frozen 2
      have rl := Jrbi1.kR.lt
      go_wp2
      have bk3 := ((Jrbi1.kR.set 0 (.int .i64 m)).set 1 (.int .i64 zbi1)).set 2 (.bool x)
      have q0 := bk3.bx 0 _ rfl
      have q1 := bk3.bx 1 _ rfl
      have q2 := bk3.bx 2 _ rfl
      refine bodyPost_ret (v := .agg #[.int .i64 m, .int .i64 zbi1, .bool x]) (by simp [results, Try.results56, go_sem, q0, q1, q2]) rfl ?_
      have b3 := bset3 (w := w) (W := wrbi1) (g := w.heap.size + 1) (by omega) (.int .i64 m) (.int .i64 zbi1) (.bool x)
      exact ⟨m, zbi1, x, rfl, hm, hzbi1, Jrbi1.cur.low HGW.out b3, ((Chg.ofBelow HBA.out _).trans Jrbi1.chg).low b3⟩
    ·go_wp2_with fail
     refine (l1PickInt_c g _ 3 3 [-1, 16, 9223372036854775807] _ (RS.lit wpai [-1, 16, 9223372036854775807] _ (by simp) (by simp [I64])) Jpai.cur.ne (by omega) (Jpai.cur.alloc _)).mono ?_
     rintro e wqai ⟨zai, rfl, hz, cu, ch⟩
     have hzai : I64 zai := by unfold I64; simp at hz; omega
     have Jqai := Jpai.step HGF.out HG1.out HG2.out HG3.out ch.al cu
     clear hz cu ch Jpai
     have fq := Jqai.kX.frozen 0
     have xq := Jqai.kX.bx 0 _ rfl
     have Jrai := Jqai.put HXF.out HX0.out HGA.out HX1.out HX2.out 0 (.int .i64 zai) rfl
     go_upto_region 7 with fail
     clear fq xq Jqai
     obtain ⟨wrai, hwrai⟩ : ∃ W, W = wqai.setCell ⟨w2.heap.size, 0, none⟩ (.int .i64 zai) := ⟨_, rfl⟩
     rw [← hwrai] at Jrai ⊢
     clear hwrai
     go_wp2_with fail
     refine (l1Once_c g 16 _ (by omega) Jrai.cur).mono ?_
     rintro e wpbi2 ⟨b, rfl, cu, ch⟩
     have Jpbi2 := Jrai.step HGF.out HG1.out HG2.out HG3.out ch cu
     clear cu ch Jrai
     cases b
     ·have x0 := Jpbi2.kX.bx 0 _ rfl
      have x1 := Jpbi2.kX.bx 1 _ rfl
      have x2 := Jpbi2.kX.bx 2 _ rfl
      have r0 := Jpbi2.kR.bx 0 _ rfl
      have r1 := Jpbi2.kR.bx 1 _ rfl
      have r2 := Jpbi2.kR.bx 2 _ rfl
      have f0 := Jpbi2.kR.frozen 0
      have f1 := Jpbi2.kR.frozen 1
      have f2 := Jpbi2.kR.frozen 2
      have rl := Jpbi2.kR.lt
      go_wp2
      have bk3 := ((Jpbi2.kR.set 0 (.int .i64 zai)).set 1 (.int .i64 k)).set 2 (.bool x)
      have q0 := bk3.bx 0 _ rfl
      have q1 := bk3.bx 1 _ rfl
      have q2 := bk3.bx 2 _ rfl
      refine bodyPost_ret (v := .agg #[.int .i64 zai, .int .i64 k, .bool x]) (by simp [results, Try.results56, go_sem, q0, q1, q2]) rfl ?_
      have b3 := bset3 (w := w) (W := wpbi2) (g := w.heap.size + 1) (by omega) (.int .i64 zai) (.int .i64 k) (.bool x)
      exact ⟨zai, k, x, rfl, hzai, hk, Jpbi2.cur.low HGW.out b3, ((Chg.ofBelow HBA.out _).trans Jpbi2.chg).low b3⟩
     ·go_wp2_with fail
      refine (l1PickInt_c g _ 3 3 [-1, 8, 7] _ (RS.lit wpbi2 [-1, 8, 7] _ (by simp) (by simp [I64])) Jpbi2.cur.ne (by omega) (Jpbi2.cur.alloc _)).mono ?_
      rintro e wqbi2 ⟨zbi2, rfl, hz, cu, ch⟩
      have hzbi2 : I64 zbi2 := by unfold I64; simp at hz; omega
      have Jqbi2 := Jpbi2.step HGF.out HG1.out HG2.out HG3.out ch.al cu
      clear hz cu ch Jpbi2
      have fq := Jqbi2.kX.frozen 1
      have xq := Jqbi2.kX.bx 1 _ rfl
      have Jrbi2 := Jqbi2.put HXF.out HX0.out HGA.out HX1.out HX2.out 1 (.int .i64 zbi2) rfl
      go_upto_region 9 with fail
      clear fq xq Jqbi2
      obtain ⟨wrbi2, hwrbi2⟩ : ∃ W, W = wqbi2.setCell ⟨w2.heap.size, 1, none⟩ (.int .i64 zbi2) := ⟨_, rfl⟩
      rw [← hwrbi2] at Jrbi2 ⊢
      clear hwrbi2
      have x0 := Jrbi2.kX.bx 0 _ rfl
      have x1 := Jrbi2.kX.bx 1 _ rfl
      have x2 := Jrbi2.kX.bx 2 _ rfl
      have r0 := Jrbi2.kR.bx 0 _ rfl
      have r1 := Jrbi2.kR.bx 1 _ rfl
      have r2 := Jrbi2.kR.bx 2 _ rfl
      have f0 := Jrbi2.kR.frozen 0
      have f1 := Jrbi2.kR.frozen 1
      have f2 := Jrbi2.kR.frozen 2
      have rl := Jrbi2.kR.lt
      go_wp2
      have bk3 := ((Jrbi2.kR.set 0 (.int .i64 zai)).set 1 (.int .i64 zbi2)).set 2 (.bool x)
      have q0 := bk3.bx 0 _ rfl
      have q1 := bk3.bx 1 _ rfl
      have q2 := bk3.bx 2 _ rfl
      refine bodyPost_ret (v := .agg #[.int .i64 zai, .int .i64 zbi2, .bool x]) (by simp [results, Try.results56, go_sem, q0, q1, q2]) rfl ?_
      have b3 := bset3 (w := w) (W := wrbi2) (g := w.heap.size + 1) (by omega) (.int .i64 zai) (.int .i64 zbi2) (.bool x)
      exact ⟨zai, zbi2, x, rfl, hzai, hzbi2, Jrbi2.cur.low HGW.out b3, ((Chg.ofBelow HBA.out _).trans Jrbi2.chg).low b3⟩
  ·have hne : ((n2 : Int) == n1) = false := by simp; omega
   go_wp2_with fail
   refine (l1Once_c g 16 _ (by omega) J4.cur).mono ?_
   rintro e wpaj ⟨b, rfl, cu, ch⟩
   have Jpaj := J4.step HGF.out HG1.out HG2.out HG3.out ch cu
   clear cu ch J4
   cases b
   ·go_wp2_with fail
    refine (l1Once_c g 16 _ (by omega) Jpaj.cur).mono ?_
    rintro e wpbj1 ⟨b, rfl, cu, ch⟩
    have Jpbj1 := Jpaj.step HGF.out HG1.out HG2.out HG3.out ch cu
    clear cu ch Jpaj
    cases b
    ·have x0 := Jpbj1.kX.bx 0 _ rfl
     have x1 := Jpbj1.kX.bx 1 _ rfl
     have x2 := Jpbj1.kX.bx 2 _ rfl
     have r0 := Jpbj1.kR.bx 0 _ rfl
     have r1 := Jpbj1.kR.bx 1 _ rfl
     have r2 := Jpbj1.kR.bx 2 _ rfl
     have f0 := Jpbj1.kR.frozen 0
     have f1 := Jpbj1.kR.frozen 1
     have f2 := Jpbj1.kR.frozen 2
     have rl := Jpbj1.kR.lt
     go_wp2
     have bk3 := ((Jpbj1.kR.set 0 (.int .i64 m)).set 1 (.int .i64 k)).set 2 (.bool x)
     have q0 := bk3.bx 0 _ rfl
     have q1 := bk3.bx 1 _ rfl
     have q2 := bk3.bx 2 _ rfl
     refine bodyPost_ret (v := .agg #[.int .i64 m, .int .i64 k, .bool x]) (by simp [results, Try.results56, go_sem, q0, q1, q2]) rfl ?_
     have b3 := bset3 (w := w) (W := wpbj1) (g := w.heap.size + 1) (by omega) (.int .i64 m) (.int .i64 k) (.bool x)
     exact ⟨m, k, x, rfl, hm, hk, Jpbj1.cur.low HGW.out b3, ((Chg.ofBelow HBA.out _).trans Jpbj1.chg).low b3⟩
    ·go_wp2_with fail
     refine (l1PickInt_c g _ 3 3 [-1, 8, 7] _ (RS.lit wpbj1 [-1, 8, 7] _ (by simp) (by simp [I64])) Jpbj1.cur.ne (by omega) (Jpbj1.cur.alloc _)).mono ?_
     rintro e wqbj1 ⟨zbj1, rfl, hz, cu, ch⟩
     have hzbj1 : I64 zbj1 := by unfold I64; simp at hz; omega
     have Jqbj1 := Jpbj1.step HGF.out HG1.out HG2.out HG3.out ch.al cu
     clear hz cu ch Jpbj1
     have fq := Jqbj1.kX.frozen 1
     have xq := Jqbj1.kX.bx 1 _ rfl
     have Jrbj1 := Jqbj1.put HXF.out HX0.out HGA.out HX1.out HX2.out 1 (.int .i64 zbj1) rfl
     go_upto_region 9 with fail
     clear fq xq Jqbj1
     obtain ⟨wrbj1, hwrbj1⟩ : ∃ W, W = wqbj1.setCell ⟨w2.heap.size, 1, none⟩ (.int .i64 zbj1) := ⟨_, rfl⟩
     rw [← hwrbj1] at Jrbj1 ⊢
     clear hwrbj1
     have x0 := Jrbj1.kX.bx 0 _ rfl
     have x1 := Jrbj1.kX.bx 1 _ rfl
     have x2 := Jrbj1.kX.bx 2 _ rfl
     have r0 := Jrbj1.kR.bx 0 _ rfl
     have r1 := Jrbj1.kR.bx 1 _ rfl
     have r2 := Jrbj1.kR.bx 2 _ rfl
     have f0 := Jrbj1.kR.frozen 0
     have f1 := Jrbj1.kR.frozen 1
     have f2 := Jrbj1.kR.frozen 2
     have rl := Jrbj1.kR.lt
     go_wp2
     have bk3 := ((Jrbj1.kR.set 0 (.int .i64 m)).set 1 (.int .i64 zbj1)).set 2 (.bool x)
     have q0 := bk3.bx 0 _ rfl
     have q1 := bk3.bx 1 _ rfl
     have q2 := bk3.bx 2 _ rfl
     refine bodyPost_ret (v := .agg #[.int .i64 m, .int .i64 zbj1, .bool x]) (by simp [results, Try.results56, go_sem, q0, q1, q2]) rfl ?_
     have b3 := bset3 (w := w) (W := wrbj1) (g := w.heap.size + 1) (by omega) (.int .i64 m) (.int .i64 zbj1) (.bool x)
     exact ⟨m, zbj1, x, rfl, hm, hzbj1, Jrbj1.cur.low HGW.out b3, ((Chg.ofBelow HBA.out _).trans Jrbj1.chg).low b3⟩
   ·go_wp2_with fail
    refine (l1PickInt_c g _ 3 3 [-1, 16, 9223372036854775807] _ (RS.lit wpaj [-1, 16, 9223372036854775807] _ (by simp) (by simp [I64])) Jpaj.cur.ne (by omega) (Jpaj.cur.alloc _)).mono ?_
    rintro e wqaj ⟨zaj, rfl, hz, cu, ch⟩
    have hzaj : I64 zaj := by unfold I64; simp at hz; omega
    have Jqaj := Jpaj.step HGF.out HG1.out HG2.out HG3.out ch.al cu
    clear hz cu ch Jpaj
    have fq := Jqaj.kX.frozen 0
    have xq := Jqaj.kX.bx 0 _ rfl
    have Jraj := Jqaj.put HXF.out HX0.out HGA.out HX1.out HX2.out 0 (.int .i64 zaj) rfl
    go_upto_region 7 with fail
    clear fq xq Jqaj
    obtain ⟨wraj, hwraj⟩ : ∃ W, W = wqaj.setCell ⟨w2.heap.size, 0, none⟩ (.int .i64 zaj) := ⟨_, rfl⟩
    rw [← hwraj] at Jraj ⊢
    clear hwraj
    go_wp2_with fail
    refine (l1Once_c g 16 _ (by omega) Jraj.cur).mono ?_
    rintro e wpbj2 ⟨b, rfl, cu, ch⟩
    have Jpbj2 := Jraj.step HGF.out HG1.out HG2.out HG3.out ch cu
    clear cu ch Jraj
    cases b
    ·have x0 := Jpbj2.kX.bx 0 _ rfl
     have x1 := Jpbj2.kX.bx 1 _ rfl
     have x2 := Jpbj2.kX.bx 2 _ rfl
     have r0 := Jpbj2.kR.bx 0 _ rfl
     have r1 := Jpbj2.kR.bx 1 _ rfl
     have r2 := Jpbj2.kR.bx 2 _ rfl
     have f0 := Jpbj2.kR.frozen 0
     have f1 := Jpbj2.kR.frozen 1
     have f2 := Jpbj2.kR.frozen 2
     have rl := Jpbj2.kR.lt
     go_wp2
     have bk3 := ((Jpbj2.kR.set 0 (.int .i64 zaj)).set 1 (.int .i64 k)).set 2 (.bool x)
     have q0 := bk3.bx 0 _ rfl
     have q1 := bk3.bx 1 _ rfl
     have q2 := bk3.bx 2 _ rfl
     refine bodyPost_ret (v := .agg #[.int .i64 zaj, .int .i64 k, .bool x]) (by simp [results, Try.results56, go_sem, q0, q1, q2]) rfl ?_
     have b3 := bset3 (w := w) (W := wpbj2) (g := w.heap.size + 1) (by omega) (.int .i64 zaj) (.int .i64 k) (.bool x)
     exact ⟨zaj, k, x, rfl, hzaj, hk, Jpbj2.cur.low HGW.out b3, ((Chg.ofBelow HBA.out _).trans Jpbj2.chg).low b3⟩
    ·go_wp2_with fail
     refine (l1PickInt_c g _ 3 3 [-1, 8, 7] _ (RS.lit wpbj2 [-1, 8, 7] _ (by simp) (by simp [I64])) Jpbj2.cur.ne (by omega) (Jpbj2.cur.alloc _)).mono ?_
     rintro e wqbj2 ⟨zbj2, rfl, hz, cu, ch⟩
     have hzbj2 : I64 zbj2 := by unfold I64; simp at hz; omega
     have Jqbj2 := Jpbj2.step HGF.out HG1.out HG2.out HG3.out ch.al cu
     clear hz cu ch Jpbj2
     have fq := Jqbj2.kX.frozen 1
     have xq := Jqbj2.kX.bx 1 _ rfl
     have Jrbj2 := Jqbj2.put HXF.out HX0.out HGA.out HX1.out HX2.out 1 (.int .i64 zbj2) rfl
     go_upto_region 9 with fail
     clear fq xq Jqbj2
     obtain ⟨wrbj2, hwrbj2⟩ : ∃ W, W = wqbj2.setCell ⟨w2.heap.size, 1, none⟩ (.int .i64 zbj2) := ⟨_, rfl⟩
     rw [← hwrbj2] at Jrbj2 ⊢
     clear hwrbj2
     have x0 := Jrbj2.kX.bx 0 _ rfl
     have x1 := Jrbj2.kX.bx 1 _ rfl
     have x2 := Jrbj2.kX.bx 2 _ rfl
     have r0 := Jrbj2.kR.bx 0 _ rfl
     have r1 := Jrbj2.kR.bx 1 _ rfl
     have r2 := Jrbj2.kR.bx 2 _ rfl
     have f0 := Jrbj2.kR.frozen 0
     have f1 := Jrbj2.kR.frozen 1
     have f2 := Jrbj2.kR.frozen 2
     have rl := Jrbj2.kR.lt
     go_wp2
     have bk3 := ((Jrbj2.kR.set 0 (.int .i64 zaj)).set 1 (.int .i64 zbj2)).set 2 (.bool x)
     have q0 := bk3.bx 0 _ rfl
     have q1 := bk3.bx 1 _ rfl
     have q2 := bk3.bx 2 _ rfl
     refine bodyPost_ret (v := .agg #[.int .i64 zaj, .int .i64 zbj2, .bool x]) (by simp [results, Try.results56, go_sem, q0, q1, q2]) rfl ?_
     have b3 := bset3 (w := w) (W := wrbj2) (g := w.heap.size + 1) (by omega) (.int .i64 zaj) (.int .i64 zbj2) (.bool x)
     exact ⟨zaj, zbj2, x, rfl, hzaj, hzbj2, Jrbj2.cur.low HGW.out b3, ((Chg.ofBelow HBA.out _).trans Jrbj2.chg).low b3⟩
 ·go_wp2_with fail
  refine (l1Once_c g 16 _ (by omega) J4.cur).mono ?_
  rintro e wpal ⟨b, rfl, cu, ch⟩
  have Jpal := J4.step HGF.out HG1.out HG2.out HG3.out ch cu
  clear cu ch J4
  cases b
  ·go_wp2_with fail
   refine (l1Once_c g 16 _ (by omega) Jpal.cur).mono ?_
   rintro e wpbl1 ⟨b, rfl, cu, ch⟩
   have Jpbl1 := Jpal.step HGF.out HG1.out HG2.out HG3.out ch cu
   clear cu ch Jpal
   cases b
   ·have x0 := Jpbl1.kX.bx 0 _ rfl
    have x1 := Jpbl1.kX.bx 1 _ rfl
    have x2 := Jpbl1.kX.bx 2 _ rfl
    have r0 := Jpbl1.kR.bx 0 _ rfl
    have r1 := Jpbl1.kR.bx 1 _ rfl
    have r2 := Jpbl1.kR.bx 2 _ rfl
    have f0 := Jpbl1.kR.frozen 0
    have f1 := Jpbl1.kR.frozen 1
    have f2 := Jpbl1.kR.frozen 2
    have rl := Jpbl1.kR.lt
    go_wp2
    have bk3 := ((Jpbl1.kR.set 0 (.int .i64 m)).set 1 (.int .i64 k)).set 2 (.bool x)
    have q0 := bk3.bx 0 _ rfl
    have q1 := bk3.bx 1 _ rfl
    have q2 := bk3.bx 2 _ rfl
    refine bodyPost_ret (v := .agg #[.int .i64 m, .int .i64 k, .bool x]) (by simp [results, Try.results56, go_sem, q0, q1, q2]) rfl ?_
    have b3 := bset3 (w := w) (W := wpbl1) (g := w.heap.size + 1) (by omega) (.int .i64 m) (.int .i64 k) (.bool x)
    exact ⟨m, k, x, rfl, hm, hk, Jpbl1.cur.low HGW.out b3, ((Chg.ofBelow HBA.out _).trans Jpbl1.chg).low b3⟩
   ·go_wp2_with fail
    refine (l1PickInt_c g _ 3 3 [-1, 8, 7] _ (RS.lit wpbl1 [-1, 8, 7] _ (by simp) (by simp [I64])) Jpbl1.cur.ne (by omega) (Jpbl1.cur.alloc _)).mono ?_
    rintro e wqbl1 ⟨zbl1, rfl, hz, cu, ch⟩
    have hzbl1 : I64 zbl1 := by unfold I64; simp at hz; omega
    have Jqbl1 := Jpbl1.step HGF.out HG1.out HG2.out HG3.out ch.al cu
    clear hz cu ch Jpbl1
    have fq := Jqbl1.kX.frozen 1
    have xq := Jqbl1.kX.bx 1 _ rfl
    have Jrbl1 := Jqbl1.put HXF.out HX0.out HGA.out HX1.out HX2.out 1 (.int .i64 zbl1) rfl
    go_upto_region 9 with fail
    clear fq xq Jqbl1
    obtain ⟨wrbl1, hwrbl1⟩ : ∃ W, W = wqbl1.setCell ⟨w2.heap.size, 1, none⟩ (.int .i64 zbl1) := ⟨_, rfl⟩
    rw [← hwrbl1] at Jrbl1 ⊢
    clear hwrbl1
    have x0 := Jrbl1.kX.bx 0 _ rfl
    have x1 := Jrbl1.kX.bx 1 _ rfl
    have x2 := Jrbl1.kX.bx 2 _ rfl
    have r0 := Jrbl1.kR.bx 0 _ rfl
    have r1 := Jrbl1.kR.bx 1 _ rfl
    have r2 := Jrbl1.kR.bx 2 _ rfl
    have f0 := Jrbl1.kR.frozen 0
    have f1 := Jrbl1.kR.frozen 1
    have f2 := Jrbl1.kR.frozen 2
    have rl := Jrbl1.kR.lt
    go_wp2
    have bk3 := ((Jrbl1.kR.set 0 (.int .i64 m)).set 1 (.int .i64 zbl1)).set 2 (.bool x)
    have q0 := bk3.bx 0 _ rfl
    have q1 := bk3.bx 1 _ rfl
    have q2 := bk3.bx 2 _ rfl
    refine bodyPost_ret (v := .agg #[.int .i64 m, .int .i64 zbl1, .bool x]) (by simp [results, Try.results56, go_sem, q0, q1, q2]) rfl ?_
    have b3 := bset3 (w := w) (W := wrbl1) (g := w.heap.size + 1) (by omega) (.int .i64 m) (.int .i64 zbl1) (.bool x)
    exact ⟨m, zbl1, x, rfl, hm, hzbl1, Jrbl1.cur.low HGW.out b3, ((Chg.ofBelow HBA.out _).trans Jrbl1.chg).low b3⟩
  ·go_wp2_with fail
   refine (l1PickInt_c g _ 3 3 [-1, 16, 9223372036854775807] _ (RS.lit wpal [-1, 16, 9223372036854775807] _ (by simp) (by simp [I64])) Jpal.cur.ne (by omega) (Jpal.cur.alloc _)).mono ?_
   rintro e wqal ⟨zal, rfl, hz, cu, ch⟩
   have hzal : I64 zal := by unfold I64; simp at hz; omega
   have Jqal := Jpal.step HGF.out HG1.out HG2.out HG3.out ch.al cu
   clear hz cu ch Jpal
   have fq := Jqal.kX.frozen 0
   have xq := Jqal.kX.bx 0 _ rfl
   have Jral := Jqal.put HXF.out HX0.out HGA.out HX1.out HX2.out 0 (.int .i64 zal) rfl
   go_upto_region 7 with fail
   clear fq xq Jqal
   obtain ⟨wral, hwral⟩ : ∃ W, W = wqal.setCell ⟨w2.heap.size, 0, none⟩ (.int .i64 zal) := ⟨_, rfl⟩
   rw [← hwral] at Jral ⊢
   clear hwral
   go_wp2_with fail
   refine (l1Once_c g 16 _ (by omega) Jral.cur).mono ?_
   rintro e wpbl2 ⟨b, rfl, cu, ch⟩
   have Jpbl2 := Jral.step HGF.out HG1.out HG2.out HG3.out ch cu
   clear cu ch Jral
   cases b
   ·have x0 := Jpbl2.kX.bx 0 _ rfl
    have x1 := Jpbl2.kX.bx 1 _ rfl
    have x2 := Jpbl2.kX.bx 2 _ rfl
    have r0 := Jpbl2.kR.bx 0 _ rfl
    have r1 := Jpbl2.kR.bx 1 _ rfl
    have r2 := Jpbl2.kR.bx 2 _ rfl
    have f0 := Jpbl2.kR.frozen 0
    have f1 := Jpbl2.kR.frozen 1
    have f2 := Jpbl2.kR.frozen 2
    have rl := Jpbl2.kR.lt
    go_wp2
    have bk3 := ((Jpbl2.kR.set 0 (.int .i64 zal)).set 1 (.int .i64 k)).set 2 (.bool x)
    have q0 := bk3.bx 0 _ rfl
    have q1 := bk3.bx 1 _ rfl
    have q2 := bk3.bx 2 _ rfl
    refine bodyPost_ret (v := .agg #[.int .i64 zal, .int .i64 k, .bool x]) (by simp [results, Try.results56, go_sem, q0, q1, q2]) rfl ?_
    have b3 := bset3 (w := w) (W := wpbl2) (g := w.heap.size + 1) (by omega) (.int .i64 zal) (.int .i64 k) (.bool x)
    exact ⟨zal, k, x, rfl, hzal, hk, Jpbl2.cur.low HGW.out b3, ((Chg.ofBelow HBA.out _).trans Jpbl2.chg).low b3⟩
   ·go_wp2_with fail
    refine (l1PickInt_c g _ 3 3 [-1, 8, 7] _ (RS.lit wpbl2 [-1, 8, 7] _ (by simp) (by simp [I64])) Jpbl2.cur.ne (by omega) (Jpbl2.cur.alloc _)).mono ?_
    rintro e wqbl2 ⟨zbl2, rfl, hz, cu, ch⟩
    have hzbl2 : I64 zbl2 := by unfold I64; simp at hz; omega
    have Jqbl2 := Jpbl2.step HGF.out HG1.out HG2.out HG3.out ch.al cu
    clear hz cu ch Jpbl2
    have fq := Jqbl2.kX.frozen 1
    have xq := Jqbl2.kX.bx 1 _ rfl
    have Jrbl2 := Jqbl2.put HXF.out HX0.out HGA.out HX1.out HX2.out 1 (.int .i64 zbl2) rfl
    go_upto_region 9 with fail
    clear fq xq Jqbl2
    obtain ⟨wrbl2, hwrbl2⟩ : ∃ W, W = wqbl2.setCell ⟨w2.heap.size, 1, none⟩ (.int .i64 zbl2) := ⟨_, rfl⟩
    rw [← hwrbl2] at Jrbl2 ⊢
    clear hwrbl2
    have x0 := Jrbl2.kX.bx 0 _ rfl
    have x1 := Jrbl2.kX.bx 1 _ rfl
    have x2 := Jrbl2.kX.bx 2 _ rfl
    have r0 := Jrbl2.kR.bx 0 _ rfl
    have r1 := Jrbl2.kR.bx 1 _ rfl
    have r2 := Jrbl2.kR.bx 2 _ rfl
    have f0 := Jrbl2.kR.frozen 0
    have f1 := Jrbl2.kR.frozen 1
    have f2 := Jrbl2.kR.frozen 2
    have rl := Jrbl2.kR.lt
    go_wp2
    have bk3 := ((Jrbl2.kR.set 0 (.int .i64 zal)).set 1 (.int .i64 zbl2)).set 2 (.bool x)
    have q0 := bk3.bx 0 _ rfl
    have q1 := bk3.bx 1 _ rfl
    have q2 := bk3.bx 2 _ rfl
    refine bodyPost_ret (v := .agg #[.int .i64 zal, .int .i64 zbl2, .bool x]) (by simp [results, Try.results56, go_sem, q0, q1, q2]) rfl ?_
    have b3 := bset3 (w := w) (W := wrbl2) (g := w.heap.size + 1) (by omega) (.int .i64 zal) (.int .i64 zbl2) (.bool x)
    exact ⟨zal, zbl2, x, rfl, hzal, hzbl2, Jrbl2.cur.low HGW.out b3, ((Chg.ofBelow HBA.out _).trans Jrbl2.chg).low b3⟩
end Go.Proofs.Ytkdajdafhjobbaa
