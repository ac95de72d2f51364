/-
  Bxi
-/
import Derived.Test.YtkdajdafhjobbaaKeep
import Derived.Test.YtkdajdafhjobbaaBxh
namespace Go.Proofs.Ytkdajdafhjobbaa
open Go.RowKit
set_option linter.unusedVariables false
set_option linter.unusedSimpArgs false
/-- append of one owned element at a region's step, with the word where the new row lies -/
theorem step_appL {α : Type} {r : Rp α} {B M : Nat} {e : TypeId} {w : World} {A : Option Addr} {n cap : Nat} {l : List α} {P : Program} {ops : Array Oper} {o : Oper} {a : Act} {K : Act → World → Prop} {Q : Exit → Act → World → Prop} {E : Prop} (hgd : o.guard = none) (s x : Operand) (t : TypeId)
  (ho : o.op = .call { callee := .builtin .append, args := #[s, x], argTypes := #[t, t] }) (z : Value) (bytes : Nat) (ei : Ei P t e z r.size bytes) (hr : r.Ok) {wr : World}
  (hs : a.eval s = .slice A n cap) (h : MS B M e r wr A n cap l) (hb : Below wr.heap.size wr w) (hB : B ≤ wr.heap.size)
  (ad : Addr) (hx : a.eval x = .slice (some ad) 1 1) {f : List Nat} {cs : List Value} {y : α} (hy : r.own w f cs y) (hf : Fr wr.heap.size f) (hc : ∀ j u, cs[j]? = some u → w.cell? (ad.add j) = some u)
  (hn : n + 1 ≤ M) (hM : M ≤ 4294967296) (hby : (n + 1) * bytes ≤ 140737488355328)
  (hK : ∀ A' cap' w', MS B M e r w' A' (n + 1) cap' (l ++ [y]) → Below B w w' → w.grownBy w' (A.map (·.block)) → (A'.map (·.block) = A.map (·.block) ∨ A'.map (·.block) = some w.heap.size) → K (a.put o.dst (.slice A' (n + 1) cap')) w') :
  if Region.wanted o (yielded ops a.tmps) = true then Oper.wp P o a w K Q else E := by
 have hw : Region.wanted o (yielded ops a.tmps) = true := by simp [Region.wanted, hgd]
 rw [if_pos hw]
 obtain ⟨i, hi, h1, h2, h3⟩ := info_parts ei.hi
 obtain ⟨fp, hO, hfr⟩ := h
 have hO' := hO.belowS hr hb
 obtain ⟨css, fps, h4, _, h6⟩ := hO'.ex
 obtain ⟨v', w', hrun, r1, r2, _, r4⟩ := run_append_own_at (P := P) w 0 t o.type e i z r.size bytes ei.ht hi h1 h2 h3 ei.hz hr.pos (.slice A n cap) n css.flatten h4 ad 1 1 cs (by rw [hr.len (hr.toRep hy), Nat.one_mul]) hc (hr.one (hr.toRep hy)) (by unfold maxLen; omega) hby (Nat.zero_le _)
 obtain ⟨A', cap', rfl⟩ := ownsRow_slice r1
 rw [blk_own] at r2 r4
 rw [blk_own] at r4
 unfold Oper.wp execOp
 simp only [ho, resolve, invoke, builtin, Sem.run_bind, Sem.run_pure, Result.andThen_ok, List.map_toArray, List.map_cons, List.map_nil, hs, hx, hrun]
 refine hK A' cap' w' (MS.app1 hr ⟨fp, hO, hfr⟩ hb hB hy hf hn (fun css' hcss => ?_) r2 r4) (MS.grown ⟨fp, hO, hfr⟩ hb hB r2) r2 r4
 have : css' = css.flatten := by
  rcases (ownsRow_form h4).2 with ⟨rfl, rfl, _⟩ | ⟨g, rfl, _⟩
  ·have e1 := h4.1; have e2 := hcss.1; rw [Nat.zero_mul] at e1 e2; rw [List.eq_nil_of_length_eq_zero e2, List.eq_nil_of_length_eq_zero e1]
  ·refine List.ext_getElem? fun j => ?_
   by_cases hj : j < n * r.size
   ·rw [← h4.cellAt j hj, ← hcss.cellAt j hj]
   ·rw [List.getElem?_eq_none (by rw [hcss.1]; omega), List.getElem?_eq_none (by rw [h4.1]; omega)]
 rw [this]; exact r1
/-- what l20Both hands back: the cursor, the box, the location -/
def Both (w : World) (e : Ending) (w' : World) : Prop := ∃ (g N : Nat) (lo hi L : List Int) (A1 : Option Addr) (n1 c1 : Nat) (A2 : Option Addr) (n2 c2 : Nat) (AL : Option Addr) (nL cL : Nat) (fp : List Nat),
 e = .returned (.tuple #[.pointer (some ⟨g, 0, none⟩), .agg #[.slice A1 n1 c1, .slice A2 n2 c2], .slice AL nL cL]) ∧ (rBox NB).own w' fp [.slice A1 n1 c1, .slice A2 n2 c2] ⟨lo, hi⟩ ∧ (∀ z ∈ fp, w.heap.size ≤ z) ∧ g ∉ fp ∧ BoxFit ⟨lo, hi⟩ N ∧ N ≤ 16 ∧
 MS (g + 1) NB 3 rInt w' AL nL cL L ∧ Cur w' g ∧ w.heap.size ≤ g ∧ Below w.heap.size w w'
/-- the walk's world in l20Both -/
structure Bth (w w2 : World) (g : Nat) (A1 : Option Addr) (n1 c1 : Nat) (A2 : Option Addr) (n2 c2 : Nat) (fp : List Nat) (lo hi L : List Int) (AL : Option Addr) (nL cL : Nat) (W : World) : Prop where
 ms : MS (w2.heap.size + 1) NB 3 rInt W AL nL cL L
 kR : Bk W w.heap.size 26 [.slice none 0 0, .slice none 0 0]
 kB : Bk W w2.heap.size 26 [.slice A1 n1 c1, .slice A2 n2 c2]
 own : (rBox NB).own W fp [.slice A1 n1 c1, .slice A2 n2 c2] ⟨lo, hi⟩
 cur : Cur W g
 be : Below w.heap.size w W
 sz : w2.heap.size + 1 ≤ W.heap.size
theorem bn0 {w0 : World} {e : Ending} : True := trivial
section
variable {w w2 W W' : World} {g : Nat} {A1 : Option Addr} {n1 c1 : Nat} {A2 : Option Addr} {n2 c2 : Nat} {fp : List Nat} {lo hi L : List Int} {AL : Option Addr} {nL cL : Nat}
theorem Bth.rsL (h : Bth w w2 g A1 n1 c1 A2 n2 c2 fp lo hi L AL nL cL W) : RS NB rInt W A1 n1 c1 lo := by
 obtain ⟨_, _, _, _, _, _, f1, f2, e, _, o1, o2⟩ := rBox_own.1 h.own
 injection e with e1 e2; injection e1 with e1 e3 e4; subst e1; subst e3; subst e4
 exact o1.rs rInt_ok
theorem Bth.rsH (h : Bth w w2 g A1 n1 c1 A2 n2 c2 fp lo hi L AL nL cL W) : RS NB rInt W A2 n2 c2 hi := by
 obtain ⟨_, _, _, _, _, _, f1, f2, e, _, o1, o2⟩ := rBox_own.1 h.own
 injection e with e1 e2; injection e2 with e2 e5; injection e2 with e2 e3 e4; subst e2; subst e3; subst e4
 exact o2.rs rInt_ok
theorem Bth.below (h : Bth w w2 g A1 n1 c1 A2 n2 c2 fp lo hi L AL nL cL W) (hb : Below W.heap.size W W') (hw : w.heap.size ≤ W.heap.size) : Bth w w2 g A1 n1 c1 A2 n2 c2 fp lo hi L AL nL cL W' :=
 ⟨h.ms.below rInt_ok hb, h.kR.below hb, h.kB.below hb, (rBox_ok NB).ownB h.own hb, h.cur.below hb, h.be.trans (hb.mono hw), Nat.le_trans h.sz hb.size⟩
theorem Bth.step (h : Bth w w2 g A1 n1 c1 A2 n2 c2 fp lo hi L AL nL cL W) (hf : ∀ z ∈ fp, z ≠ g ∧ z < w2.heap.size ∧ w.heap.size < z) (hx : g < w2.heap.size ∧ w.heap.size < w2.heap.size ∧ w.heap.size ≠ g ∧ w.heap.size ≤ g) (hc : Chg [g] W W') (cu : Cur W' g) : Bth w w2 g A1 n1 c1 A2 n2 c2 fp lo hi L AL nL cL W' := by
 have hz := h.be.size
 refine ⟨?_, h.kR.chg hc (by simp; exact hx.2.2.1), h.kB.chg hc (by simp; omega), (rBox_ok NB).ownC h.own hc (fun z hz => by simp; exact (hf z hz).1), cu, h.be.trans (hc.of1 hz hx.2.2.2), Nat.le_trans h.sz hc.size⟩
 obtain ⟨f, o, fr⟩ := h.ms
 exact ⟨f, o.chg rInt_ok hc (fun z hz => by have := fr.ge z hz; simp; omega), fr⟩
/-- the row has grown -/
theorem Bth.grow (h : Bth w w2 g A1 n1 c1 A2 n2 c2 fp lo hi L AL nL cL W) (hf : ∀ z ∈ fp, z ≠ g ∧ z < w2.heap.size ∧ w.heap.size < z) (hx : g < w2.heap.size ∧ w.heap.size < w2.heap.size ∧ w.heap.size ≠ g ∧ w.heap.size ≤ g) {L' : List Int} {AL' : Option Addr} {nL' cL' : Nat} (hm : MS (w2.heap.size + 1) NB 3 rInt W' AL' nL' cL' L') (hb : Below (w2.heap.size + 1) W W') : Bth w w2 g A1 n1 c1 A2 n2 c2 fp lo hi L' AL' nL' cL' W' :=
 ⟨hm, (hb.block _ (by omega)).trans h.kR, (hb.block _ (by omega)).trans h.kB, (rBox_ok NB).okeep h.own (fun z hz => hb.block z (by have := (hf z hz).2.1; omega)), h.cur.low (by omega) hb, h.be.trans (hb.mono (by omega)), Nat.le_trans h.sz hb.size⟩
end
theorem Cur.setR {W W2 : World} {g R : Nat} {t : TypeId} (h : Cur W g) (hk : Bk W R t [.slice none 0 0, .slice none 0 0]) (hg : g ≠ R) (hs : ∀ z, z ≠ R → W2.heap[z]? = W.heap[z]?) : Cur W2 g := by
 obtain ⟨A, n, c, l, i, q, h1, h2, h3, h4, h5⟩ := h
 refine ⟨A, n, c, l, i, q, (hs g hg).trans h1, ⟨h2.len, h2.nb, h2.nc, fun hn => ?_⟩, h3, h4, h5⟩
 obtain ⟨b, off, e, hc⟩ := h2.cell hn
 refine ⟨b, off, e, fun j x hj => ?_⟩
 obtain ⟨cs, h6, h7⟩ := hc j x hj
 refine ⟨cs, h6, fun i v hi => ?_⟩
 have hh := h7 i v hi
 have hbR : b ≠ R := by
  rintro rfl
  rw [cell_of_row _ b _ _ t (0, 0) hk] at hh
  have hv : v = .slice none 0 0 := by
   have hm := List.mem_of_getElem? (by simpa using hh : [Value.slice none 0 0, Value.slice none 0 0][off + j * rByte.size + i]? = some v)
   simpa using hm
  obtain ⟨rfl, _⟩ := h6
  have := List.mem_of_getElem? hi
  simp at this
  rw [hv] at this; cases this
 have : W2.cell? ⟨b, off + j * rByte.size + i, none⟩ = W.cell? ⟨b, off + j * rByte.size + i, none⟩ := by unfold World.cell?; rw [hs b hbR]
 rw [this]; exact hh
theorem Bth.fin {w w2 W : World} {g N : Nat} {A1 : Option Addr} {n1 c1 : Nat} {A2 : Option Addr} {n2 c2 : Nat} {fp : List Nat} {lo hi L : List Int} {AL : Option Addr} {nL cL : Nat} (h : Bth w w2 g A1 n1 c1 A2 n2 c2 fp lo hi L AL nL cL W) (hf : ∀ z ∈ fp, z ≠ g ∧ z < w2.heap.size ∧ w.heap.size < z) (hx : g < w2.heap.size ∧ w.heap.size < w2.heap.size ∧ w.heap.size ≠ g ∧ w.heap.size ≤ g) (hfit : BoxFit ⟨lo, hi⟩ N) (hN : N ≤ 16) (v0 v1 : Value) :
  Both w (.returned (.tuple #[.pointer (some ⟨g, 0, none⟩), .agg #[.slice A1 n1 c1, .slice A2 n2 c2], .slice AL nL cL])) ((W.setCell ⟨w.heap.size, 0, none⟩ v0).setCell ⟨w.heap.size, 1, none⟩ v1) := by
 have hs : ∀ z, z ≠ w.heap.size → ((W.setCell ⟨w.heap.size, 0, none⟩ v0).setCell ⟨w.heap.size, 1, none⟩ v1).heap[z]? = W.heap[z]? := fun z hz => (heap_setCell_other _ ⟨w.heap.size, 1, none⟩ z _ (fun e => hz e)).trans (heap_setCell_other _ ⟨w.heap.size, 0, none⟩ z _ (fun e => hz e))
 have hm : MS (w2.heap.size + 1) NB 3 rInt ((W.setCell ⟨w.heap.size, 0, none⟩ v0).setCell ⟨w.heap.size, 1, none⟩ v1) AL nL cL L := by
  obtain ⟨f, o, fr⟩ := h.ms
  exact ⟨f, o.okeep rInt_ok (fun z hz => hs z (by have := fr.ge z hz; omega)), fr⟩
 exact ⟨g, N, lo, hi, L, A1, n1, c1, A2, n2, c2, AL, nL, cL, fp, rfl, (rBox_ok NB).okeep h.own (fun z hz => hs z (by have := (hf z hz).2.2; omega)), fun z hz => Nat.le_of_lt (hf z hz).2.2, fun hg => (hf g hg).1 rfl, hfit, hN, hm.base (by omega), h.cur.setR h.kR (Ne.symm hx.2.2.1) hs, hx.2.2.2, h.be.trans (((Below.refl w.heap.size W).setCell (Nat.le_refl w.heap.size) v0).setCell (Nat.le_refl w.heap.size) v1)⟩
set_option maxRecDepth 100000 in
set_option maxHeartbeats 3200000 in
theorem l20Both_c (A : Option Addr) (n cap : Nat) (l : List Int) (w : World) (hr : RS NB rByte w A n cap l) :
  Calls Try.prog 64 #[.slice A n cap] w (Both w) := by
 obtain ⟨wa, hwa⟩ : ∃ wa, wa = w.alloc (.cells #[.slice none 0 0, .slice none 0 0] 26) := ⟨_, rfl⟩
 have hs : wa.heap.size = w.heap.size + 1 := by rw [hwa]; simp
 have hba : Below w.heap.size w wa := by rw [hwa]; exact (Below.refl w.heap.size w).alloc (Nat.le_refl _) _
 have kR : Bk wa w.heap.size 26 [.slice none 0 0, .slice none 0 0] := by rw [hwa]; exact Bk.new w _ _
 have hra := hr.below rByte_ok hba
 go_enter Try.func64, Try.ntmps64
 go_wp2_with fail
 rw [← hwa]
 clear hwa
 refine (l1New_c _ _ _ _ _ hra).mono ?_
 rintro e w1 ⟨g, rfl, hg, hc1, hB1⟩
 have kR1 := kR.below hB1
 go_wp2_with fail
 refine (l20Any_c g _ hc1).mono ?_
 rintro e w2 ⟨N, lo, hi, A1, n1, c1, A2, n2, c2, fp, hN, rfl, ob, fb, hfit, hc2, hC2⟩
 have hgw := hc1.lt
 have kR2 := kR1.chg hC2 (by simp; omega)
 obtain ⟨w3, hw3⟩ : ∃ w3, w3 = (w2.alloc (.cells #[.slice A1 n1 c1, .slice A2 n2 c2] 26)).alloc (.cells #[] 3) := ⟨_, rfl⟩
 have hb3 : Below w2.heap.size w2 w3 := by rw [hw3]; exact ((Below.refl w2.heap.size w2).alloc (Nat.le_refl _) _).alloc (by simp) _
 have hs3 : w3.heap.size = w2.heap.size + 1 + 1 := by rw [hw3]; simp
 have kB : Bk w3 w2.heap.size 26 [.slice A1 n1 c1, .slice A2 n2 c2] := by rw [hw3]; exact (Bk.new w2 _ _).below ((Below.refl _ _).alloc (Nat.le_refl _) _)
 have hMS : MS (w2.heap.size + 1) NB 3 rInt w3 (some ⟨w2.heap.size + 1, 0, none⟩) 0 0 [] := by
  rw [hw3]
  have := MS.empty (B := w2.heap.size + 1) (M := NB) (e := 3) (r := rInt) (w2.alloc (.cells #[.slice A1 n1 c1, .slice A2 n2 c2] 26)) (by simp)
  simpa using this
 have hc3 := hc2.below hb3
 have kR3 := kR2.below hb3
 have ob3 := (rBox_ok NB).ownB ob hb3
 have hs2 := hC2.size
 have hs1 := hB1.size
 have HFP : Hid (∀ z ∈ fp, z ≠ g ∧ z < w2.heap.size ∧ w.heap.size < z) := by
  show ∀ z ∈ fp, _
  exact fun z hz => ⟨fun e => by have := fb.ge z hz; omega, (rBox_ok NB).lt ob z hz, by have := fb.ge z hz; omega⟩
 have HX : Hid (g < w2.heap.size ∧ w.heap.size < w2.heap.size ∧ w.heap.size ≠ g ∧ w.heap.size ≤ g) := by show _ ∧ _; omega
 have hB3 : Below w.heap.size w w3 := ((hba.trans (hB1.mono hba.size)).trans (hC2.of1 (Nat.le_trans hba.size hB1.size) (by omega))).trans (hb3.mono (by omega))
 clear hc2 hC2 kR2 kR1 hB1 ob hb3 hra hc1 hgw hs1 hs2 fb kR hba
 go_wp2_with fail
 rw [← hw3]
 clear hw3
 go_loopw [7, 8] (fun s t wr => ∃ (k : Nat) (L : List Int) (AL : Option Addr) (nL cL : Nat), k ≤ 17 ∧ nL = k ∧ t = .int .i64 k ∧ s = .slice AL nL cL ∧ Bth w w2 g A1 n1 c1 A2 n2 c2 fp lo hi L AL nL cL wr) (fun _ t _ => 17 - (intOf t).toNat)
 case atStart => exact ⟨0, [], _, 0, 0, by omega, rfl, rfl, rfl, hMS, kR3, kB, ob3, hc3, hB3, by omega⟩
 case round =>
  clear hMS kR3 kB ob3 hc3 hB3 hs3
  obtain ⟨k, L, AL, nL, cL, hk, hnk, rfl, rfl, J⟩ := hrel
  obtain rfl : k = nL := hnk.symm
  clear hnk
  have kb0 := J.kB.bx 0 _ rfl
  have kb1 := J.kB.bx 1 _ rfl
  have hwz : w.heap.size ≤ wr.heap.size := J.be.size
  have hn1 : n1 ≤ 16 := by have := J.rsL.len; have := hfit.1; simp only at this; omega
  by_cases hk1 : k < n1
  ·by_cases hk2 : k < n2
   ·obtain ⟨b1, o1, a, e1, hc1, hI1, ha⟩ := J.rsL.ati hk1
    obtain ⟨b2, o2, h, e2, hc2, hI2, hh⟩ := J.rsH.ati hk2
    subst e1
    subst e2
    have a8 : -1 ≤ a ∧ a ≤ 8 := hfit.2.2.1 a (mem_of_at ha.out)
    have h8 : -1 ≤ h ∧ h ≤ 8 := hfit.2.2.2 h (mem_of_at hh.out)
    clear hc1 hc2
    have HSS := Lib.hid (fun (w' : World) (hh2 : ∃ (L : List Int) (AL : Option Addr) (nL cL : Nat), Bth w w2 g (some ⟨b1, o1, none⟩) n1 c1 (some ⟨b2, o2, none⟩) n2 c2 fp lo hi L AL nL cL w') => (by obtain ⟨_, _, _, _, J⟩ := hh2; exact ⟨J.kB.bx 0 _ rfl, J.kB.bx 1 _ rfl, rs_cell J.rsL hk1 ha.out, rs_cell J.rsH hk2 hh.out⟩ : w'.cell? ⟨w2.heap.size, 0, none⟩ = some (.slice (some ⟨b1, o1, none⟩) n1 c1) ∧ w'.cell? ⟨w2.heap.size, 1, none⟩ = some (.slice (some ⟨b2, o2, none⟩) n2 c2) ∧ w'.cell? ⟨b1, o1 + k, none⟩ = some (.int .i64 a) ∧ w'.cell? ⟨b2, o2 + k, none⟩ = some (.int .i64 h)))
    have Jd := J.below (Below.refl wr.heap.size wr).drew hwz
    have e1 : IntKind.i64.wrap (h - a) = h - a := IntWalk.i64_in _ (by omega)
    have e2 : IntKind.i64.wrap (h - a + 1) = h - a + 1 := IntWalk.i64_in _ (by omega)
    obtain ⟨M, hM⟩ : ∃ M : Int, (if (1 : Int) < h - a + 1 then h - a + 1 else 1) = M := ⟨_, rfl⟩
    have hM1 : 1 ≤ M ∧ M ≤ 10 := by rw [← hM]; split <;> omega
    have hk1' : (k : Int) < (n1 : Int) := by omega
    have hk2' : (k : Int) < (n2 : Int) := by omega
    go_wp2_with fail
    refine hbg HSS.out ⟨_, _, _, _, Jd⟩ (fun hHeld => ?_)
    refine tka 0 28 hHeld ?_; simp only [putS]
    refine tka 1 29 hHeld ?_; simp only [putS]
    refine tka 2 30 hHeld ?_; simp only [putS]
    refine tka 3 31 hHeld ?_; simp only [putS]
    refine tka 4 32 hHeld ?_; simp only [putS]
    refine tka 5 33 hHeld ?_; simp only [putS]
    refine tka 6 34 hHeld ?_; simp only [putS]
    refine tka 7 35 hHeld ?_; simp only [putS]
    refine tka 8 36 hHeld ?_; simp only [putS]
    refine tka 9 37 hHeld ?_; simp only [putS]
    refine tka 10 38 hHeld ?_; simp only [putS]
    refine tka 11 39 hHeld ?_; simp only [putS]
    refine tka 12 40 hHeld ?_; simp only [putS]
    refine tka 13 41 hHeld ?_; simp only [putS]
    refine tka 14 42 hHeld ?_; simp only [putS]
    refine tka 15 43 hHeld ?_; simp only [putS]
    refine tka 16 44 hHeld ?_; simp only [putS]
    refine tka 17 45 hHeld ?_; simp only [putS]
    refine tka 18 46 hHeld ?_; simp only [putS]
    refine tka 19 47 hHeld ?_; simp only [putS]
    refine wpAnyH_ready (rs := [20]) (by kernel_rfl) (by simp) ?_
    refine AllReadyH.cons (o := ⟨some 48, _, _, _, _, _⟩) rfl (fun K hK => ?_) AllReadyH.nil
    clear hHeld
    go_simp
    refine (l1Below_c g M _ (by omega) Jd.cur).mono ?_
    rintro e w6 ⟨y, rfl, ⟨y0, _, y1⟩, cu, ch⟩
    have J6 := Jd.step HFP.out HX.out ch cu
    have y2 := y1 (by omega)
    have hwz6 := J6.be.size
    clear y1 cu ch
    go_wp2_with fail
    refine hK.out _ _ (HSS.out _ ⟨_, _, _, _, J6⟩) (fun hHeld => ?_)
    clear hK K
    try simp only [putS]
    have e3 : IntKind.i64.wrap (a + y) = a + y := IntWalk.i64_in _ (by omega)
    have hay : I64 (a + y) := by unfold I64; omega
    refine tka 21 49 hHeld ?_; simp only [putS]
    have hAl := (Below.refl w6.heap.size w6).alloc (Nat.le_refl _) (.cells #[.int .i64 (a + y)] 3)
    have J7 := J6.below hAl hwz6
    refine wpAnyH_ready (rs := [22]) (by kernel_rfl) (by simp) ?_
    refine AllReadyH.cons (o := ⟨some 50, _, _, _, _, _⟩) rfl (fun K hK => ?_) AllReadyH.nil
    clear hHeld
    go_simp
    refine hK.out _ _ (HSS.out _ ⟨_, _, _, _, J7⟩) (fun hHeld => ?_)
    clear hK K
    try simp only [putS]
    refine wpAnyH_ready (rs := [23]) (by kernel_rfl) (by simp) ?_
    refine AllReadyH.cons (o := ⟨some 51, _, _, _, _, _⟩) rfl (fun K hK => ?_) AllReadyH.nil
    clear hHeld
    refine step_appL (by rfl) _ _ 24 (by rfl) _ 8 eiInt rInt_ok (by rfl) J6.ms hAl J6.sz ⟨w6.heap.size, 0, none⟩ (by rfl) (f := []) (cs := [.int .i64 (a + y)]) (y := a + y) ⟨rfl, rfl, hay⟩ (Fr.nil _) (cells_new _ _ _) (by unfold NB; omega) (Nat.le_refl _) (by omega) ?_
    intro A9 c9 w9 hM9 hb9 hg9 hA9
    have J9 := J7.grow HFP.out HX.out hM9 hb9
    refine hK.out _ _ (HSS.out _ ⟨_, _, _, _, J9⟩) (fun hHeld => ?_)
    clear hK K
    try simp only [putS]
    refine tka 24 7 hHeld ?_; simp only [putS]
    refine wpAnyH_done (by kernel_rfl) ?_ _
    clear hHeld
    clear HSS J7 J6 Jd J e1 e2 e3 hM hAl
    go_wp2
    go_roundw
    case rel => exact ⟨k + 1, _, _, _, c9, by omega, rfl, by go_num, rfl, J9⟩
    case measure => simp [intOf]; omega
   ·have hk2' : ¬ (k : Int) < (n2 : Int) := by omega
    go_upto_region 8 with fail
    by_cases hp : 0 < k
    ·have hp' : (0 : Int) < (k : Int) := by omega
     go_wp2_with fail
     refine (l1Once_c g 5 _ (by omega) J.cur).mono ?_
     rintro e w5 ⟨b, rfl, cu, ch⟩
     have J5 := J.step HFP.out HX.out ch cu
     clear cu ch J
     cases b
     ·have hwq : w.heap.size ≤ w5.heap.size := J5.be.size
      have Jq := J5.below (Below.refl w5.heap.size w5).drew hwq
      have rf0 := Jq.kR.frozen 0
      have rf1 := Jq.kR.frozen 1
      have rc0 := Jq.kR.bx 0 _ rfl
      have rc1 := Jq.kR.bx 1 _ rfl
      have sc1 := J5.kR.bx 1 _ rfl
      have sf1 := J5.kR.frozen 1
      have HSS := Lib.hid (fun (w' : World) (hh2 : Bk w' w2.heap.size 26 [.slice A1 n1 c1, .slice A2 n2 c2]) => (⟨hh2.bx 0 _ rfl, hh2.bx 1 _ rfl⟩ : w'.cell? ⟨w2.heap.size, 0, none⟩ = some (.slice A1 n1 c1) ∧ w'.cell? ⟨w2.heap.size, 1, none⟩ = some (.slice A2 n2 c2)))
      have bk9 := (Jq.kR.set 0 (.slice A1 n1 c1)).set 1 (.slice A2 n2 c2)
      have kB9 : Bk ((w5.drew.setCell ⟨w.heap.size, 0, none⟩ (.slice A1 n1 c1)).setCell ⟨w.heap.size, 1, none⟩ (.slice A2 n2 c2)) w2.heap.size 26 [.slice A1 n1 c1, .slice A2 n2 c2] := ((heap_setCell_other _ ⟨w.heap.size, 1, none⟩ w2.heap.size _ (fun e => by have := HX.out.2.1; simp at e; omega)).trans (heap_setCell_other _ ⟨w.heap.size, 0, none⟩ w2.heap.size _ (fun e => by have := HX.out.2.1; simp at e; omega))).trans Jq.kB
      have F9 := Jq.fin HFP.out HX.out hfit hN (.slice A1 n1 c1) (.slice A2 n2 c2)
      go_wp2_with fail
      refine hbg HSS.out Jq.kB (fun hHeld => ?_)
      refine tka 0 67 hHeld ?_; simp only [putS]
      refine tka 1 68 hHeld ?_; simp only [putS]
      refine tka 2 69 hHeld ?_; simp only [putS]
      refine tka 3 2 hHeld ?_; simp only [putS]
      refine wpAnyH_ready (rs := [4]) (by kernel_rfl) (by simp) ?_
      refine AllReadyH.cons (o := ⟨none, _, _, _, _, _⟩) rfl (fun K hK => ?_) AllReadyH.nil
      clear hHeld
      go_simp
      refine hK.out _ _ (HSS.out _ kB9) (fun hHeld => ?_)
      clear hK K
      try simp only [putS]
      refine tka 5 4 hHeld ?_; simp only [putS]
      refine wpAnyH_done (by kernel_rfl) ?_ _
      clear hHeld
      go_wp2
      have bk8 := J5.kR.set 0 (.slice A1 n1 c1)
      have p0 := bk8.bx 0 _ rfl
      have q0 := (bk8.set 1 (.slice A2 n2 c2)).bx 0 _ rfl
      have q1 := (bk8.set 1 (.slice A2 n2 c2)).bx 1 _ rfl
      refine bodyPost_ret (v := .tuple #[.pointer (some ⟨g, 0, none⟩), .agg #[.slice A1 n1 c1, .slice A2 n2 c2], .slice AL k cL]) (by simp [results, Try.results64, go_sem, p0, q0, q1]) rfl ?_
      exact F9
     ·go_wp2_with fail
      refine (l1Below_c g (k : Int) _ (by omega) J5.cur).mono ?_
      rintro e w6 ⟨m, rfl, ⟨m0, _, m1⟩, cu, ch⟩
      have J6 := J5.step HFP.out HX.out ch cu
      have m2 := m1 (by omega)
      obtain ⟨mm, rfl⟩ : ∃ mm : Nat, m = (mm : Int) := ⟨m.toNat, by omega⟩
      have hmm : mm < k := by omega
      clear cu ch J5 m1
      go_wp2_with fail
      refine (l1Below_c g 9 _ (by omega) J6.cur).mono ?_
      rintro e w7 ⟨y, rfl, ⟨y0, y9, _⟩, cu, ch⟩
      have J7 := J6.step HFP.out HX.out ch cu
      clear cu ch J6
      have hy : I64 y := by unfold I64; omega
      obtain ⟨gL, eL, hgL, hgB⟩ := J7.ms.form hp
      subst eL
      have fz := J7.ms.frozen mm
      obtain ⟨x7, hc7, _, _⟩ := J7.ms.celli hmm
      have J8 := J7.grow HFP.out HX.out (J7.ms.set mm hy) ((Below.refl _ _).setCell hgB _)
      clear J7
      go_upto_region 10 with fail
      obtain ⟨w8, hw8⟩ : ∃ W, W = w7.setCell ⟨gL, mm, none⟩ (.int .i64 y) := ⟨_, rfl⟩
      rw [← hw8] at J8 ⊢
      clear hw8 fz hc7
      have hwq : w.heap.size ≤ w8.heap.size := J8.be.size
      have Jq := J8.below (Below.refl w8.heap.size w8).drew hwq
      have rf0 := Jq.kR.frozen 0
      have rf1 := Jq.kR.frozen 1
      have rc0 := Jq.kR.bx 0 _ rfl
      have rc1 := Jq.kR.bx 1 _ rfl
      have sc1 := J8.kR.bx 1 _ rfl
      have sf1 := J8.kR.frozen 1
      have HSS := Lib.hid (fun (w' : World) (hh2 : Bk w' w2.heap.size 26 [.slice A1 n1 c1, .slice A2 n2 c2]) => (⟨hh2.bx 0 _ rfl, hh2.bx 1 _ rfl⟩ : w'.cell? ⟨w2.heap.size, 0, none⟩ = some (.slice A1 n1 c1) ∧ w'.cell? ⟨w2.heap.size, 1, none⟩ = some (.slice A2 n2 c2)))
      have bk9 := (Jq.kR.set 0 (.slice A1 n1 c1)).set 1 (.slice A2 n2 c2)
      have kB9 : Bk ((w8.drew.setCell ⟨w.heap.size, 0, none⟩ (.slice A1 n1 c1)).setCell ⟨w.heap.size, 1, none⟩ (.slice A2 n2 c2)) w2.heap.size 26 [.slice A1 n1 c1, .slice A2 n2 c2] := ((heap_setCell_other _ ⟨w.heap.size, 1, none⟩ w2.heap.size _ (fun e => by have := HX.out.2.1; simp at e; omega)).trans (heap_setCell_other _ ⟨w.heap.size, 0, none⟩ w2.heap.size _ (fun e => by have := HX.out.2.1; simp at e; omega))).trans Jq.kB
      have F9 := Jq.fin HFP.out HX.out hfit hN (.slice A1 n1 c1) (.slice A2 n2 c2)
      go_wp2_with fail
      refine hbg HSS.out Jq.kB (fun hHeld => ?_)
      refine tka 0 67 hHeld ?_; simp only [putS]
      refine tka 1 68 hHeld ?_; simp only [putS]
      refine tka 2 69 hHeld ?_; simp only [putS]
      refine tka 3 2 hHeld ?_; simp only [putS]
      refine wpAnyH_ready (rs := [4]) (by kernel_rfl) (by simp) ?_
      refine AllReadyH.cons (o := ⟨none, _, _, _, _, _⟩) rfl (fun K hK => ?_) AllReadyH.nil
      clear hHeld
      go_simp
      refine hK.out _ _ (HSS.out _ kB9) (fun hHeld => ?_)
      clear hK K
      try simp only [putS]
      refine tka 5 4 hHeld ?_; simp only [putS]
      refine wpAnyH_done (by kernel_rfl) ?_ _
      clear hHeld
      go_wp2
      have bk8 := J8.kR.set 0 (.slice A1 n1 c1)
      have p0 := bk8.bx 0 _ rfl
      have q0 := (bk8.set 1 (.slice A2 n2 c2)).bx 0 _ rfl
      have q1 := (bk8.set 1 (.slice A2 n2 c2)).bx 1 _ rfl
      refine bodyPost_ret (v := .tuple #[.pointer (some ⟨g, 0, none⟩), .agg #[.slice A1 n1 c1, .slice A2 n2 c2], .slice (some ⟨gL, 0, none⟩) k cL]) (by simp [results, Try.results64, go_sem, p0, q0, q1]) rfl ?_
      exact F9
    ·have hp' : ¬ (0 : Int) < (k : Int) := by omega
     have hwq : w.heap.size ≤ wr.heap.size := J.be.size
     have Jq := J.below (Below.refl wr.heap.size wr).drew hwq
     have rf0 := Jq.kR.frozen 0
     have rf1 := Jq.kR.frozen 1
     have rc0 := Jq.kR.bx 0 _ rfl
     have rc1 := Jq.kR.bx 1 _ rfl
     have sc1 := J.kR.bx 1 _ rfl
     have sf1 := J.kR.frozen 1
     have HSS := Lib.hid (fun (w' : World) (hh2 : Bk w' w2.heap.size 26 [.slice A1 n1 c1, .slice A2 n2 c2]) => (⟨hh2.bx 0 _ rfl, hh2.bx 1 _ rfl⟩ : w'.cell? ⟨w2.heap.size, 0, none⟩ = some (.slice A1 n1 c1) ∧ w'.cell? ⟨w2.heap.size, 1, none⟩ = some (.slice A2 n2 c2)))
     have bk9 := (Jq.kR.set 0 (.slice A1 n1 c1)).set 1 (.slice A2 n2 c2)
     have kB9 : Bk ((wr.drew.setCell ⟨w.heap.size, 0, none⟩ (.slice A1 n1 c1)).setCell ⟨w.heap.size, 1, none⟩ (.slice A2 n2 c2)) w2.heap.size 26 [.slice A1 n1 c1, .slice A2 n2 c2] := ((heap_setCell_other _ ⟨w.heap.size, 1, none⟩ w2.heap.size _ (fun e => by have := HX.out.2.1; simp at e; omega)).trans (heap_setCell_other _ ⟨w.heap.size, 0, none⟩ w2.heap.size _ (fun e => by have := HX.out.2.1; simp at e; omega))).trans Jq.kB
     have F9 := Jq.fin HFP.out HX.out hfit hN (.slice A1 n1 c1) (.slice A2 n2 c2)
     go_wp2_with fail
     refine hbg HSS.out Jq.kB (fun hHeld => ?_)
     refine tka 0 67 hHeld ?_; simp only [putS]
     refine tka 1 68 hHeld ?_; simp only [putS]
     refine tka 2 69 hHeld ?_; simp only [putS]
     refine tka 3 2 hHeld ?_; simp only [putS]
     refine wpAnyH_ready (rs := [4]) (by kernel_rfl) (by simp) ?_
     refine AllReadyH.cons (o := ⟨none, _, _, _, _, _⟩) rfl (fun K hK => ?_) AllReadyH.nil
     clear hHeld
     go_simp
     refine hK.out _ _ (HSS.out _ kB9) (fun hHeld => ?_)
     clear hK K
     try simp only [putS]
     refine tka 5 4 hHeld ?_; simp only [putS]
     refine wpAnyH_done (by kernel_rfl) ?_ _
     clear hHeld
     go_wp2
     have bk8 := J.kR.set 0 (.slice A1 n1 c1)
     have p0 := bk8.bx 0 _ rfl
     have q0 := (bk8.set 1 (.slice A2 n2 c2)).bx 0 _ rfl
     have q1 := (bk8.set 1 (.slice A2 n2 c2)).bx 1 _ rfl
     refine bodyPost_ret (v := .tuple #[.pointer (some ⟨g, 0, none⟩), .agg #[.slice A1 n1 c1, .slice A2 n2 c2], .slice AL k cL]) (by simp [results, Try.results64, go_sem, p0, q0, q1]) rfl ?_
     exact F9
  ·have hk1' : ¬ (k : Int) < (n1 : Int) := by omega
   go_upto_region 8 with fail
   by_cases hp : 0 < k
   ·have hp' : (0 : Int) < (k : Int) := by omega
    go_wp2_with fail
    refine (l1Once_c g 5 _ (by omega) J.cur).mono ?_
    rintro e w5 ⟨b, rfl, cu, ch⟩
    have J5 := J.step HFP.out HX.out ch cu
    clear cu ch J
    cases b
    ·have hwq : w.heap.size ≤ w5.heap.size := J5.be.size
     have Jq := J5.below (Below.refl w5.heap.size w5).drew hwq
     have rf0 := Jq.kR.frozen 0
     have rf1 := Jq.kR.frozen 1
     have rc0 := Jq.kR.bx 0 _ rfl
     have rc1 := Jq.kR.bx 1 _ rfl
     have sc1 := J5.kR.bx 1 _ rfl
     have sf1 := J5.kR.frozen 1
     have HSS := Lib.hid (fun (w' : World) (hh2 : Bk w' w2.heap.size 26 [.slice A1 n1 c1, .slice A2 n2 c2]) => (⟨hh2.bx 0 _ rfl, hh2.bx 1 _ rfl⟩ : w'.cell? ⟨w2.heap.size, 0, none⟩ = some (.slice A1 n1 c1) ∧ w'.cell? ⟨w2.heap.size, 1, none⟩ = some (.slice A2 n2 c2)))
     have bk9 := (Jq.kR.set 0 (.slice A1 n1 c1)).set 1 (.slice A2 n2 c2)
     have kB9 : Bk ((w5.drew.setCell ⟨w.heap.size, 0, none⟩ (.slice A1 n1 c1)).setCell ⟨w.heap.size, 1, none⟩ (.slice A2 n2 c2)) w2.heap.size 26 [.slice A1 n1 c1, .slice A2 n2 c2] := ((heap_setCell_other _ ⟨w.heap.size, 1, none⟩ w2.heap.size _ (fun e => by have := HX.out.2.1; simp at e; omega)).trans (heap_setCell_other _ ⟨w.heap.size, 0, none⟩ w2.heap.size _ (fun e => by have := HX.out.2.1; simp at e; omega))).trans Jq.kB
     have F9 := Jq.fin HFP.out HX.out hfit hN (.slice A1 n1 c1) (.slice A2 n2 c2)
     go_wp2_with fail
     refine hbg HSS.out Jq.kB (fun hHeld => ?_)
     refine tka 0 67 hHeld ?_; simp only [putS]
     refine tka 1 68 hHeld ?_; simp only [putS]
     refine tka 2 69 hHeld ?_; simp only [putS]
     refine tka 3 2 hHeld ?_; simp only [putS]
     refine wpAnyH_ready (rs := [4]) (by kernel_rfl) (by simp) ?_
     refine AllReadyH.cons (o := ⟨none, _, _, _, _, _⟩) rfl (fun K hK => ?_) AllReadyH.nil
     clear hHeld
     go_simp
     refine hK.out _ _ (HSS.out _ kB9) (fun hHeld => ?_)
     clear hK K
     try simp only [putS]
     refine tka 5 4 hHeld ?_; simp only [putS]
     refine wpAnyH_done (by kernel_rfl) ?_ _
     clear hHeld
     go_wp2
     have bk8 := J5.kR.set 0 (.slice A1 n1 c1)
     have p0 := bk8.bx 0 _ rfl
     have q0 := (bk8.set 1 (.slice A2 n2 c2)).bx 0 _ rfl
     have q1 := (bk8.set 1 (.slice A2 n2 c2)).bx 1 _ rfl
     refine bodyPost_ret (v := .tuple #[.pointer (some ⟨g, 0, none⟩), .agg #[.slice A1 n1 c1, .slice A2 n2 c2], .slice AL k cL]) (by simp [results, Try.results64, go_sem, p0, q0, q1]) rfl ?_
     exact F9
    ·go_wp2_with fail
     refine (l1Below_c g (k : Int) _ (by omega) J5.cur).mono ?_
     rintro e w6 ⟨m, rfl, ⟨m0, _, m1⟩, cu, ch⟩
     have J6 := J5.step HFP.out HX.out ch cu
     have m2 := m1 (by omega)
     obtain ⟨mm, rfl⟩ : ∃ mm : Nat, m = (mm : Int) := ⟨m.toNat, by omega⟩
     have hmm : mm < k := by omega
     clear cu ch J5 m1
     go_wp2_with fail
     refine (l1Below_c g 9 _ (by omega) J6.cur).mono ?_
     rintro e w7 ⟨y, rfl, ⟨y0, y9, _⟩, cu, ch⟩
     have J7 := J6.step HFP.out HX.out ch cu
     clear cu ch J6
     have hy : I64 y := by unfold I64; omega
     obtain ⟨gL, eL, hgL, hgB⟩ := J7.ms.form hp
     subst eL
     have fz := J7.ms.frozen mm
     obtain ⟨x7, hc7, _, _⟩ := J7.ms.celli hmm
     have J8 := J7.grow HFP.out HX.out (J7.ms.set mm hy) ((Below.refl _ _).setCell hgB _)
     clear J7
     go_upto_region 10 with fail
     obtain ⟨w8, hw8⟩ : ∃ W, W = w7.setCell ⟨gL, mm, none⟩ (.int .i64 y) := ⟨_, rfl⟩
     rw [← hw8] at J8 ⊢
     clear hw8 fz hc7
     have hwq : w.heap.size ≤ w8.heap.size := J8.be.size
     have Jq := J8.below (Below.refl w8.heap.size w8).drew hwq
     have rf0 := Jq.kR.frozen 0
     have rf1 := Jq.kR.frozen 1
     have rc0 := Jq.kR.bx 0 _ rfl
     have rc1 := Jq.kR.bx 1 _ rfl
     have sc1 := J8.kR.bx 1 _ rfl
     have sf1 := J8.kR.frozen 1
     have HSS := Lib.hid (fun (w' : World) (hh2 : Bk w' w2.heap.size 26 [.slice A1 n1 c1, .slice A2 n2 c2]) => (⟨hh2.bx 0 _ rfl, hh2.bx 1 _ rfl⟩ : w'.cell? ⟨w2.heap.size, 0, none⟩ = some (.slice A1 n1 c1) ∧ w'.cell? ⟨w2.heap.size, 1, none⟩ = some (.slice A2 n2 c2)))
     have bk9 := (Jq.kR.set 0 (.slice A1 n1 c1)).set 1 (.slice A2 n2 c2)
     have kB9 : Bk ((w8.drew.setCell ⟨w.heap.size, 0, none⟩ (.slice A1 n1 c1)).setCell ⟨w.heap.size, 1, none⟩ (.slice A2 n2 c2)) w2.heap.size 26 [.slice A1 n1 c1, .slice A2 n2 c2] := ((heap_setCell_other _ ⟨w.heap.size, 1, none⟩ w2.heap.size _ (fun e => by have := HX.out.2.1; simp at e; omega)).trans (heap_setCell_other _ ⟨w.heap.size, 0, none⟩ w2.heap.size _ (fun e => by have := HX.out.2.1; simp at e; omega))).trans Jq.kB
     have F9 := Jq.fin HFP.out HX.out hfit hN (.slice A1 n1 c1) (.slice A2 n2 c2)
     go_wp2_with fail
     refine hbg HSS.out Jq.kB (fun hHeld => ?_)
     refine tka 0 67 hHeld ?_; simp only [putS]
     refine tka 1 68 hHeld ?_; simp only [putS]
     refine tka 2 69 hHeld ?_; simp only [putS]
     refine tka 3 2 hHeld ?_; simp only [putS]
     refine wpAnyH_ready (rs := [4]) (by kernel_rfl) (by simp) ?_
     refine AllReadyH.cons (o := ⟨none, _, _, _, _, _⟩) rfl (fun K hK => ?_) AllReadyH.nil
     clear hHeld
     go_simp
     refine hK.out _ _ (HSS.out _ kB9) (fun hHeld => ?_)
     clear hK K
     try simp only [putS]
     refine tka 5 4 hHeld ?_; simp only [putS]
     refine wpAnyH_done (by kernel_rfl) ?_ _
     clear hHeld
     go_wp2
     have bk8 := J8.kR.set 0 (.slice A1 n1 c1)
     have p0 := bk8.bx 0 _ rfl
     have q0 := (bk8.set 1 (.slice A2 n2 c2)).bx 0 _ rfl
     have q1 := (bk8.set 1 (.slice A2 n2 c2)).bx 1 _ rfl
     refine bodyPost_ret (v := .tuple #[.pointer (some ⟨g, 0, none⟩), .agg #[.slice A1 n1 c1, .slice A2 n2 c2], .slice (some ⟨gL, 0, none⟩) k cL]) (by simp [results, Try.results64, go_sem, p0, q0, q1]) rfl ?_
     exact F9
   ·have hp' : ¬ (0 : Int) < (k : Int) := by omega
    have hwq : w.heap.size ≤ wr.heap.size := J.be.size
    have Jq := J.below (Below.refl wr.heap.size wr).drew hwq
    have rf0 := Jq.kR.frozen 0
    have rf1 := Jq.kR.frozen 1
    have rc0 := Jq.kR.bx 0 _ rfl
    have rc1 := Jq.kR.bx 1 _ rfl
    have sc1 := J.kR.bx 1 _ rfl
    have sf1 := J.kR.frozen 1
    have HSS := Lib.hid (fun (w' : World) (hh2 : Bk w' w2.heap.size 26 [.slice A1 n1 c1, .slice A2 n2 c2]) => (⟨hh2.bx 0 _ rfl, hh2.bx 1 _ rfl⟩ : w'.cell? ⟨w2.heap.size, 0, none⟩ = some (.slice A1 n1 c1) ∧ w'.cell? ⟨w2.heap.size, 1, none⟩ = some (.slice A2 n2 c2)))
    have bk9 := (Jq.kR.set 0 (.slice A1 n1 c1)).set 1 (.slice A2 n2 c2)
    have kB9 : Bk ((wr.drew.setCell ⟨w.heap.size, 0, none⟩ (.slice A1 n1 c1)).setCell ⟨w.heap.size, 1, none⟩ (.slice A2 n2 c2)) w2.heap.size 26 [.slice A1 n1 c1, .slice A2 n2 c2] := ((heap_setCell_other _ ⟨w.heap.size, 1, none⟩ w2.heap.size _ (fun e => by have := HX.out.2.1; simp at e; omega)).trans (heap_setCell_other _ ⟨w.heap.size, 0, none⟩ w2.heap.size _ (fun e => by have := HX.out.2.1; simp at e; omega))).trans Jq.kB
    have F9 := Jq.fin HFP.out HX.out hfit hN (.slice A1 n1 c1) (.slice A2 n2 c2)
    go_wp2_with fail
    refine hbg HSS.out Jq.kB (fun hHeld => ?_)
    refine tka 0 67 hHeld ?_; simp only [putS]
    refine tka 1 68 hHeld ?_; simp only [putS]
    refine tka 2 69 hHeld ?_; simp only [putS]
    refine tka 3 2 hHeld ?_; simp only [putS]
    refine wpAnyH_ready (rs := [4]) (by kernel_rfl) (by simp) ?_
    refine AllReadyH.cons (o := ⟨none, _, _, _, _, _⟩) rfl (fun K hK => ?_) AllReadyH.nil
    clear hHeld
    go_simp
    refine hK.out _ _ (HSS.out _ kB9) (fun hHeld => ?_)
    clear hK K
    try simp only [putS]
    refine tka 5 4 hHeld ?_; simp only [putS]
    refine wpAnyH_done (by kernel_rfl) ?_ _
    clear hHeld
    go_wp2
    have bk8 := J.kR.set 0 (.slice A1 n1 c1)
    have p0 := bk8.bx 0 _ rfl
    have q0 := (bk8.set 1 (.slice A2 n2 c2)).bx 0 _ rfl
    have q1 := (bk8.set 1 (.slice A2 n2 c2)).bx 1 _ rfl
    refine bodyPost_ret (v := .tuple #[.pointer (some ⟨g, 0, none⟩), .agg #[.slice A1 n1 c1, .slice A2 n2 c2], .slice AL k cL]) (by simp [results, Try.results64, go_sem, p0, q0, q1]) rfl ?_
    exact F9
end Go.Proofs.Ytkdajdafhjobbaa
