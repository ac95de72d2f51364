/-
  Bxd
-/
import Derived.Test.YtkdajdafhjobbaaDrw
import Derived.Test.YtkdajdafhjobbaaKeep
import Derived.Test.YtkdajdafhjobbaaApply
import Derived.Test.YtkdajdafhjobbaaBox
import Derived.Deep.Cut
namespace Go.Proofs.Ytkdajdafhjobbaa
open Go.RowKit
set_option linter.unusedVariables false
set_option linter.unusedSimpArgs false

theorem Cur.low {w w' : World} {g B : Nat} (h : Cur w g) (hg : g < B) (hb : Below B w w') : Cur w' g := by
 obtain ⟨A, n, c, l, i, h, h1, h2, h3, h4, h5⟩ := h
 exact ⟨A, n, c, l, i, h, (hb.block g hg).trans h1, h2.belowB hb (fun k hk hn => Nat.lt_trans (h5 k hk hn) hg), h3, h4, h5⟩
theorem osI_ne {M : Nat} {eI t : TypeId} {w : World} {A : Option Addr} {n cap : Nat} {l : List Int} {g : Nat} {cs : List Value} {fp : List Nat} (o : OS M eI rInt w fp A n cap l) (hk : Bk w g t cs) (h2 : t ≠ eI) : g ∉ blk A := by
 obtain ⟨e1, _, hown, _⟩ := osInt.1 o
 subst e1
 intro hm
 rcases hown.2 with ⟨e1, _⟩ | ⟨g', c, cur, e1, _, q, _⟩
 ·injection e1 with e1; subst e1; simp [blk] at hm
 ·injection e1 with e1; subst e1
  simp [blk] at hm; subst hm
  unfold Bk at hk; rw [hk] at q
  injection q with q; injection q with q1 q2; exact h2 q2
theorem MS.bI {B M : Nat} {e : TypeId} {w : World} {A : Option Addr} {n cap : Nat} {l : List Int} (h : MS B M e rInt w A n cap l) : OS M e rInt w (blk A) A n cap l ∧ (∀ k ∈ blk A, B ≤ k ∧ k < w.heap.size) := by
 obtain ⟨fp, o, f⟩ := h
 have e := (osInt.1 o).1
 subst e
 exact ⟨o, fun k hk => ⟨f.ge k hk, o.lt rInt_ok k hk⟩⟩
theorem MS.keepI {B M : Nat} {e : TypeId} {w w' : World} {A : Option Addr} {n cap : Nat} {l : List Int} (h : MS B M e rInt w A n cap l) (hk : ∀ k ∈ blk A, w'.heap[k]? = w.heap[k]?) : MS B M e rInt w' A n cap l := by
 obtain ⟨fp, o, f⟩ := h
 have e := (osInt.1 o).1
 subst e
 exact ⟨_, o.okeep rInt_ok hk, f⟩
theorem neB1 : (26 : TypeId) ≠ 3 := by decide
/-- the walk's world in l20Box -/
structure Bxl (w0 : World) (g gO : Nat) (lo hi : List Int) (AL : Option Addr) (nL cL : Nat) (AH : Option Addr) (nH cH : Nat) (wr : World) : Prop where
 kO : Bk wr gO 26 [.slice AL nL cL, .slice AH nH cH]
 mL : MS w0.heap.size NB 3 rInt wr AL nL cL lo
 mH : MS w0.heap.size NB 3 rInt wr AH nH cH hi
 dj : ∀ k ∈ blk AL, k ∉ blk AH
 cur : Cur wr g
 chg : Chg [g] w0 wr
section
variable {w0 wr w' wA : World} {g gO : Nat} {lo hi lo' hi' : List Int} {AL AH A' : Option Addr} {nL cL nH cH n' c' : Nat}
theorem Bxl.step (h : Bxl w0 g gO lo hi AL nL cL AH nH cH wr) (hg : g < w0.heap.size) (hO : w0.heap.size ≤ gO) (hc : Chg [g] wr w') (cu : Cur w' g) : Bxl w0 g gO lo hi AL nL cL AH nH cH w' :=
 ⟨h.kO.chg hc (by simp; omega), h.mL.keepI (fun k hk => hc.block k (h.mL.bI.2 k hk).2 (by have := (h.mL.bI.2 k hk).1; simp; omega)), h.mH.keepI (fun k hk => hc.block k (h.mH.bI.2 k hk).2 (by have := (h.mH.bI.2 k hk).1; simp; omega)), h.dj, cu, h.chg.trans hc⟩
theorem Bxl.below (h : Bxl w0 g gO lo hi AL nL cL AH nH cH wr) (hb : Below wr.heap.size wr w') : Bxl w0 g gO lo hi AL nL cL AH nH cH w' :=
 ⟨h.kO.below hb, h.mL.below rInt_ok hb, h.mH.below rInt_ok hb, h.dj, h.cur.below hb, h.chg.trans (Chg.ofBelow hb _)⟩
theorem Chg.low {w0 wA w' : World} {g : Nat} (h : Chg [g] w0 wA) (hb : Below w0.heap.size wA w') : Chg [g] w0 w' :=
 ⟨hb.os.trans h.os, hb.tape.trans h.tape, hb.output.trans h.output, Nat.le_trans h.size hb.size, fun k hk hn => (hb.block k hk).trans (h.block k hk hn)⟩
/-- behind an append to the lows, and its store -/
theorem Bxl.appL (h : Bxl w0 g gO lo hi AL nL cL AH nH cH wA) (hg0 : g < w0.heap.size) (hO : w0.heap.size ≤ gO) (hm : MS w0.heap.size NB 3 rInt w' A' n' c' lo') (hb : Below w0.heap.size wA w') (hgr : wA.grownBy w' (AL.map (·.block)))
  (hA : A'.map (·.block) = AL.map (·.block) ∨ A'.map (·.block) = some wA.heap.size) :
  Bk w' gO 26 [.slice AL nL cL, .slice AH nH cH] ∧ Bxl w0 g gO lo' hi A' n' c' AH nH cH (w'.setCell ⟨gO, 0, none⟩ (.slice A' n' c')) := by
 have n1 := osI_ne h.mL.bI.1 h.kO neB1
 have k1 : Bk w' gO 26 [.slice AL nL cL, .slice AH nH cH] := (hgr.block gO h.kO.lt (fun e => n1 (mem_blk.2 e.symm))).trans h.kO
 have m2 : MS w0.heap.size NB 3 rInt w' AH nH cH hi := h.mH.keepI (fun k hk => hgr.block k (h.mH.bI.2 k hk).2 (fun e => h.dj k (mem_blk.2 e.symm) hk))
 have d2 : ∀ k ∈ blk A', k ∉ blk AH := by
  intro k hk hk2
  have h1 := mem_blk.1 hk
  rcases hA with e | e
  ·exact h.dj k (mem_blk.2 (e ▸ h1)) hk2
  ·rw [e] at h1; injection h1 with h1; have := (h.mH.bI.2 k hk2).2; omega
 have hs : ∀ k, k ≠ gO → (w'.setCell ⟨gO, 0, none⟩ (.slice A' n' c')).heap[k]? = w'.heap[k]? := fun k hk => heap_setCell_other _ _ _ _ (fun e => hk e)
 have b2 : Below w0.heap.size w' (w'.setCell ⟨gO, 0, none⟩ (.slice A' n' c')) := (Below.refl _ _).setCell hO _
 have n2 := osI_ne hm.bI.1 k1 neB1
 have n3 := osI_ne m2.bI.1 k1 neB1
 exact ⟨k1, k1.set 0 _, hm.keepI (fun k hk => hs k (fun e => n2 (e ▸ hk))), m2.keepI (fun k hk => hs k (fun e => n3 (e ▸ hk))), d2, (h.cur.low hg0 hb).low hg0 b2, (h.chg.low hb).low b2⟩
/-- behind an append to the highs, and its store -/
theorem Bxl.appH (h : Bxl w0 g gO lo hi AL nL cL AH nH cH wA) (hg0 : g < w0.heap.size) (hO : w0.heap.size ≤ gO) (hm : MS w0.heap.size NB 3 rInt w' A' n' c' hi') (hb : Below w0.heap.size wA w') (hgr : wA.grownBy w' (AH.map (·.block)))
  (hA : A'.map (·.block) = AH.map (·.block) ∨ A'.map (·.block) = some wA.heap.size) :
  Bk w' gO 26 [.slice AL nL cL, .slice AH nH cH] ∧ Bxl w0 g gO lo hi' AL nL cL A' n' c' (w'.setCell ⟨gO, 1, none⟩ (.slice A' n' c')) := by
 have n1 := osI_ne h.mH.bI.1 h.kO neB1
 have k1 : Bk w' gO 26 [.slice AL nL cL, .slice AH nH cH] := (hgr.block gO h.kO.lt (fun e => n1 (mem_blk.2 e.symm))).trans h.kO
 have m2 : MS w0.heap.size NB 3 rInt w' AL nL cL lo := h.mL.keepI (fun k hk => hgr.block k (h.mL.bI.2 k hk).2 (fun e => h.dj k hk (mem_blk.2 e.symm)))
 have d2 : ∀ k ∈ blk AL, k ∉ blk A' := by
  intro k hk2 hk
  have h1 := mem_blk.1 hk
  rcases hA with e | e
  ·exact h.dj k hk2 (mem_blk.2 (e ▸ h1))
  ·rw [e] at h1; injection h1 with h1; have := (h.mL.bI.2 k hk2).2; omega
 have hs : ∀ k, k ≠ gO → (w'.setCell ⟨gO, 1, none⟩ (.slice A' n' c')).heap[k]? = w'.heap[k]? := fun k hk => heap_setCell_other _ _ _ _ (fun e => hk e)
 have b2 : Below w0.heap.size w' (w'.setCell ⟨gO, 1, none⟩ (.slice A' n' c')) := (Below.refl _ _).setCell hO _
 have n2 := osI_ne hm.bI.1 k1 neB1
 have n3 := osI_ne m2.bI.1 k1 neB1
 exact ⟨k1, k1.set 1 _, m2.keepI (fun k hk => hs k (fun e => n3 (e ▸ hk))), hm.keepI (fun k hk => hs k (fun e => n2 (e ▸ hk))), d2, (h.cur.low hg0 hb).low hg0 b2, (h.chg.low hb).low b2⟩
end
end Go.Proofs.Ytkdajdafhjobbaa
