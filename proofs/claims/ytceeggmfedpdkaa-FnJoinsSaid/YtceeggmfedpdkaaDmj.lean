/-
  Dmj
-/
import Derived.Test.YtceeggmfedpdkaaDst
import Derived.Test.YtceeggmfedpdkaaSrs
import Derived.RegionTactic
import Derived.ChangeAlike
import Derived.BigRegion
namespace Go.Proofs.Ytceeggmfedpdkaa
open Go.RowKit
set_option linter.unusedVariables false
set_option linter.unusedSimpArgs false
/-- a stream in its box at p, beside the cursor g, above R -/
structure Sw (R g p : Nat) (x : StreamD) (A1 : Option Addr) (n1 c1 : Nat) (A2 : Option Addr) (n2 c2 : Nat) (W : World) : Prop where
 k : Bk W p 40 [.slice A1 n1 c1, .slice A2 n2 c2]
 o : ∃ fp, (rStream NB).own W fp [.slice A1 n1 c1, .slice A2 n2 c2] x ∧ ∀ z ∈ fp, R < z ∧ z ≠ g
 ne : R < p ∧ p ≠ g
section
variable {R g p : Nat} {x : StreamD} {A1 A2 : Option Addr} {n1 c1 n2 c2 : Nat} {W W' : World}
theorem Sw.chg (h : Sw R g p x A1 n1 c1 A2 n2 c2 W) (hc : Chg [g] W W') : Sw R g p x A1 n1 c1 A2 n2 c2 W' := by
 obtain ⟨fp, o, f⟩ := h.o
 exact ⟨(hc.block _ h.k.lt (by simp; exact h.ne.2)).trans h.k, ⟨fp, (rStream_ok NB).ownC o hc (fun z hz => by simp; exact (f z hz).2), f⟩, h.ne⟩
theorem Sw.below (h : Sw R g p x A1 n1 c1 A2 n2 c2 W) (hb : Below W.heap.size W W') : Sw R g p x A1 n1 c1 A2 n2 c2 W' := h.chg (Chg.ofBelow hb _)
theorem Sw.rep (h : Sw R g p x A1 n1 c1 A2 n2 c2 W) : (rStream NB).rep W [.slice A1 n1 c1, .slice A2 n2 c2] x := by
 obtain ⟨fp, o, f⟩ := h.o
 exact (rStream_ok NB).toRep o
theorem Sw.fin (h : Sw R g p x A1 n1 c1 A2 n2 c2 W) (hk : ∀ z, R < z → W'.heap[z]? = W.heap[z]?) : (rStream NB).rep W' [.slice A1 n1 c1, .slice A2 n2 c2] x := by
 obtain ⟨fp, o, f⟩ := h.o
 exact (rStream_ok NB).toRep ((rStream_ok NB).okeep o (fun z hz => hk z (f z hz).1))
theorem Sw.mk' {B : Nat} {fp : List Nat} (hR : R < B) (hg : g < B) (hB : B ≤ W.heap.size) (o : (rStream NB).own W fp [.slice A1 n1 c1, .slice A2 n2 c2] x) (fr : Fr B fp) (hw : W' = W.alloc (.cells #[.slice A1 n1 c1, .slice A2 n2 c2] 40)) : Sw R g W.heap.size x A1 n1 c1 A2 n2 c2 W' := by
 subst hw
 exact ⟨Bk.new _ _ _, ⟨fp, (rStream_ok NB).ownB o ((Below.refl _ _).alloc (Nat.le_refl _) _), fun z hz => by have := fr.ge z hz; omega⟩, by omega⟩
end
theorem set2_other (w : World) {r z : Nat} {u v : Value} (h : z ≠ r) : (set2 w r u v).heap[z]? = w.heap[z]? := (heap_setCell_other _ ⟨r, 1, none⟩ z _ (fun e => h e)).trans (heap_setCell_other _ ⟨r, 0, none⟩ z _ (fun e => h e))
theorem Bk.past {w : World} {g r : Nat} {t : TypeId} {cs : List Value} (h : Bk w g t cs) (hne : g ≠ r) (u v : Value) : Bk (set2 w r u v) g t cs := (set2_other w hne).trans h
/-- the call under way: its cursor, its two results' boxes -/
structure Dmw (w : World) (g : Nat) (W : World) : Prop where
 cur : Cur W g
 r0 : Bk W w.heap.size 40 [.slice none 0 0, .slice none 0 0]
 r1 : Bk W (w.heap.size + 1) 40 [.slice none 0 0, .slice none 0 0]
 gt : w.heap.size + 1 < g
 be : Below w.heap.size w W
section
variable {w W W' : World} {g : Nat}
theorem Dmw.chg (h : Dmw w g W) (hc : Chg [g] W W') (cu : Cur W' g) : Dmw w g W' := by
 have := h.gt
 exact ⟨cu, (hc.block _ h.r0.lt (by simp; omega)).trans h.r0, (hc.block _ h.r1.lt (by simp; omega)).trans h.r1, h.gt, h.be.trans (hc.toBelow h.be.size (fun k hk => by simp at hk; omega))⟩
theorem Dmw.below (h : Dmw w g W) (hb : Below W.heap.size W W') : Dmw w g W' := h.chg (Chg.ofBelow hb _) (h.cur.below hb)
theorem Dmw.alc (h : Dmw w g W) (o : Obj) : Dmw w g (W.alloc o) := h.below ((Below.refl _ _).alloc (Nat.le_refl _) o)
theorem Dmw.lt (h : Dmw w g W) : w.heap.size + 1 < W.heap.size := Nat.lt_trans h.gt h.cur.lt
end
/-- what is handed back -/
def DrawnM (w : World) (e : Ending) (w' : World) : Prop := ∃ (a b : StreamD) (v : Int) (A1 : Option Addr) (n1 c1 : Nat) (A2 : Option Addr) (n2 c2 : Nat) (A3 : Option Addr) (n3 c3 : Nat) (A4 : Option Addr) (n4 c4 : Nat), e = .returned (.tuple #[.agg #[.slice A1 n1 c1, .slice A2 n2 c2], .agg #[.slice A3 n3 c3, .slice A4 n4 c4], .int .i64 v]) ∧
   (rStream NB).rep w' [.slice A1 n1 c1, .slice A2 n2 c2] a ∧ (rStream NB).rep w' [.slice A3 n3 c3, .slice A4 n4 c4] b ∧ Below w.heap.size w w'
set_option maxRecDepth 100000 in
set_option maxHeartbeats 1600000 in
theorem drawMergeJoin_c (A : Option Addr) (n cap : Nat) (l : List Int) (w : World) (hr : RS NB rByte w A n cap l) :
  Calls Try.prog 13 #[.slice A n cap] w (DrawnM w) := by
 obtain ⟨wa, hwa⟩ : ∃ W, W = w.alloc (.cells #[.slice none 0 0, .slice none 0 0] 40) := ⟨_, rfl⟩
 obtain ⟨wb, hwb⟩ : ∃ W, W = wa.alloc (.cells #[.slice none 0 0, .slice none 0 0] 40) := ⟨_, rfl⟩
 have hsa : wa.heap.size = w.heap.size + 1 := by rw [hwa]; simp
 have hsb : wb.heap.size = w.heap.size + 1 + 1 := by rw [hwb]; simp [hsa]
 have hba : Below w.heap.size w wa := by rw [hwa]; exact (Below.refl _ _).alloc (Nat.le_refl _) _
 have hbb : Below wa.heap.size wa wb := by rw [hwb]; exact (Below.refl _ _).alloc (Nat.le_refl _) _
 have k0 : Bk wb w.heap.size 40 [.slice none 0 0, .slice none 0 0] := Bk.below (by rw [hwa]; exact Bk.new w _ _) hbb
 have k1 : Bk wb (w.heap.size + 1) 40 [.slice none 0 0, .slice none 0 0] := by rw [hwb, ← hsa]; exact Bk.new wa _ _
 have hB := hba.trans (hbb.mono (by omega))
 have hrb := hr.below rByte_ok hB
 go_enter Try.func13, Try.ntmps13
 go_wp2_with fail
 rw [← hwa, ← hwb]
 clear hwa hwb
 refine (l1New_c _ _ _ _ _ hrb).mono ?_
 rintro e w1 ⟨g, rfl, hg, hc, hb1⟩
 have J : Dmw w g w1 := ⟨hc, k0.below hb1, k1.below hb1, by omega, hB.trans (hb1.mono (by omega))⟩
 clear k0 k1 hB hrb hc hb1 hba hbb hsa hsb hg
 go_wp2_with fail
 refine (l27Stream_c g _ J.cur).mono ?_
 rintro e w2 ⟨a, cs, fp, rfl, oA, frA, hc, hC⟩
 obtain ⟨A1, n1, c1, A2, n2, c2, f5, f6, rfl, rfl, _, _⟩ := rStream_own.1 oA
 obtain ⟨w3, hw3⟩ : ∃ W, W = w2.alloc (.cells #[.slice A1 n1 c1, .slice A2 n2 c2] 40) := ⟨_, rfl⟩
 have SA := Sw.mk' J.lt J.cur.lt hC.size oA frA hw3
 replace J := (J.chg hC hc).alc (.cells #[.slice A1 n1 c1, .slice A2 n2 c2] 40)
 rw [← hw3] at J
 clear hc hC oA frA
 go_upto_region 3 with fail
 rw [← hw3]
 clear hw3
 go_wp2_with fail
 refine (l27Stream_c g _ J.cur).mono ?_
 rintro e w4 ⟨b, cs, fp, rfl, oB, frB, hc, hC⟩
 obtain ⟨A3, n3, c3, A4, n4, c4, f5, f6, rfl, rfl, _, _⟩ := rStream_own.1 oB
 obtain ⟨w5, hw5⟩ : ∃ W, W = w4.alloc (.cells #[.slice A3 n3 c3, .slice A4 n4 c4] 40) := ⟨_, rfl⟩
 have SB := Sw.mk' J.lt J.cur.lt hC.size oB frB hw5
 replace SA := (SA.chg hC).below ((Below.refl _ _).alloc (Nat.le_refl _) (.cells #[.slice A3 n3 c3, .slice A4 n4 c4] 40))
 replace J := (J.chg hC hc).alc (.cells #[.slice A3 n3 c3, .slice A4 n4 c4] 40)
 rw [← hw5] at J SA
 clear hc hC oB frB
 go_upto_region 4 with fail
 rw [← hw5]
 clear hw5
 go_wp2_with fail
 refine (l1Below_c g 4 _ (by omega) J.cur).mono ?_
 rintro e w6 ⟨v, rfl, _, hc, hC⟩
 replace SA := SA.chg hC
 replace SB := SB.chg hC
 replace J := J.chg hC hc
 clear hc hC
 have ⟨a0, a1⟩ := SA.k.bx.b2
 go_wp2_with fail
 refine (sSortStream_c _ a v _ SA.rep).mono ?_
 rintro e w7 ⟨cs, fp, rfl, oX, frX, hb⟩
 obtain ⟨A5, n5, c5, A6, n6, c6, f5, f6, rfl, rfl, _, _⟩ := rStream_own.1 oX
 generalize (sortStream a v).1 = x at oX
 generalize (sortStream a v).2 = p
 obtain ⟨w8, hw8⟩ : ∃ W, W = w7.alloc (.cells #[.slice A5 n5 c5, .slice A6 n6 c6] 40) := ⟨_, rfl⟩
 have SX := Sw.mk' J.lt J.cur.lt hb.size oX frX hw8
 have hb2 := (Below.refl w7.heap.size w7).alloc (Nat.le_refl _) (.cells #[.slice A5 n5 c5, .slice A6 n6 c6] 40)
 rw [← hw8] at hb2
 replace SA := (SA.below hb).below hb2
 replace SB := (SB.below hb).below hb2
 replace J := (J.below hb).below hb2
 clear hb hb2 oX frX a0 a1
 go_upto_region 6 with fail
 rw [← hw8]
 clear hw8
 have ⟨b0, b1⟩ := SB.k.bx.b2
 go_wp2_with fail
 refine (sSortStream_c _ b v _ SB.rep).mono ?_
 rintro e w9 ⟨cs, fp, rfl, oY, frY, hb⟩
 obtain ⟨A7, n7, c7, A8, n8, c8, f5, f6, rfl, rfl, _, _⟩ := rStream_own.1 oY
 generalize (sortStream b v).1 = y at oY
 generalize (sortStream b v).2 = q
 obtain ⟨w10, hw10⟩ : ∃ W, W = w9.alloc (.cells #[.slice A7 n7 c7, .slice A8 n8 c8] 40) := ⟨_, rfl⟩
 have SY := Sw.mk' J.lt J.cur.lt hb.size oY frY hw10
 have hb2 := (Below.refl w9.heap.size w9).alloc (Nat.le_refl _) (.cells #[.slice A7 n7 c7, .slice A8 n8 c8] 40)
 rw [← hw10] at hb2
 replace SA := (SA.below hb).below hb2
 replace SB := (SB.below hb).below hb2
 replace SX := (SX.below hb).below hb2
 replace J := (J.below hb).below hb2
 clear hb hb2 oY frY b0 b1
 go_upto_region 7 with fail
 rw [← hw10]
 clear hw10
 have fin : ∀ {p1 p2 : Nat} {x1 x2 : StreamD} {A1 A2 A3 A4 : Option Addr} {n1 c1 n2 c2 n3 c3 n4 c4 : Nat} {W : World}, Dmw w g W → Sw (w.heap.size + 1) g p1 x1 A1 n1 c1 A2 n2 c2 W → Sw (w.heap.size + 1) g p2 x2 A3 n3 c3 A4 n4 c4 W →
   DrawnM w (.returned (.tuple #[.agg #[.slice A1 n1 c1, .slice A2 n2 c2], .agg #[.slice A3 n3 c3, .slice A4 n4 c4], .int .i64 v])) (set2 (set2 W w.heap.size (.slice A1 n1 c1) (.slice A2 n2 c2)) (w.heap.size + 1) (.slice A3 n3 c3) (.slice A4 n4 c4)).drew := fun hJ h1 h2 =>
  ⟨_, _, v, _, _, _, _, _, _, _, _, _, _, _, _, rfl, h1.fin (fun z hz => (set2_other _ (by omega)).trans (set2_other _ (by omega))), h2.fin (fun z hz => (set2_other _ (by omega)).trans (set2_other _ (by omega))), (bls2 (bls2 hJ.be (Nat.le_refl _) _ _) (Nat.le_succ _) _ _).drew⟩
 cases p
 focus go_upto_region 9 with fail
 rotate_left
 cases q
 focus go_upto_region 9 with fail
 rotate_left
 focus
  go_wp2_with fail
  refine (l1Once_c g 5 _ (by omega) J.cur).mono ?_
  rintro e w10 ⟨o, rfl, hc, hC⟩
  replace SA := SA.chg hC
  replace SB := SB.chg hC
  replace SX := SX.chg hC
  replace SY := SY.chg hC
  replace J := J.chg hC hc
  clear hc hC
  cases o
  ·have ⟨a0, a1⟩ := SX.k.bx.b2
   have ⟨b0, b1⟩ := SY.k.bx.b2
   have ⟨x0, y0, x1, y1⟩ := J.r0.r2
   have ⟨x2, y2, x3, y3⟩ := J.r1.r2
   have ⟨b2, b3⟩ := (SY.k.past (r := w.heap.size) (by have := SY.ne; omega) (.slice A5 n5 c5) (.slice A6 n6 c6)).bx.b2
   have k1 := J.r1.past (r := w.heap.size) (by omega) (.slice A5 n5 c5) (.slice A6 n6 c6)
   have ⟨x4, y4, x5, y5⟩ := k1.r2
   have ⟨z0, z1⟩ := (((J.r0.set 0 (.slice A5 n5 c5)).set 1 (.slice A6 n6 c6)).past (r := w.heap.size + 1) (by omega) (.slice A7 n7 c7) (.slice A8 n8 c8)).bx.b2
   have ⟨z2, z3⟩ := k1.s2
   have F := fin J SX SY
   go_wp2
   go_region
   go_wp2
   exact bodyPost_ret (v := _) (by simp [results, Try.results13, go_sem, z0, z1, z2, z3]) rfl F
  go_upto_region 9 with fail
 all_goals
  have ⟨a0, a1⟩ := SA.k.bx.b2
  have ⟨b0, b1⟩ := SB.k.bx.b2
  have ⟨x0, y0, x1, y1⟩ := J.r0.r2
  have ⟨x2, y2, x3, y3⟩ := J.r1.r2
  have ⟨b2, b3⟩ := (SB.k.past (r := w.heap.size) (by have := SB.ne; omega) (.slice A1 n1 c1) (.slice A2 n2 c2)).bx.b2
  have k1 := J.r1.past (r := w.heap.size) (by omega) (.slice A1 n1 c1) (.slice A2 n2 c2)
  have ⟨x4, y4, x5, y5⟩ := k1.r2
  have ⟨z0, z1⟩ := (((J.r0.set 0 (.slice A1 n1 c1)).set 1 (.slice A2 n2 c2)).past (r := w.heap.size + 1) (by omega) (.slice A3 n3 c3) (.slice A4 n4 c4)).bx.b2
  have ⟨z2, z3⟩ := k1.s2
  have F := fin J SA SB
  go_wp2
  go_region
  go_wp2
  exact bodyPost_ret (v := _) (by simp [results, Try.results13, go_sem, z0, z1, z2, z3]) rfl F
end Go.Proofs.Ytceeggmfedpdkaa
