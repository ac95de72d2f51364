/-
  Learn
-/
import Derived.Test.YtkdajdafhjobbaaApply
import Derived.Test.YtkdajdafhjobbaaEqLib
namespace Go.Proofs.Ytkdajdafhjobbaa
open Go.RowKit
set_option linter.unusedVariables false
set_option linter.unusedSimpArgs false

def learnStep (p : BoxD × Nat) (o : ObservationD) : BoxD × Nat := ((applyObs p.1 o).1, p.2 + if (applyObs p.1 o).2 then 1 else 0)
def learnF (b : BoxD) (l : List ObservationD) : BoxD × Nat := l.foldl learnStep (b, 0)
def learnAll (b : BoxD) (l : List ObservationD) : BoxD × Int := ((learnF b l).1, ((learnF b l).2 : Nat))
theorem learnF_snoc {b : BoxD} {l : List ObservationD} {k : Nat} {o : ObservationD} (h : l[k]? = some o) : learnF b (l.take (k + 1)) = learnStep (learnF b (l.take k)) o := by
 unfold learnF; rw [take_snoc h, List.foldl_append]; rfl
theorem applyObs_no {b : BoxD} {o : ObservationD} (h : (applyObs b o).2 = false) : (applyObs b o).1 = b := by
 unfold applyObs at h ⊢
 by_cases h1 : (validBox b && inR o.fMask 0 ((b.fLow.length : Int) - 1)) = true
 ·rw [if_pos h1] at h ⊢
  by_cases h2 : validBox (narrow b o) = true
  ·rw [if_pos h2] at h; cases h
  ·rw [if_neg h2]
 ·rw [if_neg h1]

/-- the box in block Y: its lists owned, not in R, not in Y -/
structure Held (w wr : World) (Y : Nat) (b : BoxD) (A1 : Option Addr) (n1 c1 : Nat) (A2 : Option Addr) (n2 c2 : Nat) (f1 f2 : List Nat) : Prop where
 bk : Bk wr Y 26 [.slice A1 n1 c1, .slice A2 n2 c2]
 lo : OS NB 3 rInt wr f1 A1 n1 c1 b.fLow
 hi : OS NB 3 rInt wr f2 A2 n2 c2 b.fHigh
 nd : (f1 ++ f2).Nodup
 ge : ∀ k ∈ f1 ++ f2, w.heap.size + 1 + 1 ≤ k ∧ k ≠ Y
theorem Held.rep {w wr : World} {Y : Nat} {b : BoxD} {A1 : Option Addr} {n1 c1 : Nat} {A2 : Option Addr} {n2 c2 : Nat} {f1 f2 : List Nat} (h : Held w wr Y b A1 n1 c1 A2 n2 c2 f1 f2) : (rBox NB).rep wr [.slice A1 n1 c1, .slice A2 n2 c2] b :=
 rBox_rep.2 ⟨A1, n1, c1, A2, n2, c2, rfl, h.lo.rs rInt_ok, h.hi.rs rInt_ok⟩
theorem Held.below {w wr wr' : World} {Y : Nat} {b : BoxD} {A1 : Option Addr} {n1 c1 : Nat} {A2 : Option Addr} {n2 c2 : Nat} {f1 f2 : List Nat} (h : Held w wr Y b A1 n1 c1 A2 n2 c2 f1 f2) (hb : Below wr.heap.size wr wr') : Held w wr' Y b A1 n1 c1 A2 n2 c2 f1 f2 :=
 ⟨h.bk.below hb, h.lo.belowS rInt_ok hb, h.hi.belowS rInt_ok hb, h.nd, h.ge⟩
/-- a new box stored over the old one -/
theorem Held.store {w wr w2 : World} {Y : Nat} {b b' : BoxD} {A1 : Option Addr} {n1 c1 : Nat} {A2 : Option Addr} {n2 c2 : Nat} {f1 f2 : List Nat} (h : Held w w2 Y b A1 n1 c1 A2 n2 c2 f1 f2) {A3 : Option Addr} {n3 c3 : Nat} {A4 : Option Addr} {n4 c4 : Nat} {f3 f4 : List Nat}
  (o3 : OS NB 3 rInt w2 f3 A3 n3 c3 b'.fLow) (o4 : OS NB 3 rInt w2 f4 A4 n4 c4 b'.fHigh) (nd : (f3 ++ f4).Nodup) (ge : ∀ k ∈ f3 ++ f4, wr.heap.size ≤ k) (hY : Y < wr.heap.size) (hR : w.heap.size + 1 + 1 ≤ wr.heap.size) :
  Held w ((w2.setCell ⟨Y, 0, none⟩ (.slice A3 n3 c3)).setCell ⟨Y, 1, none⟩ (.slice A4 n4 c4)) Y b' A3 n3 c3 A4 n4 c4 f3 f4 := by
 have hc : Chg [Y] w2 ((w2.setCell ⟨Y, 0, none⟩ (.slice A3 n3 c3)).setCell ⟨Y, 1, none⟩ (.slice A4 n4 c4)) := ((Chg.refl _ _).setCell (by simp) _ _).setCell (by simp) _ _
 refine ⟨(h.bk.set 0 _).set 1 _, o3.chg rInt_ok hc (fun k hk hk' => ?_), o4.chg rInt_ok hc (fun k hk hk' => ?_), nd, fun k hk => ?_⟩
 ·have := ge k (List.mem_append_left _ hk); simp at hk'; omega
 ·have := ge k (List.mem_append_right _ hk); simp at hk'; omega
 ·have := ge k hk; omega
theorem held_store2 {w wr w2 : World} {Y : Nat} {b' : BoxD} {B1 : Option Addr} {p1 d1 : Nat} {B2 : Option Addr} {p2 d2 : Nat} (bk : Bk w2 Y 26 [.slice B1 p1 d1, .slice B2 p2 d2]) {A3 : Option Addr} {n3 c3 : Nat} {A4 : Option Addr} {n4 c4 : Nat} {f3 f4 : List Nat}
  (o3 : OS NB 3 rInt w2 f3 A3 n3 c3 b'.fLow) (o4 : OS NB 3 rInt w2 f4 A4 n4 c4 b'.fHigh) (nd : (f3 ++ f4).Nodup) (ge : ∀ k ∈ f3 ++ f4, wr.heap.size ≤ k) (hY : Y < wr.heap.size) (hR : w.heap.size + 1 + 1 ≤ wr.heap.size) :
  Held w ((w2.setCell ⟨Y, 0, none⟩ (.slice A3 n3 c3)).setCell ⟨Y, 1, none⟩ (.slice A4 n4 c4)) Y b' A3 n3 c3 A4 n4 c4 f3 f4 := by
 have hc : Chg [Y] w2 ((w2.setCell ⟨Y, 0, none⟩ (.slice A3 n3 c3)).setCell ⟨Y, 1, none⟩ (.slice A4 n4 c4)) := ((Chg.refl _ _).setCell (by simp) _ _).setCell (by simp) _ _
 refine ⟨(bk.set 0 _).set 1 _, o3.chg rInt_ok hc (fun k hk hk' => ?_), o4.chg rInt_ok hc (fun k hk hk' => ?_), nd, fun k hk => ?_⟩
 ·have := ge k (List.mem_append_left _ hk); simp at hk'; omega
 ·have := ge k (List.mem_append_right _ hk); simp at hk'; omega
 ·have := ge k hk; omega
theorem below_set2 {B : Nat} {a w : World} (h : Below B a w) {Y : Nat} (hY : B ≤ Y) (u v : Value) : Below B a ((w.setCell ⟨Y, 0, none⟩ u).setCell ⟨Y, 1, none⟩ v) := (h.setCell hY _).setCell hY _
theorem Bk.set2 {w : World} {Y g : Nat} {t : TypeId} {cs : List Value} (h : Bk w g t cs) (hne : g ≠ Y) (u v : Value) : Bk ((w.setCell ⟨Y, 0, none⟩ u).setCell ⟨Y, 1, none⟩ v) g t cs :=
 h.chg (((Chg.refl [Y] w).setCell (by simp) 0 u).setCell (by simp) 1 v) (by simpa using hne)
theorem held_fin {w W : World} {Y : Nat} {b : BoxD} {A1 : Option Addr} {n1 c1 : Nat} {A2 : Option Addr} {n2 c2 : Nat} {f1 f2 : List Nat} (h : Held w W Y b A1 n1 c1 A2 n2 c2 f1 f2) (hB : Below w.heap.size w W) :
  (rBox NB).own ((W.setCell ⟨w.heap.size + 1, 0, none⟩ (.slice A1 n1 c1)).setCell ⟨w.heap.size + 1, 1, none⟩ (.slice A2 n2 c2)) (f1 ++ f2) [.slice A1 n1 c1, .slice A2 n2 c2] b ∧ Fr w.heap.size (f1 ++ f2) ∧ Below w.heap.size w ((W.setCell ⟨w.heap.size + 1, 0, none⟩ (.slice A1 n1 c1)).setCell ⟨w.heap.size + 1, 1, none⟩ (.slice A2 n2 c2)) := by
 have hc : Chg [w.heap.size + 1] W ((W.setCell ⟨w.heap.size + 1, 0, none⟩ (.slice A1 n1 c1)).setCell ⟨w.heap.size + 1, 1, none⟩ (.slice A2 n2 c2)) := ((Chg.refl _ _).setCell (by simp) _ _).setCell (by simp) _ _
 refine ⟨rBox_own.2 ⟨A1, n1, c1, A2, n2, c2, f1, f2, rfl, rfl, h.lo.chg rInt_ok hc (fun k hk hk' => ?_), h.hi.chg rInt_ok hc (fun k hk hk' => ?_)⟩, ⟨h.nd, fun k hk => by have := h.ge k hk; omega⟩, below_set2 hB (by omega) _ _⟩
 ·have := h.ge k (List.mem_append_left _ hk); simp at hk'; omega
 ·have := h.ge k (List.mem_append_right _ hk); simp at hk'; omega

set_option maxRecDepth 100000 in
set_option maxHeartbeats 1600000 in
theorem sLearnAll_c (csx : List Value) (x : BoxD) (Al : Option Addr) (nl cl : Nat) (l : List ObservationD) (w : World) (hx : (rBox NB).rep w csx x) (hl : RS NB (rObservation NB) w Al nl cl l) :
  Calls Try.prog 10 #[.agg csx.toArray, .slice Al nl cl] w (RetVB (rBox NB) (learnAll x l).1 (.int .i64 (learnAll x l).2) w) := by
 have hnl := hl.bound
 have rx := hx
 obtain ⟨AxLow, nxLow, cxLow, AxHigh, nxHigh, cxHigh, rfl, hxLow, hxHigh⟩ := rBox_rep.1 hx
 clear hx
 have hB : Below w.heap.size w w := Below.refl _ _
 have hAx := (Below.refl (World.heap (w)).size (w)).alloc (Nat.le_refl _) (.cells #[.slice AxLow nxLow cxLow, .slice AxHigh nxHigh cxHigh] 26)
 replace hB := hB.trans (hAx.mono hB.size)
 have bxx := Bx.new (w) [.slice AxLow nxLow cxLow, .slice AxHigh nxHigh cxHigh] 26
 clear hAx
 obtain ⟨wa, hwa⟩ : ∃ wa, wa = w.alloc (.cells #[.slice AxLow nxLow cxLow, .slice AxHigh nxHigh cxHigh] 26) := ⟨_, rfl⟩
 rw [← hwa] at hB bxx
 have hBA := (Below.refl wa.heap.size wa).alloc (Nat.le_refl _) (.cells #[.slice none 0 0, .slice none 0 0] 26)
 have bkR := Bk.new wa [.slice none 0 0, .slice none 0 0] 26
 replace hB := hB.trans (hBA.mono hB.size)
 replace bxx := bxx.below hBA
 clear hBA
 rw [hwa] at hB bxx bkR
 simp only [World.size_alloc] at bkR
 clear hwa
 go_enter Try.func10, Try.ntmps10
 go_wp2_with fail
 refine (sCopyBox_c _ x _ ((rBox_ok NB).keep rx (cells_below hB))).mono ?_
 rintro e w1 ⟨cs1, fp1, rfl, o1, fr1, hb1⟩
 replace hB := hB.trans (hb1.mono hB.size)
 replace bxx := bxx.below hb1
 replace bkR := bkR.below hb1
 clear hb1
 have lt1 := (rBox_ok NB).lt o1
 have ge1 := fr1.ge
 have nd1 := fr1.nd
 simp only [World.size_alloc] at ge1
 obtain ⟨A1, n1, c1, A2, n2, c2, f1, f2, rfl, rfl, oL, oH⟩ := rBox_own.1 o1
 clear o1 fr1 bxx
 have hH0 : Held w (w1.alloc (.cells #[.slice A1 n1 c1, .slice A2 n2 c2] 26)) w1.heap.size x A1 n1 c1 A2 n2 c2 f1 f2 :=
  ⟨Bk.new w1 [.slice A1 n1 c1, .slice A2 n2 c2] 26, oL.belowS rInt_ok ((Below.refl _ _).alloc (Nat.le_refl _) _), oH.belowS rInt_ok ((Below.refl _ _).alloc (Nat.le_refl _) _), nd1, fun k hk => ⟨ge1 k hk, by have := lt1 k hk; omega⟩⟩
 clear oL oH nd1 ge1 lt1
 have hR1 := bkR.lt
 go_wp2
 go_loopw [7, 8] (fun nv iv wr => ∃ (k m : Nat) (B1 B2 : Option Addr) (p1 d1 p2 d2 : Nat) (e1 e2 : List Nat), k ≤ nl ∧ iv = .int .i64 k ∧ nv = .int .i64 m ∧ m ≤ k ∧ m = (learnF x (l.take k)).2 ∧ Held w wr w1.heap.size (learnF x (l.take k)).1 B1 p1 d1 B2 p2 d2 e1 e2 ∧ Bk wr (w.heap.size + 1) 26 [.slice none 0 0, .slice none 0 0] ∧ Below w.heap.size w wr ∧ w1.heap.size < wr.heap.size) (fun _ iv _ => nl - (intOf iv).toNat)
 case atStart => exact ⟨0, 0, A1, A2, n1, c1, n2, c2, f1, f2, Nat.zero_le _, rfl, rfl, Nat.le_refl _, rfl, hH0, bkR.below ((Below.refl _ _).alloc (Nat.le_refl _) _), hB.alloc hB.size _, by simp⟩
 case round =>
  clear hH0 bkR
  obtain ⟨k, m, B1, B2, p1, d1, p2, d2, e1, e2, hk, rfl, rfl, hmk, hm, hH, bkR, hBr, hY⟩ := hrel
  have HM := Lib.hid hm; clear hm
  have y0 := hH.bk.bx 0 _ rfl
  have y1 := hH.bk.bx 1 _ rfl
  by_cases hlt : k < nl
  ·obtain ⟨b, off, ob, rfl, hc0, hc1, hc2, hI0, hI1, hob⟩ := (hl.below (rObservation_ok NB) hBr).eObservation hlt
   have HS := Lib.hid (learnF_snoc (b := x) hob.out)
   obtain ⟨bb, hbb⟩ : ∃ bb, bb = (learnF x (l.take k)).1 := ⟨_, rfl⟩
   rw [← hbb] at hH
   have HBB := Lib.hid hbb; clear hbb
   have HS1 : Hid ((learnF x (l.take (k + 1))).1 = (applyObs bb ob).1) := by show _ = _; rw [HS.out, learnStep, HBB.out]
   have HS2 : Hid ((learnF x (l.take (k + 1))).2 = m + if (applyObs bb ob).2 then 1 else 0) := by show _ = _; rw [HS.out, learnStep, HBB.out, HM.out]
   clear HS
   have SS : ∀ w', Below wr.heap.size wr w' → (w'.cell? ⟨w1.heap.size, 0, none⟩ = some (.slice B1 p1 d1) ∧ w'.cell? ⟨w1.heap.size, 1, none⟩ = some (.slice B2 p2 d2) ∧ w'.cell? ⟨b, off + k * 3, none⟩ = some (.int .i64 ob.fMask) ∧ w'.cell? ⟨b, off + k * 3 + 1, none⟩ = some (.int .i64 ob.fClass) ∧ w'.cell? ⟨b, off + k * 3 + 2, none⟩ = some (.bool ob.fExact)) := fun w' hb => ⟨cells_below hb _ _ y0, cells_below hb _ _ y1, cells_below hb _ _ hc0, cells_below hb _ _ hc1, cells_below hb _ _ hc2⟩
   have HSS := Lib.hid SS; clear SS
   have ba : Below wr.heap.size wr wr.drew := (Below.refl _ _).drew
   have bz : Below wr.heap.size wr (wr.alloc (.cells #[.slice none 0 0, .slice none 0 0] 26)).drew := ((Below.refl _ _).alloc (Nat.le_refl _) _).drew
   have hsz : (wr.alloc (.cells #[.slice none 0 0, .slice none 0 0] 26)).drew.heap.size = wr.heap.size + 1 := by simp
   have HSZ := Lib.hid hsz; clear hsz
   have bkX := Bk.new wr [.slice none 0 0, .slice none 0 0] 26
   go_wp2_with fail
   go_region_held3 (fun w' => w'.cell? ⟨w1.heap.size, 0, none⟩ = some (.slice B1 p1 d1) ∧ w'.cell? ⟨w1.heap.size, 1, none⟩ = some (.slice B2 p2 d2) ∧ w'.cell? ⟨b, off + k * 3, none⟩ = some (.int .i64 ob.fMask) ∧ w'.cell? ⟨b, off + k * 3 + 1, none⟩ = some (.int .i64 ob.fClass) ∧ w'.cell? ⟨b, off + k * 3 + 2, none⟩ = some (.bool ob.fExact)) (first | exact HSS.out _ ba | exact HSS.out _ bz | exact HSS.out _ hC2 | exact HSS.out _ (hC2.alloc hC2.size _) | exact HSS.out _ (below_set2 hC2 (Nat.le_refl _) _ _)) ((first | (go_at_call 59; refine (sApplyObservation_c _ bb _ ob _ ?_ (rObservation_rep.2 ⟨rfl, hI0, hI1⟩)).mono ?_; (first | exact (hH.below ba).rep | exact (hH.below bz).rep); rintro e w2 ⟨cs3, fp3, rfl, o3, fr3, hb3⟩; have hC2 : Below wr.heap.size wr w2 := (by first | exact ba.trans hb3 | exact bz.trans (hb3.mono bz.size)); have nd3 := fr3.nd; have ge3 := fr3.ge; obtain ⟨A3, n3, c3, A4, n4, c4, f3, f4, rfl, rfl, oL, oH⟩ := rBox_own.1 o3; first | (have bkX2 : Bk w2 wr.heap.size 26 [.slice none 0 0, .slice none 0 0] := Bk.below (w := (wr.alloc (.cells #[.slice none 0 0, .slice none 0 0] 26)).drew) bkX hb3; have xf0 := bkX2.frozen 0; have xf1 := bkX2.frozen 1; have x0 := bkX2.bx 0 _ rfl; have x1 := bkX2.bx 1 _ rfl; have xl := bkX2.lt) | skip)))
   ·have hbx : Chg [wr.heap.size] w2 (w2.alloc (.cells #[.slice A3 n3 c3, .slice A4 n4 c4] 26)) := Chg.ofBelow ((Below.refl w2.heap.size w2).alloc (Nat.le_refl _) _) _
    have hs2 := hC2.size
    have hRl := bkR.lt
    have hHa := hH.below hC2
    have bkY2 := hHa.bk.chg hbx (fun hk => by simp only [List.mem_singleton] at hk; omega)
    have bkR2 := (bkR.below hC2).chg hbx (fun hk => by simp only [List.mem_singleton] at hk; omega)
    have hB2 : Below w.heap.size w (w2.alloc (.cells #[.slice A3 n3 c3, .slice A4 n4 c4] 26)) := (hBr.trans (hC2.mono hBr.size)).trans (hbx.toBelow (Nat.le_trans hBr.size hs2) (fun q hq => by simp only [List.mem_singleton] at hq; have := hBr.size; omega))
    have oL2 := oL.belowS rInt_ok ((Below.refl w2.heap.size w2).alloc (Nat.le_refl _) (.cells #[.slice A3 n3 c3, .slice A4 n4 c4] 26))
    have oH2 := oH.belowS rInt_ok ((Below.refl w2.heap.size w2).alloc (Nat.le_refl _) (.cells #[.slice A3 n3 c3, .slice A4 n4 c4] 26))
    have GE3 : Hid (∀ k ∈ f3 ++ f4, wr.heap.size ≤ k) := fun k hk => ge3 k hk
    have yf0 := bkY2.frozen 0
    have yf1 := bkY2.frozen 1
    have y0b := bkY2.bx 0 _ rfl
    have y1b := bkY2.bx 1 _ rfl
    have yl := bkY2.lt
    clear y0 y1 hb3 ge3 hC2 hbx
    cases hok : (applyObs bb ob).2
    ·go_wp2
     go_roundw
     case rel => exact ⟨k + 1, m, A3, A4, n3, c3, n4, c4, f3, f4, by omega, by go_num, by go_num, by omega, by rw [HS2.out, hok]; simp, by rw [HS1.out]; exact held_store2 bkY2 oL2 oH2 nd3 GE3.out hY (by omega), bkR2.set2 (by omega) _ _, below_set2 hB2 (by omega) _ _, by simp only [World.size_setCell, World.size_alloc]; omega⟩
     case measure => simp [intOf]; omega
    ·go_wp2
     go_roundw
     case rel => exact ⟨k + 1, m + 1, A3, A4, n3, c3, n4, c4, f3, f4, by omega, by go_num, by go_num, by omega, by rw [HS2.out, hok]; simp, by rw [HS1.out]; exact held_store2 bkY2 oL2 oH2 nd3 GE3.out hY (by omega), bkR2.set2 (by omega) _ _, below_set2 hB2 (by omega) _ _, by simp only [World.size_setCell, World.size_alloc]; omega⟩
     case measure => simp [intOf]; omega
   ·have hbx : Chg [wr.heap.size] w2 ((w2.setCell ⟨wr.heap.size, 0, none⟩ (.slice A3 n3 c3)).setCell ⟨wr.heap.size, 1, none⟩ (.slice A4 n4 c4)) := ((Chg.refl _ _).setCell (by simp) _ _).setCell (by simp) _ _
    have hs2 := hC2.size
    have hRl := bkR.lt
    have hHa := hH.below hC2
    have bkY2 := hHa.bk.chg hbx (fun hk => by simp only [List.mem_singleton] at hk; omega)
    have bkR2 := (bkR.below hC2).chg hbx (fun hk => by simp only [List.mem_singleton] at hk; omega)
    have hB2 : Below w.heap.size w ((w2.setCell ⟨wr.heap.size, 0, none⟩ (.slice A3 n3 c3)).setCell ⟨wr.heap.size, 1, none⟩ (.slice A4 n4 c4)) := (hBr.trans (hC2.mono hBr.size)).trans (hbx.toBelow (Nat.le_trans hBr.size hs2) (fun q hq => by simp only [List.mem_singleton] at hq; have := hBr.size; omega))
    have oL2 := oL.chg rInt_ok hbx (fun q hq hq' => by simp only [List.mem_singleton] at hq'; have := ge3 q (List.mem_append_left _ hq); rw [HSZ.out] at this; omega)
    have oH2 := oH.chg rInt_ok hbx (fun q hq hq' => by simp only [List.mem_singleton] at hq'; have := ge3 q (List.mem_append_right _ hq); rw [HSZ.out] at this; omega)
    have GE3 : Hid (∀ k ∈ f3 ++ f4, wr.heap.size ≤ k) := fun k hk => by have := ge3 k hk; rw [HSZ.out] at this; show wr.heap.size ≤ k; omega
    have bkX3 := (bkX2.set 0 (.slice A3 n3 c3)).set 1 (.slice A4 n4 c4)
    have z0 := bkX3.bx 0 _ rfl
    have z1 := bkX3.bx 1 _ rfl
    have yf0 := bkY2.frozen 0
    have yf1 := bkY2.frozen 1
    have y0b := bkY2.bx 0 _ rfl
    have y1b := bkY2.bx 1 _ rfl
    have yl := bkY2.lt
    clear y0 y1 hb3 ge3 hC2 hbx
    cases hok : (applyObs bb ob).2
    ·go_wp2
     go_roundw
     case rel => exact ⟨k + 1, m, A3, A4, n3, c3, n4, c4, f3, f4, by omega, by go_num, by go_num, by omega, by rw [HS2.out, hok]; simp, by rw [HS1.out]; exact held_store2 bkY2 oL2 oH2 nd3 GE3.out hY (by omega), bkR2.set2 (by omega) _ _, below_set2 hB2 (by omega) _ _, by simp only [World.size_setCell, World.size_alloc]; omega⟩
     case measure => simp [intOf]; omega
    ·go_wp2
     go_roundw
     case rel => exact ⟨k + 1, m + 1, A3, A4, n3, c3, n4, c4, f3, f4, by omega, by go_num, by go_num, by omega, by rw [HS2.out, hok]; simp, by rw [HS1.out]; exact held_store2 bkY2 oL2 oH2 nd3 GE3.out hY (by omega), bkR2.set2 (by omega) _ _, below_set2 hB2 (by omega) _ _, by simp only [World.size_setCell, World.size_alloc]; omega⟩
     case measure => simp [intOf]; omega
  ·have rf0 := bkR.frozen 0
   have rf1 := bkR.frozen 1
   have rc0 := bkR.bx 0 _ rfl
   have rc1 := bkR.bx 1 _ rfl
   have rl := bkR.lt
   go_wp2
   have bk3 := (bkR.set 0 (.slice B1 p1 d1)).set 1 (.slice B2 p2 d2)
   have q0 := bk3.bx 0 _ rfl
   have q1 := bk3.bx 1 _ rfl
   have hf := held_fin hH hBr
   refine bodyPost_ret (v := .tuple #[.agg #[.slice B1 p1 d1, .slice B2 p2 d2], .int .i64 m]) (by simp [results, Try.results10, go_sem, q0, q1]) rfl ?_
   rw [take_all hl.len hlt] at hf
   have he : (learnAll x l).2 = (m : Int) := by rw [learnAll, HM.out, take_all hl.len hlt]
   rw [he]
   exact ⟨_, _, rfl, hf.1, hf.2.1, hf.2.2⟩
set_option maxRecDepth 100000 in
set_option maxHeartbeats 1600000 in
theorem iLearnAll_c (csx : List Value) (x : BoxD) (Al : Option Addr) (nl cl : Nat) (l : List ObservationD) (w : World) (hx : (rBox NB).rep w csx x) (hl : RS NB (rObservation NB) w Al nl cl l) :
  Calls Try.prog 9 #[.agg csx.toArray, .slice Al nl cl] w (RetVB (rBox NB) (learnAll x l).1 (.int .i64 (learnAll x l).2) w) := by
 have hnl := hl.bound
 have rx := hx
 obtain ⟨AxLow, nxLow, cxLow, AxHigh, nxHigh, cxHigh, rfl, hxLow, hxHigh⟩ := rBox_rep.1 hx
 clear hx
 have hB : Below w.heap.size w w := Below.refl _ _
 have hAx := (Below.refl (World.heap (w)).size (w)).alloc (Nat.le_refl _) (.cells #[.slice AxLow nxLow cxLow, .slice AxHigh nxHigh cxHigh] 26)
 replace hB := hB.trans (hAx.mono hB.size)
 have bxx := Bx.new (w) [.slice AxLow nxLow cxLow, .slice AxHigh nxHigh cxHigh] 26
 clear hAx
 obtain ⟨wa, hwa⟩ : ∃ wa, wa = w.alloc (.cells #[.slice AxLow nxLow cxLow, .slice AxHigh nxHigh cxHigh] 26) := ⟨_, rfl⟩
 rw [← hwa] at hB bxx
 have hBA := (Below.refl wa.heap.size wa).alloc (Nat.le_refl _) (.cells #[.slice none 0 0, .slice none 0 0] 26)
 have bkR := Bk.new wa [.slice none 0 0, .slice none 0 0] 26
 replace hB := hB.trans (hBA.mono hB.size)
 replace bxx := bxx.below hBA
 clear hBA
 rw [hwa] at hB bxx bkR
 simp only [World.size_alloc] at bkR
 clear hwa
 go_enter Try.func9, Try.ntmps9
 go_wp2_with fail
 refine (iCopyBox_c _ x _ ((rBox_ok NB).keep rx (cells_below hB))).mono ?_
 rintro e w1 ⟨cs1, fp1, rfl, o1, fr1, hb1⟩
 replace hB := hB.trans (hb1.mono hB.size)
 replace bxx := bxx.below hb1
 replace bkR := bkR.below hb1
 clear hb1
 have lt1 := (rBox_ok NB).lt o1
 have ge1 := fr1.ge
 have nd1 := fr1.nd
 simp only [World.size_alloc] at ge1
 obtain ⟨A1, n1, c1, A2, n2, c2, f1, f2, rfl, rfl, oL, oH⟩ := rBox_own.1 o1
 clear o1 fr1 bxx
 have hH0 : Held w (w1.alloc (.cells #[.slice A1 n1 c1, .slice A2 n2 c2] 26)) w1.heap.size x A1 n1 c1 A2 n2 c2 f1 f2 :=
  ⟨Bk.new w1 [.slice A1 n1 c1, .slice A2 n2 c2] 26, oL.belowS rInt_ok ((Below.refl _ _).alloc (Nat.le_refl _) _), oH.belowS rInt_ok ((Below.refl _ _).alloc (Nat.le_refl _) _), nd1, fun k hk => ⟨ge1 k hk, by have := lt1 k hk; omega⟩⟩
 clear oL oH nd1 ge1 lt1
 have hR1 := bkR.lt
 go_wp2
 go_loopw [7, 16] (fun nv iv wr => ∃ (k m : Nat) (B1 B2 : Option Addr) (p1 d1 p2 d2 : Nat) (e1 e2 : List Nat), k ≤ nl ∧ iv = .int .i64 k ∧ nv = .int .i64 m ∧ m ≤ k ∧ m = (learnF x (l.take k)).2 ∧ Held w wr w1.heap.size (learnF x (l.take k)).1 B1 p1 d1 B2 p2 d2 e1 e2 ∧ Bk wr (w.heap.size + 1) 26 [.slice none 0 0, .slice none 0 0] ∧ Below w.heap.size w wr ∧ w1.heap.size < wr.heap.size) (fun _ iv _ => nl - (intOf iv).toNat)
 case atStart => exact ⟨0, 0, A1, A2, n1, c1, n2, c2, f1, f2, Nat.zero_le _, rfl, rfl, Nat.le_refl _, rfl, hH0, bkR.below ((Below.refl _ _).alloc (Nat.le_refl _) _), hB.alloc hB.size _, by simp⟩
 case round =>
  clear hH0 bkR
  obtain ⟨k, m, B1, B2, p1, d1, p2, d2, e1, e2, hk, rfl, rfl, hmk, hm, hH, bkR, hBr, hY⟩ := hrel
  have HM := Lib.hid hm; clear hm
  have y0 := hH.bk.bx 0 _ rfl
  have y1 := hH.bk.bx 1 _ rfl
  by_cases hlt : k < nl
  ·obtain ⟨b, off, ob, rfl, hc0, hc1, hc2, hI0, hI1, hob⟩ := (hl.below (rObservation_ok NB) hBr).eObservation hlt
   have HS := Lib.hid (learnF_snoc (b := x) hob.out)
   obtain ⟨bb, hbb⟩ : ∃ bb, bb = (learnF x (l.take k)).1 := ⟨_, rfl⟩
   rw [← hbb] at hH
   have HBB := Lib.hid hbb; clear hbb
   obtain ⟨wd, hwd⟩ : ∃ W : World, W = wr.alloc (.cells #[.int .i64 ob.fMask, .int .i64 ob.fClass, .bool ob.fExact] 38) := ⟨_, rfl⟩
   have hbd : Below wr.heap.size wr wd := by rw [hwd]; exact (Below.refl _ _).alloc (Nat.le_refl _) _
   have y0b := (hH.bk.below hbd).bx 0 _ rfl
   have y1b := (hH.bk.below hbd).bx 1 _ rfl
   rw [hwd] at y0b y1b
   go_wp2_with fail
   rw [← hwd]
   clear hwd y0 y1 y0b y1b
   have hH1 := hH.below hbd
   have bkR1 := bkR.below hbd
   have hB1 := hBr.trans (hbd.mono hBr.size)
   have hsd := hbd.size
   refine (iApplyObservation_c _ bb _ ob _ hH1.rep (rObservation_rep.2 ⟨rfl, hI0, hI1⟩)).mono ?_
   rintro e w2 ⟨cs3, fp3, rfl, o3, fr3, hb3⟩
   have nd3 := fr3.nd
   have ge3 := fr3.ge
   obtain ⟨A3, n3, c3, A4, n4, c4, f3, f4, rfl, rfl, oL, oH⟩ := rBox_own.1 o3
   have hbx := (Below.refl w2.heap.size w2).alloc (Nat.le_refl _) (.cells #[.slice A3 n3 c3, .slice A4 n4 c4] 26)
   have hH2 := (hH1.below hb3).below hbx
   have bkR2 := (bkR1.below hb3).below hbx
   have hB2 : Below w.heap.size w _ := (hB1.trans (hb3.mono hB1.size)).trans (hbx.mono (hB1.trans (hb3.mono hB1.size)).size)
   have oL2 := oL.belowS rInt_ok hbx
   have oH2 := oH.belowS rInt_ok hbx
   have hs3 := hb3.size
   have GE3 : Hid (∀ k ∈ f3 ++ f4, wr.heap.size ≤ k) := fun k hk => Nat.le_trans hsd (ge3 k hk)
   clear o3 fr3 ge3 oL oH hH1 bkR1 hB1 hb3 hbd hH bkR hBr hbx
   have yf0 := hH2.bk.frozen 0
   have yf1 := hH2.bk.frozen 1
   have y0 := hH2.bk.bx 0 _ rfl
   have y1 := hH2.bk.bx 1 _ rfl
   have yl := hH2.bk.lt
   have HS1 : Hid ((learnF x (l.take (k + 1))).1 = (applyObs bb ob).1) := by show _ = _; rw [HS.out, learnStep, HBB.out]
   have HS2 : Hid ((learnF x (l.take (k + 1))).2 = m + if (applyObs bb ob).2 then 1 else 0) := by show _ = _; rw [HS.out, learnStep, HBB.out, HM.out]
   clear HS
   cases hok : (applyObs bb ob).2
   ·go_wp2
    go_roundw
    case rel => exact ⟨k + 1, m, B1, B2, p1, d1, p2, d2, e1, e2, by omega, by go_num, by go_num, by omega, by rw [HS2.out, hok]; simp, by rw [HS1.out, applyObs_no hok]; exact hH2, bkR2, hB2, by simp only [World.size_alloc]; omega⟩
    case measure => simp [intOf]; omega
   ·go_wp2
    go_roundw
    case rel => exact ⟨k + 1, m + 1, A3, A4, n3, c3, n4, c4, f3, f4, by omega, by go_num, by go_num, by omega, by rw [HS2.out, hok]; simp, by rw [HS1.out]; exact Held.store (wr := wr) hH2 oL2 oH2 nd3 GE3.out hY (by omega), bkR2.set2 (by omega) _ _, below_set2 hB2 (by omega) _ _, by simp only [World.size_setCell, World.size_alloc]; omega⟩
    case measure => simp [intOf]; omega
  ·have rf0 := bkR.frozen 0
   have rf1 := bkR.frozen 1
   have rc0 := bkR.bx 0 _ rfl
   have rc1 := bkR.bx 1 _ rfl
   have rl := bkR.lt
   go_wp2
   have bk3 := (bkR.set 0 (.slice B1 p1 d1)).set 1 (.slice B2 p2 d2)
   have q0 := bk3.bx 0 _ rfl
   have q1 := bk3.bx 1 _ rfl
   have hf := held_fin hH hBr
   refine bodyPost_ret (v := .tuple #[.agg #[.slice B1 p1 d1, .slice B2 p2 d2], .int .i64 m]) (by simp [results, Try.results9, go_sem, q0, q1]) rfl ?_
   rw [take_all hl.len hlt] at hf
   have he : (learnAll x l).2 = (m : Int) := by rw [learnAll, HM.out, take_all hl.len hlt]
   rw [he]
   exact ⟨_, _, rfl, hf.1, hf.2.1, hf.2.2⟩
end Go.Proofs.Ytkdajdafhjobbaa
