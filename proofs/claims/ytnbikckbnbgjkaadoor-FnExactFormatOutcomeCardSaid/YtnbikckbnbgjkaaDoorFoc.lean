/-
  Foc
-/
import Derived.Test.YtnbikckbnbgjkaaDoorKeep
import Derived.Test.YtnbikckbnbgjkaaDoorFmi
import Derived.Test.YtnbikckbnbgjkaaDoorEqLib
import Derived.Deep.Cut
namespace Go.Proofs.YtnbikckbnbgjkaaDoor
open Go.RowKit
set_option linter.unusedVariables false
set_option linter.unusedSimpArgs false
def noteSign (b : Bool) : ByteArray := if b then ⟨#[43]⟩ else ⟨#[45]⟩
def noteT (x : RunNoteD) : ByteArray := ⟨#[32]⟩ ++ fmtI x.fContour ++ ⟨#[46]⟩ ++ fmtI x.fPlan ++ noteSign x.fDone ++ fmtI x.fCost
def notesT (l : List RunNoteD) : ByteArray := l.foldl (fun s x => s ++ noteT x) ⟨#[]⟩
theorem notesT_snoc {l : List RunNoteD} {k : Nat} {x : RunNoteD} (h : l[k]? = some x) : notesT (l.take (k + 1)) = notesT (l.take k) ++ noteT x := by
 unfold notesT; rw [take_snoc h, List.foldl_append]; rfl
def outT (o : OutcomeD) : ByteArray := fmtI o.fTotal ++ ⟨#[32]⟩ ++ fmtI (o.fAnswer.fRows.length : Int) ++ notesT (o.fNotes.take 100)
theorem oz1 (a : UInt8) : (⟨#[a]⟩ : ByteArray).size = 1 := rfl
theorem app_nil (x : ByteArray) : x ++ (⟨#[]⟩ : ByteArray) = x := by apply ByteArray.ext; simp
theorem take_min1 {l : List RunNoteD} {n : Nat} (hl : l.length = n) {k : Nat} (hk : ¬ (k < n ∧ k < 100)) (hk2 : k ≤ n ∧ k ≤ 100) : l.take k = l.take 100 := by
 by_cases h : k < n
 ·rw [show k = 100 by omega]
 ·rw [List.take_of_length_le (by omega), List.take_of_length_le (by omega)]
set_option maxRecDepth 100000 in
set_option maxHeartbeats 1600000 in
theorem sFormatOutcome_c (cso : List Value) (o : OutcomeD) (w : World) (ho : (rOutcome NB).rep w cso o) :
  Calls Tryd.prog 12 #[.agg cso.toArray] w fun e w' => e = .returned (.string (outT o)) ∧ Below w.heap.size w w' := by
 have ro := ho
 obtain ⟨AoAnswerVars, noAnswerVars, coAnswerVars, AoAnswerRows, noAnswerRows, coAnswerRows, AoNotes, noNotes, coNotes, AoBoxLow, noBoxLow, coBoxLow, AoBoxHigh, noBoxHigh, coBoxHigh, rfl, hoAnswerVars, hoAnswerRows, hoTotal, hoNotes, hoBoxLow, hoBoxHigh⟩ := rOutcome_rep.1 ho
 clear ho
 have hB : Below w.heap.size w w := Below.refl _ _
 have hAo := (Below.refl (World.heap (w)).size (w)).alloc (Nat.le_refl _) (.cells #[.slice AoAnswerVars noAnswerVars coAnswerVars, .slice AoAnswerRows noAnswerRows coAnswerRows, .int .i64 o.fTotal, .slice AoNotes noNotes coNotes, .slice AoBoxLow noBoxLow coBoxLow, .slice AoBoxHigh noBoxHigh coBoxHigh] 48)
 replace hB := hB.trans (hAo.mono hB.size)
 have bxo := Bx.new (w) [.slice AoAnswerVars noAnswerVars coAnswerVars, .slice AoAnswerRows noAnswerRows coAnswerRows, .int .i64 o.fTotal, .slice AoNotes noNotes coNotes, .slice AoBoxLow noBoxLow coBoxLow, .slice AoBoxHigh noBoxHigh coBoxHigh] 48
 clear hAo
 have hnN := hoNotes.bound
 have hncN := hoNotes.nc
 have hnR := hoAnswerRows.bound
 have HL := Lib.hid hoNotes.len
 have HRL := Lib.hid hoAnswerRows.len
 obtain ⟨oa, ot, on, ob⟩ := o
 dsimp only at *
 have iR : I64 (noAnswerRows : Int) := by unfold NB at hnR; exact ⟨by omega, by omega⟩
 have z0 := fmtI_le hoTotal
 have z9 := fmtI_le iR
 obtain ⟨F0, hF0⟩ : ∃ F, F = fmtI ot := ⟨_, rfl⟩
 obtain ⟨F9, hF9⟩ : ∃ F, F = fmtI (noAnswerRows : Int) := ⟨_, rfl⟩
 rw [← hF0] at z0
 rw [← hF9] at z9
 have HF0 := Lib.hid hF0; clear hF0
 have HF9 := Lib.hid hF9; clear hF9
 obtain ⟨hd, hhd⟩ : ∃ h : ByteArray, h = F0 ++ ⟨#[32]⟩ ++ F9 := ⟨_, rfl⟩
 have hdz : hd.size ≤ 43 := by rw [hhd, ByteArray.size_append, ByteArray.size_append, oz1]; omega
 have HHD := Lib.hid hhd; clear hhd
 have HR : Hid (outT ⟨oa, ot, on, ob⟩ = hd ++ notesT (on.take 100)) := by show _ = _; rw [HHD.out, HF0.out, HF9.out, ← HRL.out]; rfl
 have HD0 : Hid (F0 ++ ⟨#[32]⟩ ++ F9 = hd ++ notesT (on.take 0)) := by show _ = _; rw [← HHD.out, List.take_zero, show notesT [] = ⟨#[]⟩ from rfl, app_nil]
 go_enter Tryd.func12, Tryd.ntmps12
 go_upto_region 1 with fail
 obtain ⟨wb, hwb⟩ : ∃ W, W = w.alloc (.cells #[.slice AoAnswerVars noAnswerVars coAnswerVars, .slice AoAnswerRows noAnswerRows coAnswerRows, .int .i64 ot, .slice AoNotes noNotes coNotes, .slice AoBoxLow noBoxLow coBoxLow, .slice AoBoxHigh noBoxHigh coBoxHigh] 48) := ⟨_, rfl⟩
 rw [← hwb] at hB bxo ⊢
 clear hwb
 have HSS : Hid (∀ w', Below wb.heap.size wb w' → (w'.cell? ⟨w.heap.size, 2, none⟩ = some (.int .i64 ot) ∧ w'.cell? ⟨w.heap.size, 1, none⟩ = some (.slice AoAnswerRows noAnswerRows coAnswerRows))) := by
  show ∀ w', _ → _
  intro w' hb
  exact ⟨(bxo.below hb) 2 _ rfl, (bxo.below hb) 1 _ rfl⟩
 have K1 : Hid (∀ W, Below wb.heap.size wb W → Calls Tryd.prog 23 #[.int .i64 ot] W fun e w' => e = .returned (.string F0) ∧ Below W.heap.size W w') := by
  show ∀ W, _ → _
  intro W hW; rw [HF0.out]; exact sFormatInt_c ot W hoTotal
 have K2 : Hid (∀ W, Below wb.heap.size wb W → Calls Tryd.prog 23 #[.int .i64 (noAnswerRows : Int)] W fun e w' => e = .returned (.string F9) ∧ Below W.heap.size W w') := by
  show ∀ W, _ → _
  intro W hW; rw [HF9.out]; exact sFormatInt_c _ W iR
 have n1 : ¬ 9223372036854775807 < F0.size + 1 := by omega
 have n2 : ¬ 9223372036854775807 < F0.size + 1 + F9.size := by omega
 refine hbg HSS.out (Below.refl _ _).drew (fun hHeld => ?_)
 refine tka 0 6 hHeld ?_; simp only [putS]
 refine tka 1 7 hHeld ?_; simp only [putS]
 refine tka 4 10 hHeld ?_; simp only [putS]
 refine tka 5 11 hHeld ?_; simp only [putS]
 refine tka 6 12 hHeld ?_; simp only [putS]
 refine tka 7 13 hHeld ?_; simp only [putS]
 refine wpAnyH_ready (rs := [2]) (by kernel_rfl) (by simp) ?_
 refine AllReadyH.cons (o := ⟨some 8, _, _, _, _, _⟩) rfl (fun K hK => ?_) AllReadyH.nil
 clear hHeld
 go_simp
 refine (K1.out _ (Below.refl wb.heap.size wb).drew).mono ?_
 rintro e w1 ⟨rfl, hb1⟩
 have hC1 : Below wb.heap.size wb w1 := ((Below.refl wb.heap.size wb).drew.trans (hb1.mono (by simp)))
 go_wp2_with fail
 refine hK.out _ _ (HSS.out _ hC1) (fun hHeld => ?_)
 clear hK K
 try simp only [putS]
 refine tka 3 9 hHeld ?_; simp only [putS]
 refine wpAnyH_ready (rs := [8]) (by kernel_rfl) (by simp) ?_
 refine AllReadyH.cons (o := ⟨some 14, _, _, _, _, _⟩) rfl (fun K hK => ?_) AllReadyH.nil
 clear hHeld
 go_simp
 refine (K2.out _ hC1).mono ?_
 rintro e w2 ⟨rfl, hb2⟩
 have hC2 := hC1.trans (hb2.mono hC1.size)
 go_wp2_with fail
 refine hK.out _ _ (HSS.out _ hC2) (fun hHeld => ?_)
 clear hK K
 try simp only [putS]
 refine tka 9 15 hHeld ?_; simp only [putS]
 refine tka 10 3 hHeld ?_; simp only [putS]
 refine wpAnyH_done (by kernel_rfl) ?_ _
 clear hHeld
 clear HSS K1 K2 n1 n2
 go_wp2
 go_loopw [3, 4] (fun vs vi wr => ∃ (k : Nat) (s : ByteArray), k ≤ noNotes ∧ k ≤ 100 ∧ vi = .int .i64 k ∧ vs = .string s ∧ s.size ≤ 43 + 66 * k ∧ s = hd ++ notesT (on.take k) ∧ Below wb.heap.size wb wr) (fun _ vi _ => noNotes - (intOf vi).toNat)
 case atStart => exact ⟨0, _, Nat.zero_le _, Nat.zero_le _, rfl, rfl, by rw [HHD.out.symm]; omega, HD0.out, hC2⟩
 case round =>
  clear hC2
  obtain ⟨k, s, hk, hk14, rfl, rfl, hsz, hs, hE⟩ := hrel
  have HS := Lib.hid hs; clear hs
  have hB2 := hB.trans (hE.mono hB.size)
  have kb_3 := (bxo.below hE) 3 _ rfl
  by_cases hlt : k < noNotes
  ·by_cases h14 : k < 100
   ·obtain ⟨b, off, x, rfl, hc0, hc1, hc2, hc3, hc4, i0, i1, i2, i3, hx⟩ := hoNotes.eRunNote hlt
    have HX := Lib.hid hx.out; clear hx
    obtain ⟨xk, xp, xb, xc, xd⟩ := x
    dsimp only at hc0 hc1 hc2 hc3 hc4 i0 i1 i2 i3
    have z1 := fmtI_le i0
    have z2 := fmtI_le i1
    have z3 := fmtI_le i3
    obtain ⟨F1, hF1⟩ : ∃ F, F = fmtI xk := ⟨_, rfl⟩
    obtain ⟨F2, hF2⟩ : ∃ F, F = fmtI xp := ⟨_, rfl⟩
    obtain ⟨F3, hF3⟩ : ∃ F, F = fmtI xc := ⟨_, rfl⟩
    rw [← hF1] at z1
    rw [← hF2] at z2
    rw [← hF3] at z3
    have HF1 := Lib.hid hF1; clear hF1
    have HF2 := Lib.hid hF2; clear hF2
    have HF3 := Lib.hid hF3; clear hF3
    have HT : Hid (∀ G, G = noteSign xd → s ++ ⟨#[32]⟩ ++ F1 ++ ⟨#[46]⟩ ++ F2 ++ G ++ F3 = hd ++ notesT (on.take (k + 1))) := by
     show ∀ G, _ → _
     intro G hG
     rw [notesT_snoc HX.out, HS.out, hG, HF1.out, HF2.out, HF3.out]
     simp only [noteT, ByteArray.append_assoc]
    have K1 : Hid (∀ W, Below wb.heap.size wb W → Calls Tryd.prog 23 #[.int .i64 xk] W fun e w' => e = .returned (.string F1) ∧ Below W.heap.size W w') := by
     show ∀ W, _ → _
     intro W hW; rw [HF1.out]; exact sFormatInt_c xk W i0
    have K2 : Hid (∀ W, Below wb.heap.size wb W → Calls Tryd.prog 23 #[.int .i64 xp] W fun e w' => e = .returned (.string F2) ∧ Below W.heap.size W w') := by
     show ∀ W, _ → _
     intro W hW; rw [HF2.out]; exact sFormatInt_c xp W i1
    have K3 : Hid (∀ W, Below wb.heap.size wb W → Calls Tryd.prog 23 #[.int .i64 xc] W fun e w' => e = .returned (.string F3) ∧ Below W.heap.size W w') := by
     show ∀ W, _ → _
     intro W hW; rw [HF3.out]; exact sFormatInt_c xc W i3
    have hC0 := cells_below hB2 _ _ hc0
    have hC1 := cells_below hB2 _ _ hc1
    have hC3 := cells_below hB2 _ _ hc3
    replace hc4 := cells_below hB2 _ _ hc4
    have HSX : Hid (∀ w', Below wr.heap.size wr w' → (w'.cell? ⟨w.heap.size, 3, none⟩ = some (.slice (some ⟨b, off, none⟩) noNotes coNotes) ∧ w'.cell? ⟨b, off + k * 5, none⟩ = some (.int .i64 xk) ∧ w'.cell? ⟨b, off + k * 5 + 1, none⟩ = some (.int .i64 xp) ∧ w'.cell? ⟨b, off + k * 5 + 3, none⟩ = some (.int .i64 xc))) := by
     show ∀ w', _ → _
     intro w' hb
     exact ⟨(bxo.below (hE.trans (hb.mono hE.size))) 3 _ rfl, cells_below hb _ _ hC0, cells_below hb _ _ hC1, cells_below hb _ _ hC3⟩
    clear hc0 hc1 hc2 hc3 hC0 hC1 hC3
    have n1 : ¬ 9223372036854775807 < s.size + 1 := by omega
    have n2 : ¬ 9223372036854775807 < s.size + 1 + F1.size := by omega
    have n3 : ¬ 9223372036854775807 < s.size + 1 + F1.size + 1 := by omega
    have n4 : ¬ 9223372036854775807 < s.size + 1 + F1.size + 1 + F2.size := by omega
    have n5 : ¬ 9223372036854775807 < s.size + 1 + F1.size + 1 + F2.size + 1 := by omega
    have n6 : ¬ 9223372036854775807 < s.size + 1 + F1.size + 1 + F2.size + 1 + F3.size := by omega
    cases xd
    ·have HT2 := Lib.hid (HT.out ⟨#[45]⟩ rfl)
     go_wp2
     refine hbg HSX.out (Below.refl _ _).drew (fun hHeld => ?_)
     refine tka 0 33 hHeld ?_; simp only [putS]
     refine tka 1 34 hHeld ?_; simp only [putS]
     refine tka 2 35 hHeld ?_; simp only [putS]
     refine tka 3 36 hHeld ?_; simp only [putS]
     refine tka 4 37 hHeld ?_; simp only [putS]
     refine tka 5 38 hHeld ?_; simp only [putS]
     refine tka 6 39 hHeld ?_; simp only [putS]
     refine tka 7 40 hHeld ?_; simp only [putS]
     refine tka 11 44 hHeld ?_; simp only [putS]
     refine tka 12 45 hHeld ?_; simp only [putS]
     refine tka 13 46 hHeld ?_; simp only [putS]
     refine tka 14 47 hHeld ?_; simp only [putS]
     refine tka 15 48 hHeld ?_; simp only [putS]
     refine tka 16 49 hHeld ?_; simp only [putS]
     refine tka 19 52 hHeld ?_; simp only [putS]
     refine tka 21 54 hHeld ?_; simp only [putS]
     refine tka 22 55 hHeld ?_; simp only [putS]
     refine tka 23 56 hHeld ?_; simp only [putS]
     refine tka 24 57 hHeld ?_; simp only [putS]
     refine tka 25 58 hHeld ?_; simp only [putS]
     refine tka 26 59 hHeld ?_; simp only [putS]
     refine wpAnyH_ready (rs := [8]) (by kernel_rfl) (by simp) ?_
     refine AllReadyH.cons (o := ⟨some 41, _, _, _, _, _⟩) rfl (fun K hK => ?_) AllReadyH.nil
     clear hHeld
     go_simp
     refine (K1.out _ (hE.drew)).mono ?_
     rintro e w1 ⟨rfl, hb1⟩
     have hD1 : Below wr.heap.size wr w1 := ((Below.refl wr.heap.size wr).drew.trans (hb1.mono (by simp)))
     go_wp2_with fail
     refine hK.out _ _ (HSX.out _ hD1) (fun hHeld => ?_)
     clear hK K
     try simp only [putS]
     refine tka 9 42 hHeld ?_; simp only [putS]
     refine tka 10 43 hHeld ?_; simp only [putS]
     refine wpAnyH_ready (rs := [17]) (by kernel_rfl) (by simp) ?_
     refine AllReadyH.cons (o := ⟨some 50, _, _, _, _, _⟩) rfl (fun K hK => ?_) AllReadyH.nil
     clear hHeld
     go_simp
     refine (K2.out _ (hE.trans (hD1.mono hE.size))).mono ?_
     rintro e w2 ⟨rfl, hb2⟩
     have hD2 := hD1.trans (hb2.mono hD1.size)
     go_wp2_with fail
     refine hK.out _ _ (HSX.out _ hD2) (fun hHeld => ?_)
     clear hK K
     try simp only [putS]
     refine tka 18 51 hHeld ?_; simp only [putS]
     refine tka 20 53 hHeld ?_; simp only [putS]
     refine wpAnyH_ready (rs := [27]) (by kernel_rfl) (by simp) ?_
     refine AllReadyH.cons (o := ⟨some 60, _, _, _, _, _⟩) rfl (fun K hK => ?_) AllReadyH.nil
     clear hHeld
     go_simp
     refine (K3.out _ (hE.trans (hD2.mono hE.size))).mono ?_
     rintro e w3 ⟨rfl, hb3⟩
     have hD3 := hD2.trans (hb3.mono hD2.size)
     go_wp2_with fail
     refine hK.out _ _ (HSX.out _ hD3) (fun hHeld => ?_)
     clear hK K
     try simp only [putS]
     refine tka 28 61 hHeld ?_; simp only [putS]
     refine tka 29 3 hHeld ?_; simp only [putS]
     refine wpAnyH_done (by kernel_rfl) ?_ _
     clear hHeld
     clear HSX K1 K2 K3 kb_3
     go_wp2
     go_roundw
     case rel => exact ⟨k + 1, _, by omega, by omega, by go_num, rfl, by simp only [ByteArray.size_append, oz1]; omega, HT2.out, hE.trans (hD3.mono hE.size)⟩
     case measure => simp [intOf]; omega
    ·have HT2 := Lib.hid (HT.out ⟨#[43]⟩ rfl)
     go_wp2
     refine hbg HSX.out (Below.refl _ _).drew (fun hHeld => ?_)
     refine tka 0 33 hHeld ?_; simp only [putS]
     refine tka 1 34 hHeld ?_; simp only [putS]
     refine tka 2 35 hHeld ?_; simp only [putS]
     refine tka 3 36 hHeld ?_; simp only [putS]
     refine tka 4 37 hHeld ?_; simp only [putS]
     refine tka 5 38 hHeld ?_; simp only [putS]
     refine tka 6 39 hHeld ?_; simp only [putS]
     refine tka 7 40 hHeld ?_; simp only [putS]
     refine tka 11 44 hHeld ?_; simp only [putS]
     refine tka 12 45 hHeld ?_; simp only [putS]
     refine tka 13 46 hHeld ?_; simp only [putS]
     refine tka 14 47 hHeld ?_; simp only [putS]
     refine tka 15 48 hHeld ?_; simp only [putS]
     refine tka 16 49 hHeld ?_; simp only [putS]
     refine tka 19 52 hHeld ?_; simp only [putS]
     refine tka 21 54 hHeld ?_; simp only [putS]
     refine tka 22 55 hHeld ?_; simp only [putS]
     refine tka 23 56 hHeld ?_; simp only [putS]
     refine tka 24 57 hHeld ?_; simp only [putS]
     refine tka 25 58 hHeld ?_; simp only [putS]
     refine tka 26 59 hHeld ?_; simp only [putS]
     refine wpAnyH_ready (rs := [8]) (by kernel_rfl) (by simp) ?_
     refine AllReadyH.cons (o := ⟨some 41, _, _, _, _, _⟩) rfl (fun K hK => ?_) AllReadyH.nil
     clear hHeld
     go_simp
     refine (K1.out _ (hE.drew)).mono ?_
     rintro e w1 ⟨rfl, hb1⟩
     have hD1 : Below wr.heap.size wr w1 := ((Below.refl wr.heap.size wr).drew.trans (hb1.mono (by simp)))
     go_wp2_with fail
     refine hK.out _ _ (HSX.out _ hD1) (fun hHeld => ?_)
     clear hK K
     try simp only [putS]
     refine tka 9 42 hHeld ?_; simp only [putS]
     refine tka 10 43 hHeld ?_; simp only [putS]
     refine wpAnyH_ready (rs := [17]) (by kernel_rfl) (by simp) ?_
     refine AllReadyH.cons (o := ⟨some 50, _, _, _, _, _⟩) rfl (fun K hK => ?_) AllReadyH.nil
     clear hHeld
     go_simp
     refine (K2.out _ (hE.trans (hD1.mono hE.size))).mono ?_
     rintro e w2 ⟨rfl, hb2⟩
     have hD2 := hD1.trans (hb2.mono hD1.size)
     go_wp2_with fail
     refine hK.out _ _ (HSX.out _ hD2) (fun hHeld => ?_)
     clear hK K
     try simp only [putS]
     refine tka 18 51 hHeld ?_; simp only [putS]
     refine tka 20 53 hHeld ?_; simp only [putS]
     refine wpAnyH_ready (rs := [27]) (by kernel_rfl) (by simp) ?_
     refine AllReadyH.cons (o := ⟨some 60, _, _, _, _, _⟩) rfl (fun K hK => ?_) AllReadyH.nil
     clear hHeld
     go_simp
     refine (K3.out _ (hE.trans (hD2.mono hE.size))).mono ?_
     rintro e w3 ⟨rfl, hb3⟩
     have hD3 := hD2.trans (hb3.mono hD2.size)
     go_wp2_with fail
     refine hK.out _ _ (HSX.out _ hD3) (fun hHeld => ?_)
     clear hK K
     try simp only [putS]
     refine tka 28 61 hHeld ?_; simp only [putS]
     refine tka 29 3 hHeld ?_; simp only [putS]
     refine wpAnyH_done (by kernel_rfl) ?_ _
     clear hHeld
     clear HSX K1 K2 K3 kb_3
     go_wp2
     go_roundw
     case rel => exact ⟨k + 1, _, by omega, by omega, by go_num, rfl, by simp only [ByteArray.size_append, oz1]; omega, HT2.out, hE.trans (hD3.mono hE.size)⟩
     case measure => simp [intOf]; omega
   ·have HE : Hid (s = hd ++ notesT (on.take 100)) := by show _ = _; rw [HS.out, take_min1 HL.out (k := k) (by omega) (by omega)]
    have hk9 : k = 100 := by omega
    subst hk9
    go_wp2
    go_ret
    exact ⟨by rw [HR.out, ← HE.out]; rfl, hB2⟩
  ·have HE : Hid (s = hd ++ notesT (on.take 100)) := by show _ = _; rw [HS.out, take_min1 HL.out (k := k) (by omega) (by omega)]
   go_wp2
   go_ret
   exact ⟨by rw [HR.out, ← HE.out]; rfl, hB2⟩
set_option maxRecDepth 100000 in
set_option maxHeartbeats 1600000 in
theorem iFormatOutcome_c (cso : List Value) (o : OutcomeD) (w : World) (ho : (rOutcome NB).rep w cso o) (ht : Tab w) :
  Calls Tryd.prog 14 #[.agg cso.toArray] w fun e w' => e = .returned (.string (outT o)) ∧ Below w.heap.size w w' := by
 have ro := ho
 obtain ⟨AoAnswerVars, noAnswerVars, coAnswerVars, AoAnswerRows, noAnswerRows, coAnswerRows, AoNotes, noNotes, coNotes, AoBoxLow, noBoxLow, coBoxLow, AoBoxHigh, noBoxHigh, coBoxHigh, rfl, hoAnswerVars, hoAnswerRows, hoTotal, hoNotes, hoBoxLow, hoBoxHigh⟩ := rOutcome_rep.1 ho
 clear ho
 have hB : Below w.heap.size w w := Below.refl _ _
 have hAo := (Below.refl (World.heap (w)).size (w)).alloc (Nat.le_refl _) (.cells #[.slice AoAnswerVars noAnswerVars coAnswerVars, .slice AoAnswerRows noAnswerRows coAnswerRows, .int .i64 o.fTotal, .slice AoNotes noNotes coNotes, .slice AoBoxLow noBoxLow coBoxLow, .slice AoBoxHigh noBoxHigh coBoxHigh] 48)
 replace hB := hB.trans (hAo.mono hB.size)
 have bxo := Bx.new (w) [.slice AoAnswerVars noAnswerVars coAnswerVars, .slice AoAnswerRows noAnswerRows coAnswerRows, .int .i64 o.fTotal, .slice AoNotes noNotes coNotes, .slice AoBoxLow noBoxLow coBoxLow, .slice AoBoxHigh noBoxHigh coBoxHigh] 48
 clear hAo
 have hnN := hoNotes.bound
 have hncN := hoNotes.nc
 have hnR := hoAnswerRows.bound
 have HL := Lib.hid hoNotes.len
 have HRL := Lib.hid hoAnswerRows.len
 obtain ⟨oa, ot, on, ob⟩ := o
 dsimp only at *
 have iR : I64 (noAnswerRows : Int) := by unfold NB at hnR; exact ⟨by omega, by omega⟩
 have z0 := fmtI_le hoTotal
 have z9 := fmtI_le iR
 obtain ⟨F0, hF0⟩ : ∃ F, F = fmtI ot := ⟨_, rfl⟩
 obtain ⟨F9, hF9⟩ : ∃ F, F = fmtI (noAnswerRows : Int) := ⟨_, rfl⟩
 rw [← hF0] at z0
 rw [← hF9] at z9
 have HF0 := Lib.hid hF0; clear hF0
 have HF9 := Lib.hid hF9; clear hF9
 obtain ⟨hd, hhd⟩ : ∃ h : ByteArray, h = F0 ++ ⟨#[32]⟩ ++ F9 := ⟨_, rfl⟩
 have hdz : hd.size ≤ 43 := by rw [hhd, ByteArray.size_append, ByteArray.size_append, oz1]; omega
 have HHD := Lib.hid hhd; clear hhd
 have HR : Hid (outT ⟨oa, ot, on, ob⟩ = hd ++ notesT (on.take 100)) := by show _ = _; rw [HHD.out, HF0.out, HF9.out, ← HRL.out]; rfl
 have HD0 : Hid (F0 ++ ⟨#[32]⟩ ++ F9 = hd ++ notesT (on.take 0)) := by show _ = _; rw [← HHD.out, List.take_zero, show notesT [] = ⟨#[]⟩ from rfl, app_nil]
 go_enter Tryd.func14, Tryd.ntmps14
 go_upto_region 1 with fail
 obtain ⟨wb, hwb⟩ : ∃ W, W = w.alloc (.cells #[.slice AoAnswerVars noAnswerVars coAnswerVars, .slice AoAnswerRows noAnswerRows coAnswerRows, .int .i64 ot, .slice AoNotes noNotes coNotes, .slice AoBoxLow noBoxLow coBoxLow, .slice AoBoxHigh noBoxHigh coBoxHigh] 48) := ⟨_, rfl⟩
 rw [← hwb] at hB bxo ⊢
 clear hwb
 have HSS : Hid (∀ w', Below wb.heap.size wb w' → (w'.cell? ⟨w.heap.size, 2, none⟩ = some (.int .i64 ot) ∧ w'.cell? ⟨w.heap.size, 1, none⟩ = some (.slice AoAnswerRows noAnswerRows coAnswerRows))) := by
  show ∀ w', _ → _
  intro w' hb
  exact ⟨(bxo.below hb) 2 _ rfl, (bxo.below hb) 1 _ rfl⟩
 have K1 : Hid (∀ W, Below wb.heap.size wb W → Calls Tryd.prog 27 #[.int .i64 ot] W fun e w' => e = .returned (.string F0) ∧ Below W.heap.size W w') := by
  show ∀ W, _ → _
  intro W hW; rw [HF0.out]; exact iFormatInt_c ot W hoTotal (ht.below (hB.trans (hW.mono hB.size)))
 have K2 : Hid (∀ W, Below wb.heap.size wb W → Calls Tryd.prog 27 #[.int .i64 (noAnswerRows : Int)] W fun e w' => e = .returned (.string F9) ∧ Below W.heap.size W w') := by
  show ∀ W, _ → _
  intro W hW; rw [HF9.out]; exact iFormatInt_c _ W iR (ht.below (hB.trans (hW.mono hB.size)))
 have n1 : ¬ 9223372036854775807 < F0.size + 1 := by omega
 have n2 : ¬ 9223372036854775807 < F0.size + 1 + F9.size := by omega
 refine hbg HSS.out (Below.refl _ _).drew (fun hHeld => ?_)
 refine tka 0 7 hHeld ?_; simp only [putS]
 refine tka 1 8 hHeld ?_; simp only [putS]
 refine tka 4 11 hHeld ?_; simp only [putS]
 refine tka 5 12 hHeld ?_; simp only [putS]
 refine tka 6 13 hHeld ?_; simp only [putS]
 refine tka 7 14 hHeld ?_; simp only [putS]
 refine wpAnyH_ready (rs := [2]) (by kernel_rfl) (by simp) ?_
 refine AllReadyH.cons (o := ⟨some 9, _, _, _, _, _⟩) rfl (fun K hK => ?_) AllReadyH.nil
 clear hHeld
 go_simp
 refine (K1.out _ (Below.refl wb.heap.size wb).drew).mono ?_
 rintro e w1 ⟨rfl, hb1⟩
 have hC1 : Below wb.heap.size wb w1 := ((Below.refl wb.heap.size wb).drew.trans (hb1.mono (by simp)))
 go_wp2_with fail
 refine hK.out _ _ (HSS.out _ hC1) (fun hHeld => ?_)
 clear hK K
 try simp only [putS]
 refine tka 3 10 hHeld ?_; simp only [putS]
 refine wpAnyH_ready (rs := [8]) (by kernel_rfl) (by simp) ?_
 refine AllReadyH.cons (o := ⟨some 15, _, _, _, _, _⟩) rfl (fun K hK => ?_) AllReadyH.nil
 clear hHeld
 go_simp
 refine (K2.out _ hC1).mono ?_
 rintro e w2 ⟨rfl, hb2⟩
 have hC2 := hC1.trans (hb2.mono hC1.size)
 go_wp2_with fail
 refine hK.out _ _ (HSS.out _ hC2) (fun hHeld => ?_)
 clear hK K
 try simp only [putS]
 refine tka 9 16 hHeld ?_; simp only [putS]
 refine tka 10 3 hHeld ?_; simp only [putS]
 refine wpAnyH_done (by kernel_rfl) ?_ _
 clear hHeld
 clear HSS K1 K2 n1 n2
 obtain ⟨M, hM1, hM2, hM3, hmin⟩ : ∃ M : Nat, M ≤ noNotes ∧ M ≤ 100 ∧ on.take M = on.take 100 ∧ min (noNotes : Int) 100 = (M : Int) := by
  by_cases h : noNotes ≤ 100
  ·exact ⟨noNotes, Nat.le_refl _, h, by rw [List.take_of_length_le (by rw [HL.out]; omega), List.take_of_length_le (by rw [HL.out]; omega)], by omega⟩
  ·exact ⟨100, by omega, Nat.le_refl _, rfl, by omega⟩
 have HM3 := Lib.hid hM3; clear hM3
 have kb_3 := (bxo.below hC2) 3 _ rfl
 by_cases hn0 : 0 < noNotes
 ·obtain ⟨bS, oS, eA⟩ : ∃ b o, AoNotes = some ⟨b, o, none⟩ := by obtain ⟨b, o, e, _⟩ := hoNotes.cell hn0; exact ⟨b, o, e⟩
  subst eA
  have hMc : M ≤ coNotes := by omega
  have hMci : (M : Int) ≤ (coNotes : Int) := by omega
  go_wp2
  go_loopw [3, 25] (fun vs vi wr => ∃ (k : Nat) (s : ByteArray), k ≤ M ∧ vi = .int .i64 k ∧ vs = .string s ∧ s.size ≤ 43 + 66 * k ∧ s = hd ++ notesT (on.take k) ∧ Below wb.heap.size wb wr) (fun _ vi _ => M - (intOf vi).toNat)
  case atStart => exact ⟨0, _, Nat.zero_le _, rfl, rfl, by rw [HHD.out.symm]; omega, HD0.out, hC2⟩
  case round =>
   clear kb_3 hC2
   obtain ⟨k, s, hk, rfl, rfl, hsz, hs, hE⟩ := hrel
   have HS := Lib.hid hs; clear hs
   have hB2 := hB.trans (hE.mono hB.size)
   by_cases hlt : k < M
   ·obtain ⟨b', o', x, e', hc0, hc1, hc2, hc3, hc4, i0, i1, i2, i3, hx⟩ := hoNotes.eRunNote (k := k) (by omega)
    injection e' with e'; injection e' with e1 e2; subst e1; subst e2
    have HX := Lib.hid hx.out; clear hx
    obtain ⟨xk, xp, xb, xc, xd⟩ := x
    dsimp only at hc0 hc1 hc2 hc3 hc4 i0 i1 i2 i3
    have z1 := fmtI_le i0
    have z2 := fmtI_le i1
    have z3 := fmtI_le i3
    obtain ⟨F1, hF1⟩ : ∃ F, F = fmtI xk := ⟨_, rfl⟩
    obtain ⟨F2, hF2⟩ : ∃ F, F = fmtI xp := ⟨_, rfl⟩
    obtain ⟨F3, hF3⟩ : ∃ F, F = fmtI xc := ⟨_, rfl⟩
    rw [← hF1] at z1
    rw [← hF2] at z2
    rw [← hF3] at z3
    have HF1 := Lib.hid hF1; clear hF1
    have HF2 := Lib.hid hF2; clear hF2
    have HF3 := Lib.hid hF3; clear hF3
    have HT : Hid (∀ G, G = noteSign xd → s ++ (⟨#[32]⟩ ++ F1 ++ ⟨#[46]⟩ ++ F2 ++ G ++ F3) = hd ++ notesT (on.take (k + 1))) := by
     show ∀ G, _ → _
     intro G hG
     rw [notesT_snoc HX.out, HS.out, hG, HF1.out, HF2.out, HF3.out]
     simp only [noteT, ByteArray.append_assoc]
    have K1 : Hid (∀ W, Below wb.heap.size wb W → Calls Tryd.prog 27 #[.int .i64 xk] W fun e w' => e = .returned (.string F1) ∧ Below W.heap.size W w') := by
     show ∀ W, _ → _
     intro W hW; rw [HF1.out]; exact iFormatInt_c xk W i0 (ht.below (hB.trans (hW.mono hB.size)))
    have K2 : Hid (∀ W, Below wb.heap.size wb W → Calls Tryd.prog 27 #[.int .i64 xp] W fun e w' => e = .returned (.string F2) ∧ Below W.heap.size W w') := by
     show ∀ W, _ → _
     intro W hW; rw [HF2.out]; exact iFormatInt_c xp W i1 (ht.below (hB.trans (hW.mono hB.size)))
    have K3 : Hid (∀ W, Below wb.heap.size wb W → Calls Tryd.prog 27 #[.int .i64 xc] W fun e w' => e = .returned (.string F3) ∧ Below W.heap.size W w') := by
     show ∀ W, _ → _
     intro W hW; rw [HF3.out]; exact iFormatInt_c xc W i3 (ht.below (hB.trans (hW.mono hB.size)))
    replace hc0 := cells_below hB2 _ _ hc0
    replace hc1 := cells_below hB2 _ _ hc1
    replace hc2 := cells_below hB2 _ _ hc2
    replace hc3 := cells_below hB2 _ _ hc3
    replace hc4 := cells_below hB2 _ _ hc4
    go_upto_region 5 with fail
    have bxx := Bx.new wr [.int .i64 xk, .int .i64 xp, .int .i64 xb, .int .i64 xc, .bool xd] 76
    have hAx := (Below.refl wr.heap.size wr).alloc (Nat.le_refl _) (.cells #[.int .i64 xk, .int .i64 xp, .int .i64 xb, .int .i64 xc, .bool xd] 76)
    obtain ⟨wx, hwx⟩ : ∃ W, W = wr.alloc (.cells #[.int .i64 xk, .int .i64 xp, .int .i64 xb, .int .i64 xc, .bool xd] 76) := ⟨_, rfl⟩
    rw [← hwx] at hAx bxx ⊢
    clear hwx hc0 hc1 hc2 hc3 hc4
    have hE2 := hE.trans (hAx.mono hE.size)
    obtain ⟨gx, hgx⟩ : ∃ g, g = wr.heap.size := ⟨_, rfl⟩
    rw [← hgx] at bxx ⊢
    clear hgx hAx
    have HSX : Hid (∀ w', Below wx.heap.size wx w' → (w'.cell? ⟨gx, 0, none⟩ = some (.int .i64 xk) ∧ w'.cell? ⟨gx, 1, none⟩ = some (.int .i64 xp) ∧ w'.cell? ⟨gx, 3, none⟩ = some (.int .i64 xc))) := by
     show ∀ w', _ → _
     intro w' hb
     exact ⟨(bxx.below hb) 0 _ rfl, (bxx.below hb) 1 _ rfl, (bxx.below hb) 3 _ rfl⟩
    have kx4 := bxx 4 _ rfl
    have n1 : ¬ 9223372036854775807 < 1 + F1.size := by omega
    have n2 : ¬ 9223372036854775807 < 1 + F1.size + 1 := by omega
    have n3 : ¬ 9223372036854775807 < 1 + F1.size + 1 + F2.size := by omega
    have n4 : ¬ 9223372036854775807 < 1 + F1.size + 1 + F2.size + 1 := by omega
    have n5 : ¬ 9223372036854775807 < 1 + F1.size + 1 + F2.size + 1 + F3.size := by omega
    have n6 : ¬ 9223372036854775807 < s.size + (1 + F1.size + 1 + F2.size + 1 + F3.size) := by omega
    cases xd
    ·have HT2 := Lib.hid (HT.out ⟨#[45]⟩ rfl)
     go_wp2
     refine hbg HSX.out (Below.refl _ _).drew (fun hHeld => ?_)
     refine tka 0 31 hHeld ?_; simp only [putS]
     refine tka 1 32 hHeld ?_; simp only [putS]
     refine tka 2 33 hHeld ?_; simp only [putS]
     refine tka 6 37 hHeld ?_; simp only [putS]
     refine tka 7 38 hHeld ?_; simp only [putS]
     refine tka 10 41 hHeld ?_; simp only [putS]
     refine tka 12 43 hHeld ?_; simp only [putS]
     refine tka 13 44 hHeld ?_; simp only [putS]
     refine wpAnyH_ready (rs := [3]) (by kernel_rfl) (by simp) ?_
     refine AllReadyH.cons (o := ⟨some 34, _, _, _, _, _⟩) rfl (fun K hK => ?_) AllReadyH.nil
     clear hHeld
     go_simp
     refine (K1.out _ (hE2.drew)).mono ?_
     rintro e w1 ⟨rfl, hb1⟩
     have hD1 : Below wx.heap.size wx w1 := ((Below.refl wx.heap.size wx).drew.trans (hb1.mono (by simp)))
     go_wp2_with fail
     refine hK.out _ _ (HSX.out _ hD1) (fun hHeld => ?_)
     clear hK K
     try simp only [putS]
     refine tka 4 35 hHeld ?_; simp only [putS]
     refine tka 5 36 hHeld ?_; simp only [putS]
     refine wpAnyH_ready (rs := [8]) (by kernel_rfl) (by simp) ?_
     refine AllReadyH.cons (o := ⟨some 39, _, _, _, _, _⟩) rfl (fun K hK => ?_) AllReadyH.nil
     clear hHeld
     go_simp
     refine (K2.out _ (hE2.trans (hD1.mono hE2.size))).mono ?_
     rintro e w2 ⟨rfl, hb2⟩
     have hD2 := hD1.trans (hb2.mono hD1.size)
     go_wp2_with fail
     refine hK.out _ _ (HSX.out _ hD2) (fun hHeld => ?_)
     clear hK K
     try simp only [putS]
     refine tka 9 40 hHeld ?_; simp only [putS]
     refine tka 11 42 hHeld ?_; simp only [putS]
     refine wpAnyH_ready (rs := [14]) (by kernel_rfl) (by simp) ?_
     refine AllReadyH.cons (o := ⟨some 45, _, _, _, _, _⟩) rfl (fun K hK => ?_) AllReadyH.nil
     clear hHeld
     go_simp
     refine (K3.out _ (hE2.trans (hD2.mono hE2.size))).mono ?_
     rintro e w3 ⟨rfl, hb3⟩
     have hD3 := hD2.trans (hb3.mono hD2.size)
     go_wp2_with fail
     refine hK.out _ _ (HSX.out _ hD3) (fun hHeld => ?_)
     clear hK K
     try simp only [putS]
     refine tka 15 46 hHeld ?_; simp only [putS]
     refine tka 16 47 hHeld ?_; simp only [putS]
     refine tka 17 3 hHeld ?_; simp only [putS]
     refine wpAnyH_done (by kernel_rfl) ?_ _
     clear hHeld
     clear HSX K1 K2 K3
     go_wp2
     go_roundw
     case rel => exact ⟨k + 1, _, by omega, by go_num, rfl, by simp only [ByteArray.size_append, oz1]; omega, HT2.out, hE2.trans (hD3.mono hE2.size)⟩
     case measure => simp [intOf]; omega
    ·have HT2 := Lib.hid (HT.out ⟨#[43]⟩ rfl)
     go_wp2
     refine hbg HSX.out (Below.refl _ _).drew (fun hHeld => ?_)
     refine tka 0 31 hHeld ?_; simp only [putS]
     refine tka 1 32 hHeld ?_; simp only [putS]
     refine tka 2 33 hHeld ?_; simp only [putS]
     refine tka 6 37 hHeld ?_; simp only [putS]
     refine tka 7 38 hHeld ?_; simp only [putS]
     refine tka 10 41 hHeld ?_; simp only [putS]
     refine tka 12 43 hHeld ?_; simp only [putS]
     refine tka 13 44 hHeld ?_; simp only [putS]
     refine wpAnyH_ready (rs := [3]) (by kernel_rfl) (by simp) ?_
     refine AllReadyH.cons (o := ⟨some 34, _, _, _, _, _⟩) rfl (fun K hK => ?_) AllReadyH.nil
     clear hHeld
     go_simp
     refine (K1.out _ (hE2.drew)).mono ?_
     rintro e w1 ⟨rfl, hb1⟩
     have hD1 : Below wx.heap.size wx w1 := ((Below.refl wx.heap.size wx).drew.trans (hb1.mono (by simp)))
     go_wp2_with fail
     refine hK.out _ _ (HSX.out _ hD1) (fun hHeld => ?_)
     clear hK K
     try simp only [putS]
     refine tka 4 35 hHeld ?_; simp only [putS]
     refine tka 5 36 hHeld ?_; simp only [putS]
     refine wpAnyH_ready (rs := [8]) (by kernel_rfl) (by simp) ?_
     refine AllReadyH.cons (o := ⟨some 39, _, _, _, _, _⟩) rfl (fun K hK => ?_) AllReadyH.nil
     clear hHeld
     go_simp
     refine (K2.out _ (hE2.trans (hD1.mono hE2.size))).mono ?_
     rintro e w2 ⟨rfl, hb2⟩
     have hD2 := hD1.trans (hb2.mono hD1.size)
     go_wp2_with fail
     refine hK.out _ _ (HSX.out _ hD2) (fun hHeld => ?_)
     clear hK K
     try simp only [putS]
     refine tka 9 40 hHeld ?_; simp only [putS]
     refine tka 11 42 hHeld ?_; simp only [putS]
     refine wpAnyH_ready (rs := [14]) (by kernel_rfl) (by simp) ?_
     refine AllReadyH.cons (o := ⟨some 45, _, _, _, _, _⟩) rfl (fun K hK => ?_) AllReadyH.nil
     clear hHeld
     go_simp
     refine (K3.out _ (hE2.trans (hD2.mono hE2.size))).mono ?_
     rintro e w3 ⟨rfl, hb3⟩
     have hD3 := hD2.trans (hb3.mono hD2.size)
     go_wp2_with fail
     refine hK.out _ _ (HSX.out _ hD3) (fun hHeld => ?_)
     clear hK K
     try simp only [putS]
     refine tka 15 46 hHeld ?_; simp only [putS]
     refine tka 16 47 hHeld ?_; simp only [putS]
     refine tka 17 3 hHeld ?_; simp only [putS]
     refine wpAnyH_done (by kernel_rfl) ?_ _
     clear hHeld
     clear HSX K1 K2 K3
     go_wp2
     go_roundw
     case rel => exact ⟨k + 1, _, by omega, by go_num, rfl, by simp only [ByteArray.size_append, oz1]; omega, HT2.out, hE2.trans (hD3.mono hE2.size)⟩
     case measure => simp [intOf]; omega
   ·have HE : Hid (s = hd ++ notesT (on.take 100)) := by show _ = _; rw [HS.out, show k = M by omega, HM3.out]
    go_wp2
    go_ret
    exact ⟨by rw [HR.out, ← HE.out]; rfl, hB2⟩
 ·have hE : Hid (hd ++ notesT (on.take 100) = hd ++ notesT (on.take 0)) := by
   show _ = _
   rw [← HM3.out, show M = 0 by omega]
  obtain rfl : noNotes = 0 := by omega
  clear hn0
  have hM0 : M = 0 := by omega
  subst hM0
  rcases AoNotes with _ | ⟨bS, oS, spS⟩
  all_goals
   go_wp2
   go_loopw [3, 25] (fun vs vi wr => ∃ s : ByteArray, vi = .int .i64 0 ∧ vs = .string s ∧ s = hd ++ notesT (on.take 0) ∧ Below wb.heap.size wb wr) (fun _ _ _ => 0)
   case atStart => exact ⟨_, rfl, rfl, HD0.out, hC2⟩
   case round =>
    clear kb_3 hC2
    obtain ⟨s, rfl, rfl, hs, hE9⟩ := hrel
    have HS := Lib.hid hs; clear hs
    go_wp2
    go_ret
    exact ⟨by rw [HR.out, hE.out, ← HS.out]; rfl, hB.trans (hE9.mono hB.size)⟩
end Go.Proofs.YtnbikckbnbgjkaaDoor
