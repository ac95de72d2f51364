/-
  Frn
-/
import Derived.Test.YtnbikckbnbgjkaaDoorKeep
import Derived.Test.YtnbikckbnbgjkaaDoorFmi
import Derived.Deep.Cut
import Derived.Test.YtnbikckbnbgjkaaDoorEqLib
namespace Go.Proofs.YtnbikckbnbgjkaaDoor
open Go.RowKit
set_option linter.unusedVariables false
set_option linter.unusedSimpArgs false
def obsSign (b : Bool) : ByteArray := if b then ⟨#[61]⟩ else ⟨#[62, 61]⟩
def obsT (x : ObservationD) : ByteArray := ⟨#[32]⟩ ++ fmtI x.fMask ++ obsSign x.fExact ++ fmtI x.fClass
def seenT (l : List ObservationD) : ByteArray := l.foldl (fun s x => s ++ obsT x) ⟨#[]⟩
theorem seenT_snoc {l : List ObservationD} {k : Nat} {x : ObservationD} (h : l[k]? = some x) : seenT (l.take (k + 1)) = seenT (l.take k) ++ obsT x := by
 unfold seenT; rw [take_snoc h, List.foldl_append]; rfl
def runT (r : RunD) : ByteArray := (if r.fDone then ⟨#[100, 111, 110, 101, 32]⟩ else ⟨#[115, 116, 111, 112, 32]⟩) ++ fmtI r.fCost ++ seenT (r.fSeen.take 14)
theorem sz1 (a : UInt8) : (⟨#[a]⟩ : ByteArray).size = 1 := rfl
theorem sz2 (a b : UInt8) : (⟨#[a, b]⟩ : ByteArray).size = 2 := rfl
theorem noMax {a b : ByteArray} (h : a.size + b.size ≤ 1000000) : ¬ IntKind.i64.max < ((a.size + b.size : Nat) : Int) := by
 rw [show IntKind.i64.max = 9223372036854775807 from rfl]; omega
theorem obsSign_le (b : Bool) : (obsSign b).size ≤ 2 := by cases b <;> decide
theorem take_min {l : List ObservationD} {n : Nat} (hl : l.length = n) {k : Nat} (hk : ¬ (k < n ∧ k < 14)) (hk2 : k ≤ n ∧ k ≤ 14) : l.take k = l.take 14 := by
 by_cases h : k < n
 ·rw [show k = 14 by omega]
 ·rw [List.take_of_length_le (by omega), List.take_of_length_le (by omega)]
set_option maxRecDepth 100000 in
set_option maxHeartbeats 1600000 in
theorem sSeen_c (Al : Option Addr) (nl cl : Nat) (l : List ObservationD) (w : World) (hl : RS NB (rObservation NB) w Al nl cl l) :
  Calls Tryd.prog 24 #[.slice Al nl cl] w ((fun e w' => e = .returned (.string (seenT (l.take 14))) ∧ (seenT (l.take 14)).size ≤ 630 ∧ Below w.heap.size w w')) := by
 have hB := Below.refl w.heap.size w
 have hnl := hl.bound
 have HL := Lib.hid hl.len
 go_enter Tryd.func24, Tryd.ntmps24
 go_wp2
 go_loopw [3, 4] (fun vs vi wr => ∃ (k : Nat) (s : ByteArray), k ≤ nl ∧ k ≤ 14 ∧ vi = .int .i64 k ∧ vs = .string s ∧ s.size ≤ 45 * k ∧ s = seenT (l.take k) ∧ Below w.heap.size w wr) (fun _ vi _ => nl - (intOf vi).toNat)
 case atStart => exact ⟨0, _, Nat.zero_le _, Nat.zero_le _, rfl, rfl, Nat.le_refl _, rfl, hB⟩
 case round =>
  clear hB
  obtain ⟨k, s, hk, hk14, rfl, rfl, hsz, hs, hB⟩ := hrel
  have HS := Lib.hid hs; clear hs
  by_cases hlt : k < nl
  ·by_cases h14 : k < 14
   ·obtain ⟨b, off, x, rfl, hc0, hc1, hc2, i0, i1, hx⟩ := hl.eObservation hlt
    have HX := Lib.hid hx.out; clear hx
    obtain ⟨xm, xc, xe⟩ := x
    dsimp only at hc0 hc1 hc2 i0 i1
    have z1 := fmtI_le i0
    have z2 := fmtI_le i1
    have z3 := obsSign_le xe
    obtain ⟨F1, hF1⟩ : ∃ F, F = fmtI xm := ⟨_, rfl⟩
    obtain ⟨F2, hF2⟩ : ∃ F, F = fmtI xc := ⟨_, rfl⟩
    rw [← hF1] at z1
    rw [← hF2] at z2
    have HT : Hid (∀ G, G = obsSign xe → s ++ ⟨#[32]⟩ ++ F1 ++ G ++ F2 = seenT (l.take (k + 1))) := by
     show ∀ G, _ → _
     intro G hG
     rw [seenT_snoc HX.out, ← HS.out, hG, hF1, hF2]
     simp only [obsT, ByteArray.append_assoc]
    have K1 : Hid (∀ W, Below w.heap.size w W → Calls Tryd.prog 23 #[.int .i64 xm] W fun e w' => e = .returned (.string F1) ∧ Below W.heap.size W w') := by
     show ∀ W, _ → _
     intro W _; rw [hF1]; exact sFormatInt_c xm W i0
    have K2 : Hid (∀ W, Below w.heap.size w W → Calls Tryd.prog 23 #[.int .i64 xc] W fun e w' => e = .returned (.string F2) ∧ Below W.heap.size W w') := by
     show ∀ W, _ → _
     intro W _; rw [hF2]; exact sFormatInt_c xc W i1
    have HSS : Hid (∀ w', Below w.heap.size w w' → (w'.cell? ⟨b, off + k * 3, none⟩ = some (.int .i64 xm) ∧ w'.cell? ⟨b, off + k * 3 + 1, none⟩ = some (.int .i64 xc))) := by
     show ∀ w', _ → _
     intro w' hb
     exact ⟨cells_below hb _ _ hc0, cells_below hb _ _ hc1⟩
    replace hc2 := cells_below hB _ _ hc2
    have n1 : ¬ 9223372036854775807 < s.size + 1 := by omega
    have n2 : ¬ 9223372036854775807 < s.size + 1 + F1.size := by omega
    clear hF1 hF2 hc0 hc1
    cases xe
    ·have n3 : ¬ 9223372036854775807 < s.size + 1 + F1.size + 2 := by omega
     have n4 : ¬ 9223372036854775807 < s.size + 1 + F1.size + 2 + F2.size := by omega
     have HT2 := Lib.hid (HT.out ⟨#[62, 61]⟩ rfl)
     go_wp2
     refine hbg HSS.out hB.drew (fun hHeld => ?_)
     refine tka 0 21 hHeld ?_; simp only [putS]
     refine tka 1 22 hHeld ?_; simp only [putS]
     refine tka 2 23 hHeld ?_; simp only [putS]
     refine tka 3 24 hHeld ?_; simp only [putS]
     refine tka 4 25 hHeld ?_; simp only [putS]
     refine tka 5 26 hHeld ?_; simp only [putS]
     refine tka 6 27 hHeld ?_; simp only [putS]
     refine tka 9 30 hHeld ?_; simp only [putS]
     refine tka 11 32 hHeld ?_; simp only [putS]
     refine tka 12 33 hHeld ?_; simp only [putS]
     refine tka 13 34 hHeld ?_; simp only [putS]
     refine tka 14 35 hHeld ?_; simp only [putS]
     refine tka 15 36 hHeld ?_; simp only [putS]
     refine wpAnyH_ready (rs := [7]) (by kernel_rfl) (by simp) ?_
     refine AllReadyH.cons (o := ⟨some 28, _, _, _, _, _⟩) rfl (fun K hK => ?_) AllReadyH.nil
     clear hHeld
     go_simp
     refine (K1.out _ hB.drew).mono ?_
     rintro e w1 ⟨rfl, hb1⟩
     have hB1 := hB.trans (((Below.refl wr.heap.size wr).drew.trans (hb1.mono (by simp))).mono hB.size)
     go_wp2_with fail
     refine hK.out _ _ (HSS.out _ hB1) (fun hHeld => ?_)
     clear hK K
     try simp only [putS]
     refine tka 8 29 hHeld ?_; simp only [putS]
     refine tka 10 31 hHeld ?_; simp only [putS]
     refine wpAnyH_ready (rs := [16]) (by kernel_rfl) (by simp) ?_
     refine AllReadyH.cons (o := ⟨some 37, _, _, _, _, _⟩) rfl (fun K hK => ?_) AllReadyH.nil
     clear hHeld
     go_simp
     refine (K2.out _ hB1).mono ?_
     rintro e w2 ⟨rfl, hb2⟩
     have hB2 := hB1.trans (hb2.mono hB1.size)
     go_wp2_with fail
     refine hK.out _ _ (HSS.out _ hB2) (fun hHeld => ?_)
     clear hK K
     try simp only [putS]
     refine tka 17 38 hHeld ?_; simp only [putS]
     refine tka 18 3 hHeld ?_; simp only [putS]
     refine wpAnyH_done (by kernel_rfl) ?_ _
     clear hHeld
     clear HSS K1 K2
     go_wp2
     go_roundw
     case rel => exact ⟨k + 1, _, by omega, by omega, by go_num, rfl, by simp only [ByteArray.size_append, sz1, sz2]; omega, HT2.out, hB2⟩
     case measure => simp [intOf]; omega
    ·have n3 : ¬ 9223372036854775807 < s.size + 1 + F1.size + 1 := by omega
     have n4 : ¬ 9223372036854775807 < s.size + 1 + F1.size + 1 + F2.size := by omega
     have HT2 := Lib.hid (HT.out ⟨#[61]⟩ rfl)
     go_wp2
     refine hbg HSS.out hB.drew (fun hHeld => ?_)
     refine tka 0 21 hHeld ?_; simp only [putS]
     refine tka 1 22 hHeld ?_; simp only [putS]
     refine tka 2 23 hHeld ?_; simp only [putS]
     refine tka 3 24 hHeld ?_; simp only [putS]
     refine tka 4 25 hHeld ?_; simp only [putS]
     refine tka 5 26 hHeld ?_; simp only [putS]
     refine tka 6 27 hHeld ?_; simp only [putS]
     refine tka 9 30 hHeld ?_; simp only [putS]
     refine tka 11 32 hHeld ?_; simp only [putS]
     refine tka 12 33 hHeld ?_; simp only [putS]
     refine tka 13 34 hHeld ?_; simp only [putS]
     refine tka 14 35 hHeld ?_; simp only [putS]
     refine tka 15 36 hHeld ?_; simp only [putS]
     refine wpAnyH_ready (rs := [7]) (by kernel_rfl) (by simp) ?_
     refine AllReadyH.cons (o := ⟨some 28, _, _, _, _, _⟩) rfl (fun K hK => ?_) AllReadyH.nil
     clear hHeld
     go_simp
     refine (K1.out _ hB.drew).mono ?_
     rintro e w1 ⟨rfl, hb1⟩
     have hB1 := hB.trans (((Below.refl wr.heap.size wr).drew.trans (hb1.mono (by simp))).mono hB.size)
     go_wp2_with fail
     refine hK.out _ _ (HSS.out _ hB1) (fun hHeld => ?_)
     clear hK K
     try simp only [putS]
     refine tka 8 29 hHeld ?_; simp only [putS]
     refine tka 10 31 hHeld ?_; simp only [putS]
     refine wpAnyH_ready (rs := [16]) (by kernel_rfl) (by simp) ?_
     refine AllReadyH.cons (o := ⟨some 37, _, _, _, _, _⟩) rfl (fun K hK => ?_) AllReadyH.nil
     clear hHeld
     go_simp
     refine (K2.out _ hB1).mono ?_
     rintro e w2 ⟨rfl, hb2⟩
     have hB2 := hB1.trans (hb2.mono hB1.size)
     go_wp2_with fail
     refine hK.out _ _ (HSS.out _ hB2) (fun hHeld => ?_)
     clear hK K
     try simp only [putS]
     refine tka 17 38 hHeld ?_; simp only [putS]
     refine tka 18 3 hHeld ?_; simp only [putS]
     refine wpAnyH_done (by kernel_rfl) ?_ _
     clear hHeld
     clear HSS K1 K2
     go_wp2
     go_roundw
     case rel => exact ⟨k + 1, _, by omega, by omega, by go_num, rfl, by simp only [ByteArray.size_append, sz1, sz2]; omega, HT2.out, hB2⟩
     case measure => simp [intOf]; omega
   ·have HE : Hid (s = seenT (l.take 14)) := by show _ = _; rw [HS.out, take_min HL.out (k := k) (by omega) (by omega)]
    have hz : s.size ≤ 630 := by omega
    have hk9 : k = 14 := by omega
    subst hk9
    go_wp2
    go_ret
    exact ⟨by rw [← HE.out]; rfl, by rw [← HE.out]; exact hz, hB⟩
  ·have HE : Hid (s = seenT (l.take 14)) := by show _ = _; rw [HS.out, take_min HL.out (k := k) (by omega) (by omega)]
   have hz : s.size ≤ 630 := by omega
   go_wp2
   go_ret
   exact ⟨by rw [← HE.out]; rfl, by rw [← HE.out]; exact hz, hB⟩
set_option maxRecDepth 100000 in
set_option maxHeartbeats 1600000 in
theorem sFormatRun_c (csr : List Value) (r : RunD) (w : World) (hr : (rRun NB).rep w csr r) :
  Calls Tryd.prog 7 #[.agg csr.toArray] w fun e w' => e = .returned (.string (runT r)) ∧ Below w.heap.size w w' := by
 have rr := hr
 obtain ⟨ArSeen, nrSeen, crSeen, ArAnswerVars, nrAnswerVars, crAnswerVars, ArAnswerRows, nrAnswerRows, crAnswerRows, rfl, hrCost, hrSteps, hrSeen, hrAnswerVars, hrAnswerRows⟩ := rRun_rep.1 hr
 clear hr
 have hB : Below w.heap.size w w := Below.refl _ _
 have hAr := (Below.refl (World.heap (w)).size (w)).alloc (Nat.le_refl _) (.cells #[.bool r.fDone, .int .i64 r.fCost, .int .i64 r.fSteps, .slice ArSeen nrSeen crSeen, .slice ArAnswerVars nrAnswerVars crAnswerVars, .slice ArAnswerRows nrAnswerRows crAnswerRows] 34)
 replace hB := hB.trans (hAr.mono hB.size)
 have bxr := Bx.new (w) [.bool r.fDone, .int .i64 r.fCost, .int .i64 r.fSteps, .slice ArSeen nrSeen crSeen, .slice ArAnswerVars nrAnswerVars crAnswerVars, .slice ArAnswerRows nrAnswerRows crAnswerRows] 34
 clear hAr
 have hnS := hrSeen.bound
 obtain ⟨rd, rc, rst, rl, ra⟩ := r
 dsimp only at *
 have z1 := fmtI_le hrCost
 obtain ⟨F1, hF1⟩ : ∃ F, F = fmtI rc := ⟨_, rfl⟩
 obtain ⟨T, hT⟩ : ∃ T, T = seenT (rl.take 14) := ⟨_, rfl⟩
 rw [← hF1] at z1
 have HF1 := Lib.hid hF1; clear hF1
 have HT := Lib.hid hT; clear hT
 go_enter Tryd.func7, Tryd.ntmps7
 go_upto_region 1 with fail
 obtain ⟨wb, hwb⟩ : ∃ W, W = w.alloc (.cells #[.bool rd, .int .i64 rc, .int .i64 rst, .slice ArSeen nrSeen crSeen, .slice ArAnswerVars nrAnswerVars crAnswerVars, .slice ArAnswerRows nrAnswerRows crAnswerRows] 34) := ⟨_, rfl⟩
 rw [← hwb] at hB bxr ⊢
 clear hwb
 have HSS : Hid (∀ w', Below wb.heap.size wb w' → (w'.cell? ⟨w.heap.size, 1, none⟩ = some (.int .i64 rc) ∧ w'.cell? ⟨w.heap.size, 3, none⟩ = some (.slice ArSeen nrSeen crSeen))) := by
  show ∀ w', _ → _
  intro w' hb
  exact ⟨(bxr.below hb) 1 _ rfl, (bxr.below hb) 3 _ rfl⟩
 have K1 : Hid (∀ W, Below wb.heap.size wb W → Calls Tryd.prog 23 #[.int .i64 rc] W fun e w' => e = .returned (.string F1) ∧ Below W.heap.size W w') := by
  show ∀ W, _ → _
  intro W _; rw [HF1.out]; exact sFormatInt_c rc W hrCost
 have K2 : Hid (∀ W, Below wb.heap.size wb W → Calls Tryd.prog 24 #[.slice ArSeen nrSeen crSeen] W fun e w' => e = .returned (.string (seenT (rl.take 14))) ∧ (seenT (rl.take 14)).size ≤ 630 ∧ Below W.heap.size W w') := by
  show ∀ W, _ → _
  intro W hW
  exact sSeen_c _ _ _ rl W (hrSeen.below (rObservation_ok NB) (hB.trans (hW.mono hB.size)))
 have n1 : ¬ 9223372036854775807 < 5 + F1.size := by omega
 have kr0 := bxr 0 _ rfl
 cases rd
 ·clear n1
  have n1 : ¬ 9223372036854775807 < 5 + F1.size := by omega
  go_wp2
  refine hbg HSS.out (Below.refl _ _).drew (fun hHeld => ?_)
  refine tka 0 13 hHeld ?_; simp only [putS]
  refine tka 1 14 hHeld ?_; simp only [putS]
  refine tka 4 17 hHeld ?_; simp only [putS]
  refine tka 5 18 hHeld ?_; simp only [putS]
  refine wpAnyH_ready (rs := [2]) (by kernel_rfl) (by simp) ?_
  refine AllReadyH.cons (o := ⟨some 15, _, _, _, _, _⟩) rfl (fun K hK => ?_) AllReadyH.nil
  clear hHeld
  go_simp
  refine (K1.out _ (Below.refl wb.heap.size wb).drew).mono ?_
  rintro e w1 ⟨rfl, hb1⟩
  have hB1 : Below wb.heap.size wb w1 := ((Below.refl wb.heap.size wb).drew.trans (hb1.mono (by simp)))
  go_wp2_with fail
  refine hK.out _ _ (HSS.out _ hB1) (fun hHeld => ?_)
  clear hK K
  try simp only [putS]
  refine tka 3 16 hHeld ?_; simp only [putS]
  refine wpAnyH_ready (rs := [6]) (by kernel_rfl) (by simp) ?_
  refine AllReadyH.cons (o := ⟨some 19, _, _, _, _, _⟩) rfl (fun K hK => ?_) AllReadyH.nil
  clear hHeld
  go_simp
  refine (K2.out _ hB1).mono ?_
  rintro e w2 ⟨rfl, hz2, hb2⟩
  have hB2 := hB1.trans (hb2.mono hB1.size)
  rw [← HT.out] at hz2 ⊢
  have n2 : ¬ 9223372036854775807 < 5 + F1.size + T.size := by omega
  go_wp2_with fail
  refine hK.out _ _ (HSS.out _ hB2) (fun hHeld => ?_)
  clear hK K
  try simp only [putS]
  refine tka 7 20 hHeld ?_; simp only [putS]
  refine tka 8 2 hHeld ?_; simp only [putS]
  refine wpAnyH_done (by kernel_rfl) ?_ _
  clear hHeld
  go_wp2
  go_ret
  exact ⟨by rw [HF1.out, HT.out]; rfl, hB.trans (hB2.mono hB.size)⟩
 go_wp2
 refine hbg HSS.out (Below.refl _ _).drew (fun hHeld => ?_)
 refine tka 0 5 hHeld ?_; simp only [putS]
 refine tka 1 6 hHeld ?_; simp only [putS]
 refine tka 4 9 hHeld ?_; simp only [putS]
 refine tka 5 10 hHeld ?_; simp only [putS]
 refine wpAnyH_ready (rs := [2]) (by kernel_rfl) (by simp) ?_
 refine AllReadyH.cons (o := ⟨some 7, _, _, _, _, _⟩) rfl (fun K hK => ?_) AllReadyH.nil
 clear hHeld
 go_simp
 refine (K1.out _ (Below.refl wb.heap.size wb).drew).mono ?_
 rintro e w1 ⟨rfl, hb1⟩
 have hB1 : Below wb.heap.size wb w1 := ((Below.refl wb.heap.size wb).drew.trans (hb1.mono (by simp)))
 go_wp2_with fail
 refine hK.out _ _ (HSS.out _ hB1) (fun hHeld => ?_)
 clear hK K
 try simp only [putS]
 refine tka 3 8 hHeld ?_; simp only [putS]
 refine wpAnyH_ready (rs := [6]) (by kernel_rfl) (by simp) ?_
 refine AllReadyH.cons (o := ⟨some 11, _, _, _, _, _⟩) rfl (fun K hK => ?_) AllReadyH.nil
 clear hHeld
 go_simp
 refine (K2.out _ hB1).mono ?_
 rintro e w2 ⟨rfl, hz2, hb2⟩
 have hB2 := hB1.trans (hb2.mono hB1.size)
 rw [← HT.out] at hz2 ⊢
 have n2 : ¬ 9223372036854775807 < 5 + F1.size + T.size := by omega
 go_wp2_with fail
 refine hK.out _ _ (HSS.out _ hB2) (fun hHeld => ?_)
 clear hK K
 try simp only [putS]
 refine tka 7 12 hHeld ?_; simp only [putS]
 refine tka 8 2 hHeld ?_; simp only [putS]
 refine wpAnyH_done (by kernel_rfl) ?_ _
 clear hHeld
 go_wp2
 go_ret
 exact ⟨by rw [HF1.out, HT.out]; rfl, hB.trans (hB2.mono hB.size)⟩
set_option maxRecDepth 100000 in
set_option maxHeartbeats 1600000 in
theorem iFormatRun_c (csr : List Value) (r : RunD) (w : World) (hr : (rRun NB).rep w csr r) (ht : Tab w) :
  Calls Tryd.prog 9 #[.agg csr.toArray] w fun e w' => e = .returned (.string (runT r)) ∧ Below w.heap.size w w' := by
 have rr := hr
 obtain ⟨ArSeen, nrSeen, crSeen, ArAnswerVars, nrAnswerVars, crAnswerVars, ArAnswerRows, nrAnswerRows, crAnswerRows, rfl, hrCost, hrSteps, hrSeen, hrAnswerVars, hrAnswerRows⟩ := rRun_rep.1 hr
 clear hr
 have hB : Below w.heap.size w w := Below.refl _ _
 have hAr := (Below.refl (World.heap (w)).size (w)).alloc (Nat.le_refl _) (.cells #[.bool r.fDone, .int .i64 r.fCost, .int .i64 r.fSteps, .slice ArSeen nrSeen crSeen, .slice ArAnswerVars nrAnswerVars crAnswerVars, .slice ArAnswerRows nrAnswerRows crAnswerRows] 34)
 replace hB := hB.trans (hAr.mono hB.size)
 have bxr := Bx.new (w) [.bool r.fDone, .int .i64 r.fCost, .int .i64 r.fSteps, .slice ArSeen nrSeen crSeen, .slice ArAnswerVars nrAnswerVars crAnswerVars, .slice ArAnswerRows nrAnswerRows crAnswerRows] 34
 clear hAr
 have hnS := hrSeen.bound
 have hncS := hrSeen.nc
 have HL := Lib.hid hrSeen.len
 obtain ⟨rd, rc, rst, rl, ra⟩ := r
 dsimp only at *
 have z0 := fmtI_le hrCost
 obtain ⟨F0, hF0⟩ : ∃ F, F = fmtI rc := ⟨_, rfl⟩
 rw [← hF0] at z0
 have HF0 := Lib.hid hF0; clear hF0
 obtain ⟨hd, hhd⟩ : ∃ h : ByteArray, h = if rd then ⟨#[100, 111, 110, 101, 32]⟩ else ⟨#[115, 116, 111, 112, 32]⟩ := ⟨_, rfl⟩
 have hd5 : hd.size = 5 := by rw [hhd]; cases rd <;> rfl
 have HR : Hid (runT ⟨rd, rc, rst, rl, ra⟩ = hd ++ F0 ++ seenT (rl.take 14)) := by show _ = _; rw [hhd, HF0.out]; rfl
 have HHD := Lib.hid hhd; clear hhd
 have HD5 := Lib.hid hd5
 have n0 : ¬ 9223372036854775807 < 5 + F0.size := by omega
 have n0' : ¬ 9223372036854775807 < hd.size + F0.size := by omega
 obtain ⟨M, hM1, hM2, hM3, hmin⟩ : ∃ M : Nat, M ≤ nrSeen ∧ M ≤ 14 ∧ rl.take M = rl.take 14 ∧ min (nrSeen : Int) 14 = (M : Int) := by
  by_cases h : nrSeen ≤ 14
  ·exact ⟨nrSeen, Nat.le_refl _, h, by rw [List.take_of_length_le (by rw [HL.out]; omega), List.take_of_length_le (by rw [HL.out]; omega)], by omega⟩
  ·exact ⟨14, by omega, Nat.le_refl _, rfl, by omega⟩
 have HM3 := Lib.hid hM3; clear hM3
 go_enter Tryd.func9, Tryd.ntmps9
 go_upto_region 1 with fail
 obtain ⟨wb, hwb⟩ : ∃ W, W = w.alloc (.cells #[.bool rd, .int .i64 rc, .int .i64 rst, .slice ArSeen nrSeen crSeen, .slice ArAnswerVars nrAnswerVars crAnswerVars, .slice ArAnswerRows nrAnswerRows crAnswerRows] 34) := ⟨_, rfl⟩
 rw [← hwb] at hB bxr ⊢
 clear hwb
 have kr0 := bxr 0 _ rfl
 have kr1 := bxr 1 _ rfl
 have K0 : Hid (Calls Tryd.prog 27 #[.int .i64 rc] wb fun e w' => e = .returned (.string F0) ∧ Below wb.heap.size wb w') := by
  show Calls _ _ _ _ _
  rw [HF0.out]; exact iFormatInt_c rc wb hrCost (ht.below hB)
 clear hd5
 cases rd
 all_goals
  go_wp2_with fail
  refine K0.out.mono ?_
  rintro e w1 ⟨rfl, hb1⟩
  clear kr0 kr1
  have kr3 := (bxr.below hb1) 3 _ rfl
  have HD0 : Hid (∀ x : ByteArray, x = hd → x ++ F0 = hd ++ F0 ++ seenT (rl.take 0)) := by
   show ∀ x : ByteArray, _ → _
   rintro x rfl
   rw [List.take_zero, show seenT [] = ⟨#[]⟩ from rfl]; apply ByteArray.ext; simp
  by_cases hn0 : 0 < nrSeen
  ·obtain ⟨bS, oS, eA⟩ : ∃ b o, ArSeen = some ⟨b, o, none⟩ := by obtain ⟨b, o, e, _⟩ := hrSeen.cell hn0; exact ⟨b, o, e⟩
   subst eA
   have hMc : M ≤ crSeen := by omega
   have hMci : (M : Int) ≤ (crSeen : Int) := by omega
   go_wp2
   go_loopw [3, 22] (fun vs vi wr => ∃ (k : Nat) (s : ByteArray), k ≤ M ∧ vi = .int .i64 k ∧ vs = .string s ∧ s.size ≤ 26 + 45 * k ∧ s = hd ++ F0 ++ seenT (rl.take k) ∧ Below wb.heap.size wb wr) (fun _ vi _ => M - (intOf vi).toNat)
   case atStart => exact ⟨0, _, Nat.zero_le _, rfl, rfl, by rw [ByteArray.size_append]; show 5 + F0.size ≤ _; omega, HD0.out _ HHD.out.symm, hb1⟩
   case round =>
    clear kr3 hb1
    obtain ⟨k, s, hk, rfl, rfl, hsz, hs, hE⟩ := hrel
    have HS := Lib.hid hs; clear hs
    have hB2 := hB.trans (hE.mono hB.size)
    by_cases hlt : k < M
    ·obtain ⟨b', o', x, e', hc0, hc1, hc2, i0, i1, hx⟩ := hrSeen.eObservation (k := k) (by omega)
     injection e' with e'; injection e' with e1 e2; subst e1; subst e2
     have HX := Lib.hid hx.out; clear hx
     obtain ⟨xm, xc, xe⟩ := x
     dsimp only at hc0 hc1 hc2 i0 i1
     have z1 := fmtI_le i0
     have z2 := fmtI_le i1
     obtain ⟨F1, hF1⟩ : ∃ F, F = fmtI xm := ⟨_, rfl⟩
     obtain ⟨F2, hF2⟩ : ∃ F, F = fmtI xc := ⟨_, rfl⟩
     rw [← hF1] at z1
     rw [← hF2] at z2
     have HF1 := Lib.hid hF1; clear hF1
     have HF2 := Lib.hid hF2; clear hF2
     have HT : Hid (∀ G, G = obsSign xe → s ++ (⟨#[32]⟩ ++ F1 ++ G ++ F2) = hd ++ F0 ++ seenT (rl.take (k + 1))) := by
      show ∀ G, _ → _
      intro G hG
      rw [seenT_snoc HX.out, HS.out, hG, HF1.out, HF2.out]
      simp only [obsT, ByteArray.append_assoc]
     have K1 : Hid (∀ W, Below wb.heap.size wb W → Calls Tryd.prog 27 #[.int .i64 xm] W fun e w' => e = .returned (.string F1) ∧ Below W.heap.size W w') := by
      show ∀ W, _ → _
      intro W hW; rw [HF1.out]; exact iFormatInt_c xm W i0 (ht.below (hB.trans (hW.mono hB.size)))
     have K2 : Hid (∀ W, Below wb.heap.size wb W → Calls Tryd.prog 27 #[.int .i64 xc] W fun e w' => e = .returned (.string F2) ∧ Below W.heap.size W w') := by
      show ∀ W, _ → _
      intro W hW; rw [HF2.out]; exact iFormatInt_c xc W i1 (ht.below (hB.trans (hW.mono hB.size)))
     replace hc0 := cells_below hB2 _ _ hc0
     replace hc1 := cells_below hB2 _ _ hc1
     replace hc2 := cells_below hB2 _ _ hc2
     go_upto_region 8 with fail
     have bxx := Bx.new wr [.int .i64 xm, .int .i64 xc, .bool xe] 70
     have hAx := (Below.refl wr.heap.size wr).alloc (Nat.le_refl _) (.cells #[.int .i64 xm, .int .i64 xc, .bool xe] 70)
     obtain ⟨wx, hwx⟩ : ∃ W, W = wr.alloc (.cells #[.int .i64 xm, .int .i64 xc, .bool xe] 70) := ⟨_, rfl⟩
     rw [← hwx] at hAx bxx ⊢
     clear hwx hc0 hc1 hc2
     have hE2 := hE.trans (hAx.mono hE.size)
     obtain ⟨gx, hgx⟩ : ∃ g, g = wr.heap.size := ⟨_, rfl⟩
     rw [← hgx] at bxx ⊢
     clear hgx hAx
     have HSX : Hid (∀ w', Below wx.heap.size wx w' → (w'.cell? ⟨gx, 0, none⟩ = some (.int .i64 xm) ∧ w'.cell? ⟨gx, 1, none⟩ = some (.int .i64 xc))) := by
      show ∀ w', _ → _
      intro w' hb
      exact ⟨(bxx.below hb) 0 _ rfl, (bxx.below hb) 1 _ rfl⟩
     have kx2 := bxx 2 _ rfl
     have n1 : ¬ 9223372036854775807 < 1 + F1.size := by omega
     cases xe
     ·have n2 : ¬ 9223372036854775807 < 1 + F1.size + 2 := by omega
      have n3 : ¬ 9223372036854775807 < 1 + F1.size + 2 + F2.size := by omega
      have n4 : ¬ 9223372036854775807 < s.size + (1 + F1.size + 2 + F2.size) := by omega
      have HT2 := Lib.hid (HT.out ⟨#[62, 61]⟩ rfl)
      go_wp2
      refine hbg HSX.out (Below.refl _ _).drew (fun hHeld => ?_)
      refine tka 0 28 hHeld ?_; simp only [putS]
      refine tka 1 29 hHeld ?_; simp only [putS]
      refine tka 2 30 hHeld ?_; simp only [putS]
      refine tka 5 33 hHeld ?_; simp only [putS]
      refine tka 7 35 hHeld ?_; simp only [putS]
      refine tka 8 36 hHeld ?_; simp only [putS]
      refine wpAnyH_ready (rs := [3]) (by kernel_rfl) (by simp) ?_
      refine AllReadyH.cons (o := ⟨some 31, _, _, _, _, _⟩) rfl (fun K hK => ?_) AllReadyH.nil
      clear hHeld
      go_simp
      refine (K1.out _ (hE2.drew)).mono ?_
      rintro e w1 ⟨rfl, hb1⟩
      have hC1 : Below wx.heap.size wx w1 := ((Below.refl wx.heap.size wx).drew.trans (hb1.mono (by simp)))
      go_wp2_with fail
      refine hK.out _ _ (HSX.out _ hC1) (fun hHeld => ?_)
      clear hK K
      try simp only [putS]
      refine tka 4 32 hHeld ?_; simp only [putS]
      refine tka 6 34 hHeld ?_; simp only [putS]
      refine wpAnyH_ready (rs := [9]) (by kernel_rfl) (by simp) ?_
      refine AllReadyH.cons (o := ⟨some 37, _, _, _, _, _⟩) rfl (fun K hK => ?_) AllReadyH.nil
      clear hHeld
      go_simp
      refine (K2.out _ (hE2.trans (hC1.mono hE2.size))).mono ?_
      rintro e w2 ⟨rfl, hb2⟩
      have hC2 := hC1.trans (hb2.mono hC1.size)
      go_wp2_with fail
      refine hK.out _ _ (HSX.out _ hC2) (fun hHeld => ?_)
      clear hK K
      try simp only [putS]
      refine tka 10 38 hHeld ?_; simp only [putS]
      refine tka 11 39 hHeld ?_; simp only [putS]
      refine tka 12 3 hHeld ?_; simp only [putS]
      refine wpAnyH_done (by kernel_rfl) ?_ _
      clear hHeld
      clear HSX K1 K2
      go_wp2
      go_roundw
      case rel => exact ⟨k + 1, _, by omega, by go_num, rfl, by simp only [ByteArray.size_append, sz1, sz2]; omega, HT2.out, hE2.trans (hC2.mono hE2.size)⟩
      case measure => simp [intOf]; omega
     ·have n2 : ¬ 9223372036854775807 < 1 + F1.size + 1 := by omega
      have n3 : ¬ 9223372036854775807 < 1 + F1.size + 1 + F2.size := by omega
      have n4 : ¬ 9223372036854775807 < s.size + (1 + F1.size + 1 + F2.size) := by omega
      have HT2 := Lib.hid (HT.out ⟨#[61]⟩ rfl)
      go_wp2
      refine hbg HSX.out (Below.refl _ _).drew (fun hHeld => ?_)
      refine tka 0 28 hHeld ?_; simp only [putS]
      refine tka 1 29 hHeld ?_; simp only [putS]
      refine tka 2 30 hHeld ?_; simp only [putS]
      refine tka 5 33 hHeld ?_; simp only [putS]
      refine tka 7 35 hHeld ?_; simp only [putS]
      refine tka 8 36 hHeld ?_; simp only [putS]
      refine wpAnyH_ready (rs := [3]) (by kernel_rfl) (by simp) ?_
      refine AllReadyH.cons (o := ⟨some 31, _, _, _, _, _⟩) rfl (fun K hK => ?_) AllReadyH.nil
      clear hHeld
      go_simp
      refine (K1.out _ (hE2.drew)).mono ?_
      rintro e w1 ⟨rfl, hb1⟩
      have hC1 : Below wx.heap.size wx w1 := ((Below.refl wx.heap.size wx).drew.trans (hb1.mono (by simp)))
      go_wp2_with fail
      refine hK.out _ _ (HSX.out _ hC1) (fun hHeld => ?_)
      clear hK K
      try simp only [putS]
      refine tka 4 32 hHeld ?_; simp only [putS]
      refine tka 6 34 hHeld ?_; simp only [putS]
      refine wpAnyH_ready (rs := [9]) (by kernel_rfl) (by simp) ?_
      refine AllReadyH.cons (o := ⟨some 37, _, _, _, _, _⟩) rfl (fun K hK => ?_) AllReadyH.nil
      clear hHeld
      go_simp
      refine (K2.out _ (hE2.trans (hC1.mono hE2.size))).mono ?_
      rintro e w2 ⟨rfl, hb2⟩
      have hC2 := hC1.trans (hb2.mono hC1.size)
      go_wp2_with fail
      refine hK.out _ _ (HSX.out _ hC2) (fun hHeld => ?_)
      clear hK K
      try simp only [putS]
      refine tka 10 38 hHeld ?_; simp only [putS]
      refine tka 11 39 hHeld ?_; simp only [putS]
      refine tka 12 3 hHeld ?_; simp only [putS]
      refine wpAnyH_done (by kernel_rfl) ?_ _
      clear hHeld
      clear HSX K1 K2
      go_wp2
      go_roundw
      case rel => exact ⟨k + 1, _, by omega, by go_num, rfl, by simp only [ByteArray.size_append, sz1, sz2]; omega, HT2.out, hE2.trans (hC2.mono hE2.size)⟩
      case measure => simp [intOf]; omega
    ·have HE : Hid (s = hd ++ F0 ++ seenT (rl.take 14)) := by show _ = _; rw [HS.out, show k = M by omega, HM3.out]
     go_wp2
     go_ret
     exact ⟨by rw [HR.out, ← HE.out]; rfl, hB2⟩
  ·have hE : Hid (hd ++ F0 ++ seenT (rl.take 14) = hd ++ F0 ++ seenT (rl.take 0)) := by
    show _ = _
    rw [← HM3.out, show M = 0 by omega]
   obtain rfl : nrSeen = 0 := by omega
   clear hn0
   have hM0 : M = 0 := by omega
   subst hM0
   rcases ArSeen with _ | ⟨bS, oS, spS⟩
   all_goals
    go_wp2
    go_loopw [3, 22] (fun vs vi wr => ∃ s : ByteArray, vi = .int .i64 0 ∧ vs = .string s ∧ s = hd ++ F0 ++ seenT (rl.take 0) ∧ Below wb.heap.size wb wr) (fun _ _ _ => 0)
    case atStart => exact ⟨_, rfl, rfl, HD0.out _ HHD.out.symm, hb1⟩
    case round =>
     clear kr3 hb1
     obtain ⟨s, rfl, rfl, hs, hE9⟩ := hrel
     have HS := Lib.hid hs; clear hs
     go_wp2
     go_ret
     exact ⟨by rw [HR.out, hE.out, ← HS.out]; rfl, hB.trans (hE9.mono hB.size)⟩
end Go.Proofs.YtnbikckbnbgjkaaDoor
