/-
  Flo
-/
import Derived.Test.YtnbikckbnbgjkaaDoorKeep
import Derived.Test.YtnbikckbnbgjkaaDoorFmi
import Derived.Test.YtnbikckbnbgjkaaDoorBox
import Derived.Deep.Cut
namespace Go.Proofs.YtnbikckbnbgjkaaDoor
open Go.RowKit
set_option linter.unusedVariables false
set_option linter.unusedSimpArgs false
def rByte : Rp UInt8 := ⟨1, fun _ cs x => cs = [.int .u8 (x.toNat : Int)], fun _ fp cs x => fp = [] ∧ cs = [.int .u8 (x.toNat : Int)]⟩
theorem rByte_ok : rByte.Ok where
 pos := by simp [rByte]
 len h := by rw [h]; rfl
 one h u hu := by rw [h] at hu; simp at hu; subst hu; rfl
 keep h _ := h
 toRep h := h.2
 okeep h _ := h
 lt h k hk := by rw [h.1] at hk; cases hk
theorem eiByte : Ei Tryd.prog 98 5 (.int .u8 0) rByte.size 1 := ⟨by kernel_rfl, by kernel_rfl, rfl⟩
/-- a row of bytes, turned to a string -/
theorem conv_row {w : World} {A : Option Addr} {n c : Nat} {L : List UInt8} (h : RS NB rByte w A n c L) : (convert 98 9 (.slice A n c)).run Tryd.prog w = .ok (.string ⟨L.toArray⟩) w := by
 have hl := h.len
 cases A with
 | none =>
  have h0 : n = 0 := by
   rcases Nat.eq_zero_or_pos n with h0 | h0
   ·exact h0
   ·obtain ⟨_, _, e, _⟩ := h.cell h0; cases e
  subst h0
  have hL : L = [] := List.eq_nil_of_length_eq_zero hl
  subst hL
  rw [run_convert_bytes_string (P := Tryd.prog) w _ _ 5 none 0 c Tryd.underlying98 Tryd.underlying5 Tryd.underlying9]
  rfl
 | some a =>
  subst hl
  refine run_convert_bytes_back (P := Tryd.prog) w _ _ 5 a c L Tryd.underlying98 Tryd.underlying5 Tryd.underlying9 (fun j hj => ?_)
  obtain ⟨b, off, e, hc⟩ := h.cell (by omega)
  injection e with e; subst e
  obtain ⟨cs, hr, hcell⟩ := hc j L[j] (List.getElem?_eq_getElem hj)
  have hcs : cs = [.int .u8 (L[j].toNat : Int)] := hr
  subst hcs
  have := hcell 0 _ rfl
  have e2 : (⟨b, off, none⟩ : Addr).add j = ⟨b, off + j * rByte.size + 0, none⟩ := by
   have e3 : (⟨b, off, none⟩ : Addr).add j = ⟨b, off + j, none⟩ := by unfold Addr.add; split <;> simp_all
   rw [e3]; simp [rByte]
  rw [e2]; exact this
def digsT (l : List Int) : ByteArray := l.foldl (fun s d => s ++ fmtI d) ⟨#[]⟩
def locT (l : List Int) : ByteArray := if isLoc l then digsT l else ⟨#[]⟩
theorem digsT_snoc {l : List Int} {k : Nat} {x : Int} (h : l[k]? = some x) : digsT (l.take (k + 1)) = digsT (l.take k) ++ fmtI x := by
 unfold digsT; rw [take_snoc h, List.foldl_append]; rfl
theorem locT_no {l : List Int} (h : isLoc l = false) : locT l = ⟨#[]⟩ := by simp [locT, h]
theorem locT_yes {l : List Int} (h : isLoc l = true) : locT l = digsT l := by simp [locT, h]
def digC (d : Int) : UInt8 := UInt8.ofNat (48 + d.toNat)
theorem fmtI_dig {d : Int} (h0 : 0 ≤ d) (h1 : d ≤ 7) : fmtI d = ⟨#[digC d]⟩ := by
 unfold fmtI Lib.itoa digC
 rw [if_neg (by omega), Lib.decDigits_one (by omega)]
theorem digC_nat {d : Int} (h0 : 0 ≤ d) (h1 : d ≤ 7) : ((digC d).toNat : Int) = 48 + d := by unfold digC; rw [UInt8.toNat_ofNat']; omega
theorem digsT_eq {l : List Int} (h : ∀ x ∈ l, 0 ≤ x ∧ x ≤ 7) : digsT l = ⟨(l.map digC).toArray⟩ := by
 have key : ∀ (r : List Int) (s : ByteArray), (∀ x ∈ r, 0 ≤ x ∧ x ≤ 7) → r.foldl (fun s d => s ++ fmtI d) s = s ++ ⟨(r.map digC).toArray⟩ := by
  intro r
  induction r with
  | nil => intro s _; apply ByteArray.ext; simp
  | cons x r ih =>
   intro s hr
   have hx := hr x List.mem_cons_self
   rw [List.foldl_cons, ih _ (fun y hy => hr y (List.mem_cons_of_mem _ hy)), fmtI_dig hx.1 hx.2]
   apply ByteArray.ext; simp
 unfold digsT
 rw [key l _ h]; apply ByteArray.ext; simp
theorem isLoc_mem {l : List Int} (h : isLoc l = true) : l.length ≤ 16 ∧ ∀ x ∈ l, 0 ≤ x ∧ x ≤ 7 := by
 unfold isLoc at h
 simp only [Bool.and_eq_true, List.all_eq_true, decide_eq_true_eq] at h
 exact ⟨h.2, fun x hx => inR_t.1 (h.1 x hx)⟩
theorem locT_le (l : List Int) : (locT l).size ≤ 16 := by
 cases h : isLoc l
 ·rw [locT_no h]; exact Nat.zero_le _
 ·rw [locT_yes h, digsT_eq (fun x hx => by
   unfold isLoc at h; simp only [Bool.and_eq_true, List.all_eq_true] at h; exact inR_t.1 (h.1 x hx))]
  show (l.map digC).toArray.size ≤ 16
  rw [List.size_toArray, List.length_map]; exact (isLoc_mem h).1
theorem isLoc_w {P : Program} {f : Nat} {A : Option Addr} {n cap : Nat} {l : List Int} {w : World} {v : Bool} (h : isLoc l = v) (hc : Calls P f #[.slice A n cap] w fun e w' => e = .returned (.bool (isLoc l)) ∧ w = w') : Calls P f #[.slice A n cap] w fun e w' => e = .returned (.bool v) ∧ w' = w :=
 hc.mono fun e w' q => ⟨h ▸ q.1, q.2.symm⟩
set_option maxRecDepth 100000 in
set_option maxHeartbeats 1600000 in
theorem sFormatLocation_c (Al : Option Addr) (nl cl : Nat) (l : List Int) (w : World) (hl : RS NB rInt w Al nl cl l) :
  Calls Tryd.prog 59 #[.slice Al nl cl] w fun e w' => e = .returned (.string (locT l)) ∧ Below w.heap.size w w' := by
 have hB := Below.refl w.heap.size w
 have hn := hl.bound
 cases h1 : isLoc l
 ·have K : Hid (∀ W, Below w.heap.size w W → Calls Tryd.prog 71 #[.slice Al nl cl] W fun e w' => e = .returned (.bool false) ∧ w' = W) := by
   show ∀ W, _ → _
   exact fun W hW => isLoc_w h1 (sIsLocation_c _ _ _ l W (hl.below rInt_ok hW))
  have HN := Lib.hid (locT_no h1); clear h1
  go_enter Tryd.func59, Tryd.ntmps59
  go_wp2
  go_loopw [3, 4] (fun v i wr => wr = w ∧ i = .int .i64 0 ∧ v = .string ⟨#[]⟩) (fun _ _ _ => 0)
  case atStart => exact ⟨rfl, rfl, rfl⟩
  case round =>
   obtain ⟨rfl, rfl, rfl⟩ := hrel
   by_cases h0 : 0 < nl
   ·go_wp2_with (go_at_call 71; refine (K.out _ (Below.refl _ _)).mono ?_; rintro e w' ⟨rfl, rfl⟩)
    go_ret
    exact ⟨by rw [HN.out]; rfl, hB⟩
   ·go_wp2
    go_ret
    exact ⟨by rw [HN.out]; rfl, hB⟩
 have K : Hid (∀ W, Below w.heap.size w W → Calls Tryd.prog 71 #[.slice Al nl cl] W fun e w' => e = .returned (.bool true) ∧ w' = W) := by
  show ∀ W, _ → _
  exact fun W hW => isLoc_w h1 (sIsLocation_c _ _ _ l W (hl.below rInt_ok hW))
 have HE := Lib.hid (locT_yes h1)
 obtain ⟨h16, hmem⟩ := isLoc_mem h1
 have HM := Lib.hid hmem
 have hn16 : nl ≤ 16 := by have := hl.len; omega
 clear h1 hmem h16
 go_enter Tryd.func59, Tryd.ntmps59
 go_wp2
 go_loopw [3, 4] (fun v i wr => ∃ (k : Nat) (s : ByteArray), k ≤ nl ∧ i = .int .i64 k ∧ v = .string s ∧ s.size ≤ 21 * k ∧ s = digsT (l.take k) ∧ Below w.heap.size w wr) (fun _ i _ => nl - (intOf i).toNat)
 case atStart => exact ⟨0, _, Nat.zero_le _, rfl, rfl, Nat.le_refl _, rfl, hB⟩
 case round =>
  clear hB
  obtain ⟨k, s, hk, rfl, rfl, hsz, hs, hBr⟩ := hrel
  have HS := Lib.hid hs; clear hs
  by_cases hlt : k < nl
  ·obtain ⟨b, off, x, rfl, hc, hI, hxk⟩ := (hl.below rInt_ok hBr).ati hlt
   have z1 := fmtI_le hI
   have HT := Lib.hid (digsT_snoc hxk.out); clear hxk
   obtain ⟨F1, hF1⟩ : ∃ F, F = fmtI x := ⟨_, rfl⟩
   rw [← hF1] at z1
   have HF1 := Lib.hid hF1; clear hF1
   have K1 : Hid (∀ W, Calls Tryd.prog 23 #[.int .i64 x] W fun e w' => e = .returned (.string F1) ∧ Below W.heap.size W w') := by
    show ∀ W, _
    intro W; rw [HF1.out]; exact sFormatInt_c x W hI
   have n1 : ¬ 9223372036854775807 < s.size + F1.size := by omega
   go_wp2_with (first | (go_at_call 71; refine (K.out _ hBr).mono ?_; rintro e w' ⟨rfl, hww⟩; replace hww := hww.symm; subst hww) | (go_at_call 23; refine (K1.out _).mono ?_; rintro e w2 ⟨rfl, hb2⟩))
   go_roundw
   case rel => exact ⟨k + 1, _, by omega, by go_num, rfl, by rw [ByteArray.size_append]; omega, by rw [HT.out, HS.out, HF1.out], hBr.trans (hb2.mono hBr.size)⟩
   case measure => simp [intOf]; omega
  ·have HX : Hid (s = digsT l) := by show _ = _; rw [HS.out, take_all hl.len hlt]
   go_wp2
   go_ret
   exact ⟨by rw [HE.out, ← HX.out]; rfl, hBr⟩
set_option maxRecDepth 100000 in
set_option maxHeartbeats 1600000 in
theorem iDigitsText_c (Al : Option Addr) (nl cl : Nat) (l : List Int) (w : World) (hl : RS NB rInt w Al nl cl l) (hmem : ∀ x ∈ l, 0 ≤ x ∧ x ≤ 7) (h16 : l.length ≤ 16) :
  Calls Tryd.prog 77 #[.slice Al nl cl] w fun e w' => e = .returned (.string (digsT l)) ∧ Below w.heap.size w w' := by
 have hB := (Below.refl w.heap.size w).alloc (Nat.le_refl _) (.cells #[] 5)
 have hM := MS.empty (B := w.heap.size) (M := NB) (e := 5) (r := rByte) w (Nat.le_refl _)
 have HM := Lib.hid hmem
 have HDT := Lib.hid (digsT_eq hmem)
 have hn16 : nl ≤ 16 := by have := hl.len; omega
 clear hmem h16
 go_enter Tryd.func77, Tryd.ntmps77
 go_wp2
 go_loopw [3, 9] (fun v i wr => ∃ (k : Nat) (A : Option Addr) (c : Nat), k ≤ nl ∧ i = .int .i64 k ∧ v = .slice A k c ∧ MS w.heap.size NB 5 rByte wr A k c ((l.take k).map digC) ∧ Below w.heap.size w wr) (fun _ i _ => nl - (intOf i).toNat)
 case atStart => exact ⟨0, _, 0, Nat.zero_le _, rfl, rfl, hM, hB⟩
 case round =>
  clear hM hB
  obtain ⟨k, A, c, hk, rfl, rfl, hMr, hBr⟩ := hrel
  by_cases hlt : k < nl
  ·obtain ⟨b, off, x, rfl, hc, hI, hxk⟩ := (hl.below rInt_ok hBr).ati hlt
   have hx := HM.out x (mem_of_at hxk.out)
   have HX := Lib.hid hxk.out; clear hxk
   have hcc : IntKind.u8.wrap (48 + x) = 48 + x := IntWalk.u8_in _ (by omega)
   have hd : Hid (rByte.own (wr.alloc (.cells #[.int .u8 (48 + x)] 5)) [] [.int .u8 (48 + x)] (digC x)) := by show rByte.own _ _ _ _; exact ⟨rfl, by rw [digC_nat hx.1 hx.2]⟩
   go_wp2_with (at_builtin; refine wpList_app (r := rByte) rfl _ _ 98 rfl _ 1 eiByte rByte_ok rfl hMr ((Below.refl _ _).alloc (Nat.le_refl _) _) hBr.size ⟨_, 0, none⟩ rfl [] [.int .u8 (48 + x)] (digC x) hd.out (Fr.nil _) (cell_one_new _ _ _) (by unfold NB; omega) (Nat.le_refl _) (by omega) ?_; intro A2 k2 w2 hM2 hb2 hg2)
   go_roundw
   case rel => exact ⟨k + 1, A2, k2, by omega, by go_num, rfl, by rw [take_snoc HX.out, List.map_append]; exact hM2, (hBr.alloc hBr.size _).trans hb2⟩
   case measure => simp [intOf]; omega
  ·have HE : Hid ((l.take k).map digC = l.map digC) := by show _ = _; rw [take_all hl.len hlt]
   have hcv := conv_row (hMr.rs rByte_ok)
   rw [HE.out, ← HDT.out] at hcv
   go_wp2
   go_ret
   exact ⟨rfl, hBr⟩
set_option maxRecDepth 100000 in
set_option maxHeartbeats 1600000 in
theorem iFormatLocation_c (Al : Option Addr) (nl cl : Nat) (l : List Int) (w : World) (hl : RS NB rInt w Al nl cl l) :
  Calls Tryd.prog 63 #[.slice Al nl cl] w fun e w' => e = .returned (.string (locT l)) ∧ Below w.heap.size w w' := by
 have hB := Below.refl w.heap.size w
 cases h1 : isLoc l
 ·have HN := Lib.hid (locT_no h1)
  have K := Lib.hid (isLoc_w h1 (iIsLocation_c _ _ _ l w hl)); clear h1
  go_enter Tryd.func63, Tryd.ntmps63
  go_wp2_with (go_at_call 75; refine K.out.mono ?_; rintro e w' ⟨rfl, rfl⟩)
  go_ret
  exact ⟨by rw [HN.out]; rfl, hB⟩
 ·have HE := Lib.hid (locT_yes h1)
  obtain ⟨h16, hmem⟩ := isLoc_mem h1
  have K := Lib.hid (isLoc_w h1 (iIsLocation_c _ _ _ l w hl)); clear h1
  have K2 := Lib.hid (iDigitsText_c _ _ _ l w hl hmem h16)
  go_enter Tryd.func63, Tryd.ntmps63
  go_wp2_with (first | (go_at_call 75; refine K.out.mono ?_; rintro e w' ⟨rfl, hww⟩; replace hww := hww.symm; subst hww) | (go_at_call 77; refine K2.out.mono ?_; rintro e w2 ⟨rfl, hb2⟩))
  go_ret
  exact ⟨by rw [HE.out]; rfl, hb2⟩
def boxT (b : BoxD) : ByteArray := if validBox b then locT b.fLow ++ ⟨#[46, 46]⟩ ++ locT b.fHigh else ⟨#[]⟩
theorem boxT_le (b : BoxD) : (boxT b).size ≤ 34 := by
 have h1 := locT_le b.fLow
 have h2 := locT_le b.fHigh
 unfold boxT
 split
 ·rw [ByteArray.size_append, ByteArray.size_append]
  have : (⟨#[46, 46]⟩ : ByteArray).size = 2 := rfl
  omega
 ·exact Nat.zero_le _
set_option maxRecDepth 100000 in
set_option maxHeartbeats 1600000 in
theorem sFormatBox_c (csb : List Value) (b : BoxD) (w : World) (hb : (rBox NB).rep w csb b) :
  Calls Tryd.prog 39 #[.agg csb.toArray] w fun e w' => e = .returned (.string (boxT b)) ∧ Below w.heap.size w w' := by
 have rb := hb
 obtain ⟨AbLow, nbLow, cbLow, AbHigh, nbHigh, cbHigh, rfl, hbLow, hbHigh⟩ := rBox_rep.1 hb
 clear hb
 have hB : Below w.heap.size w w := Below.refl _ _
 have hAb := (Below.refl (World.heap (w)).size (w)).alloc (Nat.le_refl _) (.cells #[.slice AbLow nbLow cbLow, .slice AbHigh nbHigh cbHigh] 46)
 replace hB := hB.trans (hAb.mono hB.size)
 have bxb := Bx.new (w) [.slice AbLow nbLow cbLow, .slice AbHigh nbHigh cbHigh] 46
 clear hAb
 go_enter Tryd.func39, Tryd.ntmps39
 have kb_0 := bxb 0 _ rfl
 have kb_1 := bxb 1 _ rfl
 go_wp2_with fail
 refine (sIsValidBox_c _ b _ ((rBox_ok NB).keep rb (cells_below hB))).mono ?_
 rintro e w1 ⟨rfl, hb1⟩
 replace hB := hB.trans (hb1.mono hB.size)
 replace bxb := bxb.below hb1
 clear hb1 kb_0 kb_1
 cases e1 : validBox b
 ·have HN : Hid (boxT b = ⟨#[]⟩) := by show _ = _; simp [boxT, e1]
  clear e1
  go_wp2
  go_ret
  exact ⟨by rw [HN.out]; rfl, hB⟩
 obtain ⟨F1, hF1⟩ : ∃ F, F = locT b.fLow := ⟨_, rfl⟩
 obtain ⟨F2, hF2⟩ : ∃ F, F = locT b.fHigh := ⟨_, rfl⟩
 have HN : Hid (boxT b = F1 ++ ⟨#[46, 46]⟩ ++ F2) := by show _ = _; rw [hF1, hF2]; simp [boxT, e1]
 have z1 := locT_le b.fLow
 have z2 := locT_le b.fHigh
 rw [← hF1] at z1
 rw [← hF2] at z2
 have HF1 := Lib.hid hF1; clear hF1
 have HF2 := Lib.hid hF2; clear hF2
 clear e1
 have n1 : ¬ 9223372036854775807 < F1.size + 2 := by omega
 have n2 : ¬ 9223372036854775807 < F1.size + 2 + F2.size := by omega
 have HSS : Hid (∀ w', Below w1.heap.size w1 w' → (w'.cell? ⟨w.heap.size, 0, none⟩ = some (.slice AbLow nbLow cbLow) ∧ w'.cell? ⟨w.heap.size, 1, none⟩ = some (.slice AbHigh nbHigh cbHigh))) := by
  show ∀ w', _ → _
  intro w' hb
  exact ⟨(bxb.below hb) 0 _ rfl, (bxb.below hb) 1 _ rfl⟩
 have K1 : Hid (∀ W, Below w1.heap.size w1 W → Calls Tryd.prog 59 #[.slice AbLow nbLow cbLow] W fun e w' => e = .returned (.string F1) ∧ Below W.heap.size W w') := by
  show ∀ W, _ → _
  intro W hW; rw [HF1.out]; exact sFormatLocation_c _ _ _ b.fLow W (hbLow.below rInt_ok (hB.trans (hW.mono hB.size)))
 have K2 : Hid (∀ W, Below w1.heap.size w1 W → Calls Tryd.prog 59 #[.slice AbHigh nbHigh cbHigh] W fun e w' => e = .returned (.string F2) ∧ Below W.heap.size W w') := by
  show ∀ W, _ → _
  intro W hW; rw [HF2.out]; exact sFormatLocation_c _ _ _ b.fHigh W (hbHigh.below rInt_ok (hB.trans (hW.mono hB.size)))
 go_wp2
 refine hbg HSS.out (Below.refl _ _).drew (fun hHeld => ?_)
 refine tka 0 6 hHeld ?_; simp only [putS]
 refine tka 1 7 hHeld ?_; simp only [putS]
 refine tka 4 10 hHeld ?_; simp only [putS]
 refine tka 5 11 hHeld ?_; simp only [putS]
 refine wpAnyH_ready (rs := [2]) (by kernel_rfl) (by simp) ?_
 refine AllReadyH.cons (o := ⟨some 8, _, _, _, _, _⟩) rfl (fun K hK => ?_) AllReadyH.nil
 clear hHeld
 go_simp
 refine (K1.out _ (Below.refl w1.heap.size w1).drew).mono ?_
 rintro e w2 ⟨rfl, hb2⟩
 have hC1 : Below w1.heap.size w1 w2 := ((Below.refl w1.heap.size w1).drew.trans (hb2.mono (by simp)))
 go_wp2_with fail
 refine hK.out _ _ (HSS.out _ hC1) (fun hHeld => ?_)
 clear hK K
 try simp only [putS]
 refine tka 3 9 hHeld ?_; simp only [putS]
 refine wpAnyH_ready (rs := [6]) (by kernel_rfl) (by simp) ?_
 refine AllReadyH.cons (o := ⟨some 12, _, _, _, _, _⟩) rfl (fun K hK => ?_) AllReadyH.nil
 clear hHeld
 go_simp
 refine (K2.out _ hC1).mono ?_
 rintro e w3 ⟨rfl, hb3⟩
 have hC2 := hC1.trans (hb3.mono hC1.size)
 go_wp2_with fail
 refine hK.out _ _ (HSS.out _ hC2) (fun hHeld => ?_)
 clear hK K
 try simp only [putS]
 refine tka 7 13 hHeld ?_; simp only [putS]
 refine tka 8 2 hHeld ?_; simp only [putS]
 refine wpAnyH_done (by kernel_rfl) ?_ _
 clear hHeld
 go_wp2
 go_ret
 exact ⟨by rw [HN.out]; rfl, hB.trans (hC2.mono hB.size)⟩
set_option maxRecDepth 100000 in
set_option maxHeartbeats 1600000 in
theorem iFormatBox_c (csb : List Value) (b : BoxD) (w : World) (hb : (rBox NB).rep w csb b) :
  Calls Tryd.prog 45 #[.agg csb.toArray] w fun e w' => e = .returned (.string (boxT b)) ∧ Below w.heap.size w w' := by
 have rb := hb
 obtain ⟨AbLow, nbLow, cbLow, AbHigh, nbHigh, cbHigh, rfl, hbLow, hbHigh⟩ := rBox_rep.1 hb
 clear hb
 have hB : Below w.heap.size w w := Below.refl _ _
 have hAb := (Below.refl (World.heap (w)).size (w)).alloc (Nat.le_refl _) (.cells #[.slice AbLow nbLow cbLow, .slice AbHigh nbHigh cbHigh] 46)
 replace hB := hB.trans (hAb.mono hB.size)
 have bxb := Bx.new (w) [.slice AbLow nbLow cbLow, .slice AbHigh nbHigh cbHigh] 46
 clear hAb
 go_enter Tryd.func45, Tryd.ntmps45
 have kb_0 := bxb 0 _ rfl
 have kb_1 := bxb 1 _ rfl
 go_wp2_with fail
 refine (iIsValidBox_c _ b _ ((rBox_ok NB).keep rb (cells_below hB))).mono ?_
 rintro e w1 ⟨rfl, hb1⟩
 replace hB := hB.trans (hb1.mono hB.size)
 replace bxb := bxb.below hb1
 clear hb1 kb_0 kb_1
 cases e1 : validBox b
 ·have HN : Hid (boxT b = ⟨#[]⟩) := by show _ = _; simp [boxT, e1]
  clear e1
  go_wp2
  go_ret
  exact ⟨by rw [HN.out]; rfl, hB⟩
 obtain ⟨F1, hF1⟩ : ∃ F, F = locT b.fLow := ⟨_, rfl⟩
 obtain ⟨F2, hF2⟩ : ∃ F, F = locT b.fHigh := ⟨_, rfl⟩
 have HN : Hid (boxT b = F1 ++ ⟨#[46, 46]⟩ ++ F2) := by show _ = _; rw [hF1, hF2]; simp [boxT, e1]
 have z1 := locT_le b.fLow
 have z2 := locT_le b.fHigh
 rw [← hF1] at z1
 rw [← hF2] at z2
 have HF1 := Lib.hid hF1; clear hF1
 have HF2 := Lib.hid hF2; clear hF2
 clear e1
 have n1 : ¬ 9223372036854775807 < F1.size + 2 := by omega
 have n2 : ¬ 9223372036854775807 < F1.size + 2 + F2.size := by omega
 have HSS : Hid (∀ w', Below w1.heap.size w1 w' → (w'.cell? ⟨w.heap.size, 0, none⟩ = some (.slice AbLow nbLow cbLow) ∧ w'.cell? ⟨w.heap.size, 1, none⟩ = some (.slice AbHigh nbHigh cbHigh))) := by
  show ∀ w', _ → _
  intro w' hb
  exact ⟨(bxb.below hb) 0 _ rfl, (bxb.below hb) 1 _ rfl⟩
 have K1 : Hid (∀ W, Below w1.heap.size w1 W → Calls Tryd.prog 63 #[.slice AbLow nbLow cbLow] W fun e w' => e = .returned (.string F1) ∧ Below W.heap.size W w') := by
  show ∀ W, _ → _
  intro W hW; rw [HF1.out]; exact iFormatLocation_c _ _ _ b.fLow W (hbLow.below rInt_ok (hB.trans (hW.mono hB.size)))
 have K2 : Hid (∀ W, Below w1.heap.size w1 W → Calls Tryd.prog 63 #[.slice AbHigh nbHigh cbHigh] W fun e w' => e = .returned (.string F2) ∧ Below W.heap.size W w') := by
  show ∀ W, _ → _
  intro W hW; rw [HF2.out]; exact iFormatLocation_c _ _ _ b.fHigh W (hbHigh.below rInt_ok (hB.trans (hW.mono hB.size)))
 go_wp2
 refine hbg HSS.out (Below.refl _ _).drew (fun hHeld => ?_)
 refine tka 0 6 hHeld ?_; simp only [putS]
 refine tka 1 7 hHeld ?_; simp only [putS]
 refine tka 4 10 hHeld ?_; simp only [putS]
 refine tka 5 11 hHeld ?_; simp only [putS]
 refine wpAnyH_ready (rs := [2]) (by kernel_rfl) (by simp) ?_
 refine AllReadyH.cons (o := ⟨some 8, _, _, _, _, _⟩) rfl (fun K hK => ?_) AllReadyH.nil
 clear hHeld
 go_simp
 refine (K1.out _ (Below.refl w1.heap.size w1).drew).mono ?_
 rintro e w2 ⟨rfl, hb2⟩
 have hC1 : Below w1.heap.size w1 w2 := ((Below.refl w1.heap.size w1).drew.trans (hb2.mono (by simp)))
 go_wp2_with fail
 refine hK.out _ _ (HSS.out _ hC1) (fun hHeld => ?_)
 clear hK K
 try simp only [putS]
 refine tka 3 9 hHeld ?_; simp only [putS]
 refine wpAnyH_ready (rs := [6]) (by kernel_rfl) (by simp) ?_
 refine AllReadyH.cons (o := ⟨some 12, _, _, _, _, _⟩) rfl (fun K hK => ?_) AllReadyH.nil
 clear hHeld
 go_simp
 refine (K2.out _ hC1).mono ?_
 rintro e w3 ⟨rfl, hb3⟩
 have hC2 := hC1.trans (hb3.mono hC1.size)
 go_wp2_with fail
 refine hK.out _ _ (HSS.out _ hC2) (fun hHeld => ?_)
 clear hK K
 try simp only [putS]
 refine tka 7 13 hHeld ?_; simp only [putS]
 refine tka 8 2 hHeld ?_; simp only [putS]
 refine wpAnyH_done (by kernel_rfl) ?_ _
 clear hHeld
 go_wp2
 go_ret
 exact ⟨by rw [HN.out]; rfl, hB.trans (hC2.mono hB.size)⟩
end Go.Proofs.YtnbikckbnbgjkaaDoor
