/-
  Fbq
-/
import Derived.Test.YtnbikckbnbgjkaaDoorKeep
import Derived.Test.YtnbikckbnbgjkaaDoorFpn
import Derived.Test.YtnbikckbnbgjkaaDoorFlo
import Derived.Deep.Cut
namespace Go.Proofs.YtnbikckbnbgjkaaDoor
open Go.RowKit
set_option linter.unusedVariables false
set_option linter.unusedSimpArgs false
theorem RS.planX {M : Nat} {w : World} {A : Option Addr} {n cap : Nat} {l : List PlanD} (h : RS M (rPlan NB) w A n cap l) {k : Nat} (hk : k < n) :
  ∃ b off x Ar nr cr, A = some ⟨b, off, none⟩ ∧ w.cell? ⟨b, off + k, none⟩ = some (.slice Ar nr cr) ∧ RS NB (rPlanStep NB) w Ar nr cr x.fSteps ∧ Hid (l[k]? = some x) := by
 obtain ⟨b, off, x, cs, e, hrep, hc, hx⟩ := h.at_ hk
 obtain ⟨A1, n1, c1, rfl, h1⟩ := rPlan_rep.1 hrep
 exact ⟨b, off, x, A1, n1, c1, e, by simpa [rPlan_size] using hc 0 _ rfl, h1, hx⟩
def lenSum (c : List (List Int)) : Nat := (c.map List.length).sum
theorem lenSum_snoc {c : List (List Int)} {k : Nat} {l : List Int} (h : c[k]? = some l) : lenSum (c.take (k + 1)) = lenSum (c.take k) + l.length := by
 unfold lenSum; rw [take_snoc h]; simp
theorem lenSum_take (c : List (List Int)) (k : Nat) : lenSum (c.take k) ≤ lenSum c := by
 have h : lenSum c = lenSum (c.take k) + lenSum (c.drop k) := by
  unfold lenSum; rw [← List.sum_append, ← List.map_append, List.take_append_drop]
 omega
theorem stepT_le2 (x : PlanStepD) : (stepT x).size ≤ 21 := by
 by_cases h : I64 x.fAtom
 ·exact stepT_le h
 ·have h0 : x.fAtom ≠ 0 := fun e => h (by rw [e]; exact I64_zero)
  have h1 : ¬ inR x.fAtom 0 3 = true := fun e => h (by have := inR_t.1 e; unfold I64; omega)
  unfold stepT
  rw [if_neg (fun g => h1 g.2.1), if_neg (fun g => h0 g.1)]
  exact Nat.zero_le _
theorem planT_le (p : PlanD) : (planT p).size ≤ 308 := by
 unfold planT
 split
 ·rename_i h
  have h1 := joinB_size (sep := ⟨#[32]⟩) (m := 21) (l := p.fSteps.map stepT) (fun x hx => by obtain ⟨y, _, rfl⟩ := List.mem_map.1 hx; exact stepT_le2 y)
  rw [show (⟨#[32]⟩ : ByteArray).size = 1 from rfl, List.length_map] at h1
  have h2 := h.1
  omega
 ·exact Nat.zero_le _
def pT (b : BouquetD) (p : Int) : ByteArray := match b.fPlans[p.toNat]? with
 | some x => planT x
 | none => ⟨#[]⟩
theorem pT_at {b : BouquetD} {j : Nat} {x : PlanD} (h : b.fPlans[j]? = some x) : pT b (j : Int) = planT x := by unfold pT; rw [Int.toNat_natCast, h]
theorem pT_le (b : BouquetD) (p : Int) : (pT b p).size ≤ 308 := by
 unfold pT; split
 ·exact planT_le _
 ·exact Nat.zero_le _
def okC (b : BouquetD) (row : List Int) : Prop := row = [] ∨ (row.length ≤ b.fPlans.length ∧ b.fContours.length ≤ 99 ∧ ∀ p ∈ row, inR p 0 ((b.fPlans.length : Int) - 1) = true)
instance (b : BouquetD) (row : List Int) : Decidable (okC b row) := inferInstanceAs (Decidable (_ ∨ _))
def rowT (b : BouquetD) (z : Int × List Int) : ByteArray := ⟨#[124]⟩ ++ fmtI z.1 ++ ⟨#[58]⟩ ++ joinB ⟨#[44]⟩ (z.2.map (pT b))
def headT (b : BouquetD) : ByteArray := ⟨#[118]⟩ ++ fmtI b.fVersion ++ ⟨#[32, 114]⟩ ++ fmtI b.fRatio ++ ⟨#[32, 115]⟩ ++ fmtI b.fSlack ++ ⟨#[32]⟩ ++ boxT b.fBox
def bodyT (b : BouquetD) (l : List (Int × List Int)) : ByteArray := l.foldl (fun s z => s ++ rowT b z) ⟨#[]⟩
theorem bodyT_snoc {b : BouquetD} {l : List (Int × List Int)} {k : Nat} {z : Int × List Int} (h : l[k]? = some z) : bodyT b (l.take (k + 1)) = bodyT b (l.take k) ++ rowT b z := by
 unfold bodyT; rw [take_snoc h, List.foldl_append]; rfl
def bouqT (b : BouquetD) : ByteArray := if ∀ z ∈ b.fBudgets.zip b.fContours, okC b z.2 then headT b ++ bodyT b (b.fBudgets.zip b.fContours) else ⟨#[]⟩
theorem bouqT_bad {b : BouquetD} {z : Int × List Int} (h : z ∈ b.fBudgets.zip b.fContours) (hz : ¬ okC b z.2) : bouqT b = ⟨#[]⟩ := by unfold bouqT; rw [if_neg (fun g => hz (g z h))]
theorem okC_far {b : BouquetD} {row : List Int} {p : Int} (hp : p ∈ row) (h : inR p 0 ((b.fPlans.length : Int) - 1) = false) : ¬ okC b row := by
 rintro (rfl | ⟨_, _, h3⟩)
 ·simp at hp
 ·rw [h3 p hp] at h; cases h
theorem okC_long {b : BouquetD} {row : List Int} (h0 : 0 < row.length) (h : ¬ (row.length ≤ b.fPlans.length ∧ b.fContours.length ≤ 99)) : ¬ okC b row := by
 rintro (rfl | ⟨h1, h2, _⟩)
 ·simp at h0
 ·exact h ⟨h1, h2⟩
theorem rows_snoc {b : BouquetD} {l : List Int} {k : Nat} {p : Int} (h : l[k]? = some p) : (l.take (k + 1)).map (pT b) = (l.take k).map (pT b) ++ [pT b p] := by
 rw [take_snoc h, List.map_append]; rfl
theorem okSnoc {Q : Int → Prop} {l : List Int} {k : Nat} {p : Int} (h : l[k]? = some p) (h1 : ∀ y ∈ l.take k, Q y) (h2 : Q p) : ∀ y ∈ l.take (k + 1), Q y := by
 intro y hy
 rw [take_snoc h, List.mem_append, List.mem_singleton] at hy
 rcases hy with hy | rfl
 ·exact h1 y hy
 ·exact h2
theorem okSnocZ {b : BouquetD} {l : List (Int × List Int)} {k : Nat} {z : Int × List Int} (h : l[k]? = some z) (h1 : ∀ y ∈ l.take k, okC b y.2) (h2 : okC b z.2) : ∀ y ∈ l.take (k + 1), okC b y.2 := by
 intro y hy
 rw [take_snoc h, List.mem_append, List.mem_singleton] at hy
 rcases hy with hy | rfl
 ·exact h1 y hy
 ·exact h2
theorem bz1 (a : UInt8) : (⟨#[a]⟩ : ByteArray).size = 1 := rfl
theorem bz2 (a b : UInt8) : (⟨#[a, b]⟩ : ByteArray).size = 2 := rfl
theorem bNil (x : ByteArray) : x ++ (⟨#[]⟩ : ByteArray) = x := baExt (by simp)
theorem join_c {B : Nat} {w : World} {A : Option Addr} {n c : Nat} {l : List ByteArray} (sep : ByteArray) (h : MS B NB 9 (rStr NB) w A n c l) (hz : (joinB sep l).size ≤ 140737488355328) :
  Calls Tryd.prog 48 #[.slice A n c, .string sep] w fun e w' => e = .returned (.string (joinB sep l)) ∧ Below w.heap.size w w' := by
 have hl := h.len
 have hnb := h.nb
 rcases Nat.eq_zero_or_pos n with h0 | h0
 ·subst h0
  obtain rfl : l = [] := List.eq_nil_of_length_eq_zero hl
  exact (Tryd.strings_Join_none A c sep w).mono fun e w' h => ⟨h.1, h.2 ▸ Below.refl _ _⟩
 ·obtain ⟨g, rfl, hgl, _⟩ := h.form h0
  have hnc := (h.rs (rStr_ok NB)).nc
  subst hl
  exact Tryd.strings_Join g 0 c l sep w h.strs hgl (by unfold NB at hnb; omega) hnc (by
   have h2 : (joinB sep l).size = (Lib.join (l.map (·.data.toList)) sep.data.toList).length := by simp [joinB, ByteArray.size]
   omega)
theorem nilB (x : ByteArray) : (⟨#[]⟩ : ByteArray) ++ x = x := baExt (by simp)
set_option maxRecDepth 100000 in
set_option maxHeartbeats 1600000 in
theorem sFormatBouquet_c (csb : List Value) (b : BouquetD) (w : World) (hb : (rBouquet NB).rep w csb b) (hbk : lenSum b.fContours ≤ 1048576) :
  Calls Tryd.prog 17 #[.agg csb.toArray] w fun e w' => e = .returned (.string (bouqT b)) ∧ Below w.heap.size w w' := by
 have rb := hb
 obtain ⟨AbBoxLow, nbBoxLow, cbBoxLow, AbBoxHigh, nbBoxHigh, cbBoxHigh, AbBudgets, nbBudgets, cbBudgets, AbPlans, nbPlans, cbPlans, AbContours, nbContours, cbContours, rfl, hbVersion, hbRatio, hbSlack, hbBoxLow, hbBoxHigh, hbBudgets, hbPlans, hbContours⟩ := rBouquet_rep.1 hb
 clear hb
 have hB : Below w.heap.size w w := Below.refl _ _
 have hAb := (Below.refl (World.heap (w)).size (w)).alloc (Nat.le_refl _) (.cells #[.int .i64 b.fVersion, .int .i64 b.fRatio, .int .i64 b.fSlack, .slice AbBoxLow nbBoxLow cbBoxLow, .slice AbBoxHigh nbBoxHigh cbBoxHigh, .slice AbBudgets nbBudgets cbBudgets, .slice AbPlans nbPlans cbPlans, .slice AbContours nbContours cbContours] 59)
 replace hB := hB.trans (hAb.mono hB.size)
 have bxb := Bx.new (w) [.int .i64 b.fVersion, .int .i64 b.fRatio, .int .i64 b.fSlack, .slice AbBoxLow nbBoxLow cbBoxLow, .slice AbBoxHigh nbBoxHigh cbBoxHigh, .slice AbBudgets nbBudgets cbBudgets, .slice AbPlans nbPlans cbPlans, .slice AbContours nbContours cbContours] 59
 clear hAb
 have HCL := Lib.hid hbContours.len
 have HPL := Lib.hid hbPlans.len
 have HBL := Lib.hid hbBudgets.len
 have hnC := hbContours.bound
 have hncC := hbContours.nc
 have hnP := hbPlans.bound
 have hnB := hbBudgets.bound
 have HBK := Lib.hid hbk; clear hbk
 have z1 := fmtI_le hbVersion
 have z2 := fmtI_le hbRatio
 have z3 := fmtI_le hbSlack
 have z4 := boxT_le b.fBox
 obtain ⟨F1, hF1⟩ : ∃ F, F = fmtI b.fVersion := ⟨_, rfl⟩
 rw [← hF1] at z1
 have HF1 := Lib.hid hF1; clear hF1
 obtain ⟨F2, hF2⟩ : ∃ F, F = fmtI b.fRatio := ⟨_, rfl⟩
 rw [← hF2] at z2
 have HF2 := Lib.hid hF2; clear hF2
 obtain ⟨F3, hF3⟩ : ∃ F, F = fmtI b.fSlack := ⟨_, rfl⟩
 rw [← hF3] at z3
 have HF3 := Lib.hid hF3; clear hF3
 obtain ⟨F4, hF4⟩ : ∃ F, F = boxT b.fBox := ⟨_, rfl⟩
 rw [← hF4] at z4
 have HF4 := Lib.hid hF4; clear hF4
 have HHD : Hid (⟨#[118]⟩ ++ F1 ++ ⟨#[32, 114]⟩ ++ F2 ++ ⟨#[32, 115]⟩ ++ F3 ++ ⟨#[32]⟩ ++ F4 = headT b ++ bodyT b ((b.fBudgets.zip b.fContours).take 0)) := by
  show _ = _; rw [HF1.out, HF2.out, HF3.out, HF4.out, List.take_zero, show bodyT b [] = ⟨#[]⟩ from rfl, bNil]; rfl
 have HHZ : Hid ((⟨#[118]⟩ ++ F1 ++ ⟨#[32, 114]⟩ ++ F2 ++ ⟨#[32, 115]⟩ ++ F3 ++ ⟨#[32]⟩ ++ F4).size ≤ 110) := by
  show _ ≤ _; simp only [ByteArray.size_append, bz1, bz2]; omega
 go_enter Tryd.func17, Tryd.ntmps17
 go_upto_region 1 with fail
 obtain ⟨wb, hwb⟩ : ∃ W, W = w.alloc (.cells #[.int .i64 b.fVersion, .int .i64 b.fRatio, .int .i64 b.fSlack, .slice AbBoxLow nbBoxLow cbBoxLow, .slice AbBoxHigh nbBoxHigh cbBoxHigh, .slice AbBudgets nbBudgets cbBudgets, .slice AbPlans nbPlans cbPlans, .slice AbContours nbContours cbContours] 59) := ⟨_, rfl⟩
 rw [← hwb] at hB bxb ⊢
 clear hwb
 have HSS : Hid (∀ w', Below wb.heap.size wb w' → (w'.cell? ⟨w.heap.size, 0, none⟩ = some (.int .i64 b.fVersion) ∧ w'.cell? ⟨w.heap.size, 1, none⟩ = some (.int .i64 b.fRatio) ∧ w'.cell? ⟨w.heap.size, 2, none⟩ = some (.int .i64 b.fSlack) ∧ w'.cell? ⟨w.heap.size, 3, none⟩ = some (.slice AbBoxLow nbBoxLow cbBoxLow) ∧ w'.cell? ⟨w.heap.size, 4, none⟩ = some (.slice AbBoxHigh nbBoxHigh cbBoxHigh))) := by
  show ∀ w', _ → _
  intro w' hb
  exact ⟨(bxb.below hb) 0 _ rfl, (bxb.below hb) 1 _ rfl, (bxb.below hb) 2 _ rfl, (bxb.below hb) 3 _ rfl, (bxb.below hb) 4 _ rfl⟩
 have K1 : Hid (∀ W, Below wb.heap.size wb W → Calls Tryd.prog 23 #[.int .i64 b.fVersion] W fun e w' => e = .returned (.string F1) ∧ Below W.heap.size W w') := by
  show ∀ W, _ → _
  intro W hW; rw [HF1.out]; exact sFormatInt_c b.fVersion W hbVersion
 have K2 : Hid (∀ W, Below wb.heap.size wb W → Calls Tryd.prog 23 #[.int .i64 b.fRatio] W fun e w' => e = .returned (.string F2) ∧ Below W.heap.size W w') := by
  show ∀ W, _ → _
  intro W hW; rw [HF2.out]; exact sFormatInt_c b.fRatio W hbRatio
 have K3 : Hid (∀ W, Below wb.heap.size wb W → Calls Tryd.prog 23 #[.int .i64 b.fSlack] W fun e w' => e = .returned (.string F3) ∧ Below W.heap.size W w') := by
  show ∀ W, _ → _
  intro W hW; rw [HF3.out]; exact sFormatInt_c b.fSlack W hbSlack
 have K4 : Hid (∀ W, Below wb.heap.size wb W → Calls Tryd.prog 39 #[.agg #[.slice AbBoxLow nbBoxLow cbBoxLow, .slice AbBoxHigh nbBoxHigh cbBoxHigh]] W fun e w' => e = .returned (.string F4) ∧ Below W.heap.size W w') := by
  show ∀ W, _ → _
  intro W hW; rw [HF4.out]
  have hX := hB.trans (hW.mono hB.size)
  exact sFormatBox_c _ b.fBox W (rBox_rep.2 ⟨AbBoxLow, nbBoxLow, cbBoxLow, AbBoxHigh, nbBoxHigh, cbBoxHigh, rfl, hbBoxLow.below rInt_ok hX, hbBoxHigh.below rInt_ok hX⟩)
 have n1 : ¬ 9223372036854775807 < 1 + F1.size := by omega
 have n2 : ¬ 9223372036854775807 < 1 + F1.size + 2 := by omega
 have n3 : ¬ 9223372036854775807 < 1 + F1.size + 2 + F2.size := by omega
 have n4 : ¬ 9223372036854775807 < 1 + F1.size + 2 + F2.size + 2 := by omega
 have n5 : ¬ 9223372036854775807 < 1 + F1.size + 2 + F2.size + 2 + F3.size := by omega
 have n6 : ¬ 9223372036854775807 < 1 + F1.size + 2 + F2.size + 2 + F3.size + 1 := by omega
 have n7 : ¬ 9223372036854775807 < 1 + F1.size + 2 + F2.size + 2 + F3.size + 1 + F4.size := by omega
 go_wp2
 refine hbg HSS.out (Below.refl _ _).drew (fun hHeld => ?_)
 refine tka 0 6 hHeld ?_; simp only [putS]
 refine tka 1 7 hHeld ?_; simp only [putS]
 refine tka 5 11 hHeld ?_; simp only [putS]
 refine tka 6 12 hHeld ?_; simp only [putS]
 refine tka 10 16 hHeld ?_; simp only [putS]
 refine tka 11 17 hHeld ?_; simp only [putS]
 refine tka 15 21 hHeld ?_; simp only [putS]
 refine tka 16 22 hHeld ?_; simp only [putS]
 refine wpAnyH_ready (rs := [2]) (by kernel_rfl) (by simp) ?_
 refine AllReadyH.cons (o := ⟨some 8, _, _, _, _, _⟩) rfl (fun K hK => ?_) AllReadyH.nil
 clear hHeld
 go_simp
 refine (K1.out _ (Below.refl wb.heap.size wb).drew).mono ?_
 rintro e w1 ⟨rfl, hb1⟩
 have hE1 : Below wb.heap.size wb w1 := ((Below.refl wb.heap.size wb).drew.trans (hb1.mono (by simp)))
 go_wp2_with fail
 refine hK.out _ _ (HSS.out _ hE1) (fun hHeld => ?_)
 clear hK K
 try simp only [putS]
 refine tka 3 9 hHeld ?_; simp only [putS]
 refine tka 4 10 hHeld ?_; simp only [putS]
 refine wpAnyH_ready (rs := [7]) (by kernel_rfl) (by simp) ?_
 refine AllReadyH.cons (o := ⟨some 13, _, _, _, _, _⟩) rfl (fun K hK => ?_) AllReadyH.nil
 clear hHeld
 go_simp
 refine (K2.out _ hE1).mono ?_
 rintro e w2 ⟨rfl, hb2⟩
 have hE2 := hE1.trans (hb2.mono hE1.size)
 go_wp2_with fail
 refine hK.out _ _ (HSS.out _ hE2) (fun hHeld => ?_)
 clear hK K
 try simp only [putS]
 refine tka 8 14 hHeld ?_; simp only [putS]
 refine tka 9 15 hHeld ?_; simp only [putS]
 refine wpAnyH_ready (rs := [12]) (by kernel_rfl) (by simp) ?_
 refine AllReadyH.cons (o := ⟨some 18, _, _, _, _, _⟩) rfl (fun K hK => ?_) AllReadyH.nil
 clear hHeld
 go_simp
 refine (K3.out _ hE2).mono ?_
 rintro e w3 ⟨rfl, hb3⟩
 have hE3 := hE2.trans (hb3.mono hE2.size)
 go_wp2_with fail
 refine hK.out _ _ (HSS.out _ hE3) (fun hHeld => ?_)
 clear hK K
 try simp only [putS]
 refine tka 13 19 hHeld ?_; simp only [putS]
 refine tka 14 20 hHeld ?_; simp only [putS]
 refine wpAnyH_ready (rs := [17]) (by kernel_rfl) (by simp) ?_
 refine AllReadyH.cons (o := ⟨some 23, _, _, _, _, _⟩) rfl (fun K hK => ?_) AllReadyH.nil
 clear hHeld
 go_simp
 refine (K4.out _ hE3).mono ?_
 rintro e w4 ⟨rfl, hb4⟩
 have hE4 := hE3.trans (hb4.mono hE3.size)
 go_wp2_with fail
 refine hK.out _ _ (HSS.out _ hE4) (fun hHeld => ?_)
 clear hK K
 try simp only [putS]
 refine tka 18 24 hHeld ?_; simp only [putS]
 refine tka 19 3 hHeld ?_; simp only [putS]
 refine wpAnyH_done (by kernel_rfl) ?_ _
 clear hHeld
 clear HSS K1 K2 K3 K4 n1 n2 n3 n4 n5 n6 n7 hE1 hE2 hE3 hb1 hb2 hb3 hb4
 go_wp2
 go_loopw [3, 4] (fun vs vi wr => ∃ (k : Nat) (s : ByteArray), (k ≤ nbContours ∧ k ≤ nbBudgets) ∧ vi = .int .i64 k ∧ vs = .string s ∧ s.size ≤ 110 + 23 * k + 309 * lenSum (b.fContours.take k) ∧ s = headT b ++ bodyT b ((b.fBudgets.zip b.fContours).take k) ∧ (∀ z ∈ (b.fBudgets.zip b.fContours).take k, okC b z.2) ∧ Below wb.heap.size wb wr) (fun _ vi _ => nbContours - (intOf vi).toNat)
 case atStart => exact ⟨0, _, ⟨Nat.zero_le _, Nat.zero_le _⟩, rfl, rfl, HHZ.out, HHD.out, by simp, hE4⟩
 case round =>
  clear hE4
  obtain ⟨k, s, ⟨hkC', hkB'⟩, rfl, rfl, hsz, hs, hall, hE⟩ := hrel
  have HS := Lib.hid hs; clear hs
  have HA := Lib.hid hall; clear hall
  have hB2 := hB.trans (hE.mono hB.size)
  have kb_4 := (bxb.below hE) 5 _ rfl
  have kb_6 := (bxb.below hE) 7 _ rfl
  by_cases hkC : k < nbContours
  ·by_cases hkB : k < nbBudgets
   ·obtain ⟨bB, oB, x, rfl, hcx, hIx, hx⟩ := hbBudgets.ati hkB
    obtain ⟨bC, oC, row, Ar, nr, cr, rfl, hcr, hRr, hr⟩ := hbContours.row hkC
    have HX := Lib.hid hx.out; clear hx
    have HR := Lib.hid hr.out; clear hr
    have HZ : Hid ((b.fBudgets.zip b.fContours)[k]? = some (x, row)) := by show _ = _; exact List.getElem?_zip_eq_some.2 ⟨HX.out, HR.out⟩
    have HRL := Lib.hid hRr.len
    have hnr := hRr.bound
    have HSN : Hid (lenSum (b.fContours.take (k + 1)) = lenSum (b.fContours.take k) + nr) := by show _ = _; rw [lenSum_snoc HR.out, hRr.len]
    have HSM : Hid (lenSum (b.fContours.take k) + nr ≤ 1048576) := by show _ ≤ _; rw [← HSN.out]; exact Nat.le_trans (lenSum_take _ _) HBK.out
    have hsm := HSM.out
    have z5 := fmtI_le hIx
    obtain ⟨F5, hF5⟩ : ∃ F, F = fmtI x := ⟨_, rfl⟩
    rw [← hF5] at z5
    have HF5 := Lib.hid hF5; clear hF5
    have K5 : Hid (∀ W, Calls Tryd.prog 23 #[.int .i64 x] W fun e w' => e = .returned (.string F5) ∧ Below W.heap.size W w') := by
     show ∀ W, _
     intro W; rw [HF5.out]; exact sFormatInt_c x W hIx
    obtain ⟨sl, hsl⟩ : ∃ z, z = lenSum (b.fContours.take k) := ⟨_, rfl⟩
    rw [← hsl] at hsm hsz
    have HSL := Lib.hid hsl; clear hsl
    have n1 : ¬ 9223372036854775807 < s.size + 1 := by omega
    have n2 : ¬ 9223372036854775807 < s.size + 1 + F5.size := by omega
    have n3 : ¬ 9223372036854775807 < s.size + 1 + F5.size + 1 := by omega
    have hcx2 := cells_below hB2 _ _ hcx
    go_upto_region 7 with (go_at_call 23; refine (K5.out _).mono ?_; rintro e w5 ⟨rfl, hb5⟩)
    have hE5 := hE.trans (hb5.mono hE.size)
    obtain ⟨s1, hs1⟩ : ∃ t, t = s ++ ⟨#[124]⟩ ++ F5 ++ ⟨#[58]⟩ := ⟨_, rfl⟩
    have hz1 : s1.size ≤ 133 + 23 * k + 309 * sl := by rw [hs1]; simp only [ByteArray.size_append, bz1]; omega
    rw [← hs1]
    have HS1 := Lib.hid hs1; clear hs1
    clear n1 n2 n3 hcx2 kb_4 kb_6 K5 hb5 hE hB2 hsz
    go_loopw [3, 5] (fun vs vi wr => ∃ (i : Nat) (s2 : ByteArray), i ≤ nr ∧ vi = .int .i64 i ∧ vs = .string s2 ∧ s2.size ≤ s1.size + 309 * i ∧ s2 = s1 ++ joinB ⟨#[44]⟩ ((row.take i).map (pT b)) ∧ ((∀ p ∈ row.take i, inR p 0 ((nbPlans : Int) - 1) = true) ∧ (0 < i → nr ≤ nbPlans ∧ nbContours ≤ 99)) ∧ Below wb.heap.size wb wr) (fun _ vi _ => nr - (intOf vi).toNat)
    case atStart => exact ⟨0, s1, Nat.zero_le _, rfl, rfl, Nat.le_refl _, by rw [List.take_zero, List.map_nil, joinB_nil, bNil], ⟨by simp, by omega⟩, hE5⟩
    case round =>
     clear hE5
     obtain ⟨i, s2, hi, rfl, rfl, hsz, hs2, hok, hE⟩ := hrel
     have HS2 := Lib.hid hs2; clear hs2
     have HOK := Lib.hid hok; clear hok
     have hB2 := hB.trans (hE.mono hB.size)
     have kb_6 := (bxb.below hE) 7 _ rfl
     have hcr2 := cells_below hB2 _ _ hcr
     by_cases hlt : i < nr
     ·obtain ⟨bR, oR, p, rfl, hcp, hIp, hp⟩ := hRr.ati hlt
      have HP := Lib.hid hp.out; clear hp
      have HPM := Lib.hid (mem_of_at HP.out)
      have hcp2 := cells_below hB2 _ _ hcp
      have kb_5 := (bxb.below hE) 6 _ rfl
      have m1 : IntKind.i64.wrap ((nbPlans : Int) - 1) = (nbPlans : Int) - 1 := IntWalk.i64_in _ (by omega)
      cases hin : inR p 0 ((nbPlans : Int) - 1)
      ·have HN : Hid (bouqT b = ⟨#[]⟩) := by show _ = _; exact bouqT_bad (mem_of_at HZ.out) (okC_far HPM.out (by rw [HPL.out]; exact hin))
       have K6 := Lib.hid (fun W => l1In_v hin W); clear hin
       go_wp2
       go_quiet ((go_at_call 40; exact Calls.quiet_of_same (K6.out _)))
       go_wp2
       go_ret
       exact ⟨by rw [HN.out]; rfl, below_drewN hB2 _⟩
      have HIN := Lib.hid hin
      have hin' := inR_t.1 hin
      have K6 := Lib.hid (fun W => l1In_v hin W); clear hin
      by_cases hrP : nbPlans < nr
      ·have HN : Hid (bouqT b = ⟨#[]⟩) := by show _ = _; exact bouqT_bad (mem_of_at HZ.out) (okC_long (by rw [HRL.out]; omega) (by rw [HRL.out, HPL.out]; omega))
       go_wp2
       go_quiet ((go_at_call 40; exact Calls.quiet_of_same (K6.out _)))
       go_wp2
       go_ret
       exact ⟨by rw [HN.out]; rfl, below_drewN hB2 _⟩
      by_cases hC9 : 99 < nbContours
      ·have HN : Hid (bouqT b = ⟨#[]⟩) := by show _ = _; exact bouqT_bad (mem_of_at HZ.out) (okC_long (by rw [HRL.out]; omega) (by rw [HCL.out]; omega))
       have hC9' : (99 : Int) < (nbContours : Int) := by omega
       go_wp2
       go_quiet ((go_at_call 40; exact Calls.quiet_of_same (K6.out _)))
       go_wp2
       go_ret
       exact ⟨by rw [HN.out]; rfl, below_drewN hB2 _⟩
      obtain ⟨j, rfl⟩ : ∃ j : Nat, p = j := ⟨p.toNat, by omega⟩
      have hj : j < nbPlans := by omega
      have hC9' : ¬ (99 : Int) < (nbContours : Int) := by omega
      obtain ⟨bP, oP, P, AP, nP, cP, rfl, hcP, hRP, hPX⟩ := hbPlans.planX hj
      have z6 := planT_le P
      obtain ⟨F6, hF6⟩ : ∃ F, F = planT P := ⟨_, rfl⟩
      rw [← hF6] at z6
      have HF6 := Lib.hid hF6; clear hF6
      have K7 : Hid (∀ W, Below w.heap.size w W → Calls Tryd.prog 41 #[.agg #[.slice AP nP cP]] W fun e w' => e = .returned (.string F6) ∧ Below W.heap.size W w') := by
       show ∀ W, _ → _
       intro W hW; rw [HF6.out]; exact sFormatPlan_c _ P W (rPlan_rep.2 ⟨_, _, _, rfl, hRP.below (rPlanStep_ok NB) hW⟩)
      have HT : Hid (joinB ⟨#[44]⟩ ((row.take (i + 1)).map (pT b)) = if 0 < i then joinB ⟨#[44]⟩ ((row.take i).map (pT b)) ++ ⟨#[44]⟩ ++ F6 else F6) := by
       show _ = _
       rw [rows_snoc HP.out, pT_at hPX.out, ← HF6.out]
       split
       ·rw [joinB_snoc _ _ (by simp; have := HRL.out; omega)]
       ·rename_i h0
        obtain rfl : i = 0 := by omega
        rw [List.take_zero, List.map_nil, List.nil_append, joinB_one]
      have HO2 : Hid ((∀ p ∈ row.take (i + 1), inR p 0 ((nbPlans : Int) - 1) = true) ∧ (0 < i + 1 → nr ≤ nbPlans ∧ nbContours ≤ 99)) := by
       show _ ∧ _
       exact ⟨okSnoc HP.out HOK.out.1 HIN.out, fun _ => ⟨by omega, by omega⟩⟩
      have hrest : s2.size + 310 ≤ 100000000000 := by omega
      have hjI : (j : Int) < (nbPlans : Int) := by omega
      have hkI : (k : Int) < (nbContours : Int) := by omega
      have hiI : (i : Int) < (nr : Int) := by omega
      clear hPX
      by_cases hi0 : 0 < i
      ·have hi0' : (0 : Int) < (i : Int) := by omega
       have n0 : ¬ 9223372036854775807 < s2.size + 1 := by omega
       have n1 : ¬ 9223372036854775807 < s2.size + 1 + F6.size := by omega
       have HSX : Hid (s2 ++ ⟨#[44]⟩ ++ F6 = s1 ++ joinB ⟨#[44]⟩ ((row.take (i + 1)).map (pT b))) := by
        show _ = _; rw [HT.out, if_pos hi0, HS2.out]; simp only [ByteArray.append_assoc]
       go_wp2
       go_quiet ((go_at_call 40; exact Calls.quiet_of_same (K6.out _)))
       obtain ⟨wq, hwq⟩ : ∃ W, W = wr.drewN nq := ⟨_, rfl⟩
       have hEq : Below wb.heap.size wb wq := by rw [hwq]; exact below_drewN hE _
       rw [← hwq]
       clear hwq m1 K6 kb_5 kb_6 hcr2 hcp2
       have HSS : Hid (∀ w', Below wb.heap.size wb w' → (w'.cell? ⟨w.heap.size, 6, none⟩ = some (.slice (some ⟨bP, oP, none⟩) nbPlans cbPlans) ∧ w'.cell? ⟨w.heap.size, 7, none⟩ = some (.slice (some ⟨bC, oC, none⟩) nbContours cbContours) ∧ w'.cell? ⟨bC, oC + k, none⟩ = some (.slice (some ⟨bR, oR, none⟩) nr cr) ∧ w'.cell? ⟨bR, oR + i, none⟩ = some (.int .i64 (j : Int)) ∧ w'.cell? ⟨bP, oP + j, none⟩ = some (.slice AP nP cP))) := by
        show ∀ w', _ → _
        intro w' hb
        have hz := hB.trans (hb.mono hB.size)
        exact ⟨(bxb.below hb) 6 _ rfl, (bxb.below hb) 7 _ rfl, cells_below hz _ _ hcr, cells_below hz _ _ hcp, cells_below hz _ _ hcP⟩
       go_wp2
       refine hbg HSS.out hEq.drew (fun hHeld => ?_)
       refine tka 0 95 hHeld ?_; simp only [putS]
       refine tka 1 96 hHeld ?_; simp only [putS]
       refine tka 2 97 hHeld ?_; simp only [putS]
       refine tka 3 98 hHeld ?_; simp only [putS]
       refine tka 4 99 hHeld ?_; simp only [putS]
       refine tka 5 100 hHeld ?_; simp only [putS]
       refine tka 6 101 hHeld ?_; simp only [putS]
       refine tka 7 102 hHeld ?_; simp only [putS]
       refine tka 8 103 hHeld ?_; simp only [putS]
       refine tka 9 104 hHeld ?_; simp only [putS]
       refine tka 10 105 hHeld ?_; simp only [putS]
       refine tka 11 106 hHeld ?_; simp only [putS]
       refine tka 12 107 hHeld ?_; simp only [putS]
       refine wpAnyH_ready (rs := [13]) (by kernel_rfl) (by simp) ?_
       refine AllReadyH.cons (o := ⟨some 108, _, _, _, _, _⟩) rfl (fun K hK => ?_) AllReadyH.nil
       clear hHeld
       go_simp
       refine (K7.out _ (hB.trans (hEq.drew.mono hB.size))).mono ?_
       rintro e w9 ⟨rfl, hb9⟩
       have hE9 := hEq.drew.trans (hb9.mono hEq.drew.size)
       go_wp2_with fail
       refine hK.out _ _ (HSS.out _ hE9) (fun hHeld => ?_)
       clear hK K
       try simp only [putS]
       refine tka 14 109 hHeld ?_; simp only [putS]
       refine tka 15 3 hHeld ?_; simp only [putS]
       refine wpAnyH_done (by kernel_rfl) ?_ _
       clear hHeld
       clear HSS
       go_wp2
       go_roundw
       case rel => exact ⟨i + 1, _, by omega, by go_num, rfl, by simp only [ByteArray.size_append, bz1]; omega, HSX.out, HO2.out, hE9⟩
       case measure => simp [intOf]; omega
      ·have hi0' : ¬ (0 : Int) < (i : Int) := by omega
       have n1 : ¬ 9223372036854775807 < s2.size + F6.size := by omega
       have HSX : Hid (s2 ++ F6 = s1 ++ joinB ⟨#[44]⟩ ((row.take (i + 1)).map (pT b))) := by
        show _ = _; rw [HT.out, if_neg hi0, HS2.out, show i = 0 by omega, List.take_zero, List.map_nil, joinB_nil, bNil]
       go_wp2
       go_quiet ((go_at_call 40; exact Calls.quiet_of_same (K6.out _)))
       obtain ⟨wq, hwq⟩ : ∃ W, W = wr.drewN nq := ⟨_, rfl⟩
       have hEq : Below wb.heap.size wb wq := by rw [hwq]; exact below_drewN hE _
       rw [← hwq]
       clear hwq m1 K6 kb_5 kb_6 hcr2 hcp2
       have HSS : Hid (∀ w', Below wb.heap.size wb w' → (w'.cell? ⟨w.heap.size, 6, none⟩ = some (.slice (some ⟨bP, oP, none⟩) nbPlans cbPlans) ∧ w'.cell? ⟨w.heap.size, 7, none⟩ = some (.slice (some ⟨bC, oC, none⟩) nbContours cbContours) ∧ w'.cell? ⟨bC, oC + k, none⟩ = some (.slice (some ⟨bR, oR, none⟩) nr cr) ∧ w'.cell? ⟨bR, oR + i, none⟩ = some (.int .i64 (j : Int)) ∧ w'.cell? ⟨bP, oP + j, none⟩ = some (.slice AP nP cP))) := by
        show ∀ w', _ → _
        intro w' hb
        have hz := hB.trans (hb.mono hB.size)
        exact ⟨(bxb.below hb) 6 _ rfl, (bxb.below hb) 7 _ rfl, cells_below hz _ _ hcr, cells_below hz _ _ hcp, cells_below hz _ _ hcP⟩
       go_wp2
       refine hbg HSS.out hEq.drew (fun hHeld => ?_)
       refine tka 0 95 hHeld ?_; simp only [putS]
       refine tka 1 96 hHeld ?_; simp only [putS]
       refine tka 2 97 hHeld ?_; simp only [putS]
       refine tka 3 98 hHeld ?_; simp only [putS]
       refine tka 4 99 hHeld ?_; simp only [putS]
       refine tka 5 100 hHeld ?_; simp only [putS]
       refine tka 6 101 hHeld ?_; simp only [putS]
       refine tka 7 102 hHeld ?_; simp only [putS]
       refine tka 8 103 hHeld ?_; simp only [putS]
       refine tka 9 104 hHeld ?_; simp only [putS]
       refine tka 10 105 hHeld ?_; simp only [putS]
       refine tka 11 106 hHeld ?_; simp only [putS]
       refine tka 12 107 hHeld ?_; simp only [putS]
       refine wpAnyH_ready (rs := [13]) (by kernel_rfl) (by simp) ?_
       refine AllReadyH.cons (o := ⟨some 108, _, _, _, _, _⟩) rfl (fun K hK => ?_) AllReadyH.nil
       clear hHeld
       go_simp
       refine (K7.out _ (hB.trans (hEq.drew.mono hB.size))).mono ?_
       rintro e w9 ⟨rfl, hb9⟩
       have hE9 := hEq.drew.trans (hb9.mono hEq.drew.size)
       go_wp2_with fail
       refine hK.out _ _ (HSS.out _ hE9) (fun hHeld => ?_)
       clear hK K
       try simp only [putS]
       refine tka 14 109 hHeld ?_; simp only [putS]
       refine tka 15 3 hHeld ?_; simp only [putS]
       refine wpAnyH_done (by kernel_rfl) ?_ _
       clear hHeld
       clear HSS
       go_wp2
       go_roundw
       case rel => exact ⟨i + 1, _, by omega, by go_num, rfl, by simp only [ByteArray.size_append]; omega, HSX.out, HO2.out, hE9⟩
       case measure => simp [intOf]; omega
     ·have hir : i = nr := by omega
      have e : row.take i = row := List.take_of_length_le (by rw [HRL.out]; omega)
      have HOKC : Hid (okC b row) := by
       show okC b row
       by_cases h0 : nr = 0
       ·exact .inl (List.eq_nil_of_length_eq_zero (by rw [HRL.out]; exact h0))
       ·have h1 := HOK.out
        rw [e] at h1
        have h2 := h1.2 (by omega)
        exact .inr ⟨by rw [HRL.out, HPL.out]; exact h2.1, by rw [HCL.out]; exact h2.2, by rw [HPL.out]; exact h1.1⟩
      have HNEW : Hid (s2 = headT b ++ bodyT b ((b.fBudgets.zip b.fContours).take (k + 1))) := by
       show _ = _
       rw [bodyT_snoc HZ.out, HS2.out, HS1.out, e, HF5.out, HS.out]
       simp only [rowT, ByteArray.append_assoc]
      have HZ2 := Lib.hid (okSnocZ HZ.out HA.out HOKC.out)
      have HSZ : Hid (s2.size ≤ 110 + 23 * (k + 1) + 309 * lenSum (b.fContours.take (k + 1))) := by
       show _ ≤ _; rw [HSN.out, ← HSL.out]; omega
      clear hir e
      go_wp2
      go_roundw
      case rel => exact ⟨k + 1, s2, ⟨by omega, by omega⟩, by go_num, rfl, HSZ.out, HNEW.out, HZ2.out, hE⟩
      case measure => simp [intOf]; omega
   ·have HE : Hid (s = bouqT b) := by
     show _ = _
     have e : (b.fBudgets.zip b.fContours).take k = b.fBudgets.zip b.fContours := List.take_of_length_le (by rw [List.length_zip, HBL.out, HCL.out]; omega)
     have h := HA.out
     rw [e] at h
     rw [HS.out, e]; unfold bouqT; rw [if_pos h]
    go_wp2
    go_ret
    exact ⟨by rw [← HE.out]; rfl, hB2⟩
  ·have HE : Hid (s = bouqT b) := by
    show _ = _
    have e : (b.fBudgets.zip b.fContours).take k = b.fBudgets.zip b.fContours := List.take_of_length_le (by rw [List.length_zip, HBL.out, HCL.out]; omega)
    have h := HA.out
    rw [e] at h
    rw [HS.out, e]; unfold bouqT; rw [if_pos h]
   go_wp2
   go_ret
   exact ⟨by rw [← HE.out]; rfl, hB2⟩
set_option maxRecDepth 100000 in
set_option maxHeartbeats 1600000 in
theorem iFormatBouquet_c (csb : List Value) (b : BouquetD) (w : World) (hb : (rBouquet NB).rep w csb b) (ht : Tab w) (hbk : lenSum b.fContours ≤ 1048576) :
  Calls Tryd.prog 19 #[.agg csb.toArray] w fun e w' => e = .returned (.string (bouqT b)) ∧ Below w.heap.size w w' := by
 have rb := hb
 obtain ⟨AbBoxLow, nbBoxLow, cbBoxLow, AbBoxHigh, nbBoxHigh, cbBoxHigh, AbBudgets, nbBudgets, cbBudgets, AbPlans, nbPlans, cbPlans, AbContours, nbContours, cbContours, rfl, hbVersion, hbRatio, hbSlack, hbBoxLow, hbBoxHigh, hbBudgets, hbPlans, hbContours⟩ := rBouquet_rep.1 hb
 clear hb
 have hB : Below w.heap.size w w := Below.refl _ _
 have hAb := (Below.refl (World.heap (w)).size (w)).alloc (Nat.le_refl _) (.cells #[.int .i64 b.fVersion, .int .i64 b.fRatio, .int .i64 b.fSlack, .slice AbBoxLow nbBoxLow cbBoxLow, .slice AbBoxHigh nbBoxHigh cbBoxHigh, .slice AbBudgets nbBudgets cbBudgets, .slice AbPlans nbPlans cbPlans, .slice AbContours nbContours cbContours] 59)
 replace hB := hB.trans (hAb.mono hB.size)
 have bxb := Bx.new (w) [.int .i64 b.fVersion, .int .i64 b.fRatio, .int .i64 b.fSlack, .slice AbBoxLow nbBoxLow cbBoxLow, .slice AbBoxHigh nbBoxHigh cbBoxHigh, .slice AbBudgets nbBudgets cbBudgets, .slice AbPlans nbPlans cbPlans, .slice AbContours nbContours cbContours] 59
 clear hAb
 have HCL := Lib.hid hbContours.len
 have HPL := Lib.hid hbPlans.len
 have HBL := Lib.hid hbBudgets.len
 have hnC := hbContours.bound
 have hncC := hbContours.nc
 have hnP := hbPlans.bound
 have hnB := hbBudgets.bound
 have HBK := Lib.hid hbk; clear hbk
 have z1 := fmtI_le hbVersion
 have z2 := fmtI_le hbRatio
 have z3 := fmtI_le hbSlack
 have z4 := boxT_le b.fBox
 obtain ⟨F1, hF1⟩ : ∃ F, F = fmtI b.fVersion := ⟨_, rfl⟩
 rw [← hF1] at z1
 have HF1 := Lib.hid hF1; clear hF1
 obtain ⟨F2, hF2⟩ : ∃ F, F = fmtI b.fRatio := ⟨_, rfl⟩
 rw [← hF2] at z2
 have HF2 := Lib.hid hF2; clear hF2
 obtain ⟨F3, hF3⟩ : ∃ F, F = fmtI b.fSlack := ⟨_, rfl⟩
 rw [← hF3] at z3
 have HF3 := Lib.hid hF3; clear hF3
 obtain ⟨F4, hF4⟩ : ∃ F, F = boxT b.fBox := ⟨_, rfl⟩
 rw [← hF4] at z4
 have HF4 := Lib.hid hF4; clear hF4
 have HHD : Hid (⟨#[118]⟩ ++ F1 ++ ⟨#[32, 114]⟩ ++ F2 ++ ⟨#[32, 115]⟩ ++ F3 ++ ⟨#[32]⟩ ++ F4 = headT b ++ bodyT b ((b.fBudgets.zip b.fContours).take 0)) := by
  show _ = _; rw [HF1.out, HF2.out, HF3.out, HF4.out, List.take_zero, show bodyT b [] = ⟨#[]⟩ from rfl, bNil]; rfl
 have HHZ : Hid ((⟨#[118]⟩ ++ F1 ++ ⟨#[32, 114]⟩ ++ F2 ++ ⟨#[32, 115]⟩ ++ F3 ++ ⟨#[32]⟩ ++ F4).size ≤ 110) := by
  show _ ≤ _; simp only [ByteArray.size_append, bz1, bz2]; omega
 obtain ⟨M, hM1, hM2, hM3, hmin⟩ : ∃ M : Nat, M ≤ nbContours ∧ M ≤ nbBudgets ∧ (b.fBudgets.zip b.fContours).take M = b.fBudgets.zip b.fContours ∧ min (nbContours : Int) (nbBudgets : Int) = (M : Int) := by
  by_cases h : nbContours ≤ nbBudgets
  ·exact ⟨nbContours, Nat.le_refl _, h, List.take_of_length_le (by rw [List.length_zip, HBL.out, HCL.out]; omega), by omega⟩
  ·exact ⟨nbBudgets, by omega, Nat.le_refl _, List.take_of_length_le (by rw [List.length_zip, HBL.out, HCL.out]; omega), by omega⟩
 have HM3 := Lib.hid hM3; clear hM3
 go_enter Tryd.func19, Tryd.ntmps19
 go_upto_region 1 with fail
 obtain ⟨wb, hwb⟩ : ∃ W, W = w.alloc (.cells #[.int .i64 b.fVersion, .int .i64 b.fRatio, .int .i64 b.fSlack, .slice AbBoxLow nbBoxLow cbBoxLow, .slice AbBoxHigh nbBoxHigh cbBoxHigh, .slice AbBudgets nbBudgets cbBudgets, .slice AbPlans nbPlans cbPlans, .slice AbContours nbContours cbContours] 59) := ⟨_, rfl⟩
 rw [← hwb] at hB bxb ⊢
 clear hwb
 have HSS : Hid (∀ w', Below wb.heap.size wb w' → (w'.cell? ⟨w.heap.size, 0, none⟩ = some (.int .i64 b.fVersion) ∧ w'.cell? ⟨w.heap.size, 1, none⟩ = some (.int .i64 b.fRatio) ∧ w'.cell? ⟨w.heap.size, 2, none⟩ = some (.int .i64 b.fSlack) ∧ w'.cell? ⟨w.heap.size, 3, none⟩ = some (.slice AbBoxLow nbBoxLow cbBoxLow) ∧ w'.cell? ⟨w.heap.size, 4, none⟩ = some (.slice AbBoxHigh nbBoxHigh cbBoxHigh))) := by
  show ∀ w', _ → _
  intro w' hb
  exact ⟨(bxb.below hb) 0 _ rfl, (bxb.below hb) 1 _ rfl, (bxb.below hb) 2 _ rfl, (bxb.below hb) 3 _ rfl, (bxb.below hb) 4 _ rfl⟩
 have K1 : Hid (∀ W, Below wb.heap.size wb W → Calls Tryd.prog 27 #[.int .i64 b.fVersion] W fun e w' => e = .returned (.string F1) ∧ Below W.heap.size W w') := by
  show ∀ W, _ → _
  intro W hW; rw [HF1.out]; exact iFormatInt_c b.fVersion W hbVersion (ht.below (hB.trans (hW.mono hB.size)))
 have K2 : Hid (∀ W, Below wb.heap.size wb W → Calls Tryd.prog 27 #[.int .i64 b.fRatio] W fun e w' => e = .returned (.string F2) ∧ Below W.heap.size W w') := by
  show ∀ W, _ → _
  intro W hW; rw [HF2.out]; exact iFormatInt_c b.fRatio W hbRatio (ht.below (hB.trans (hW.mono hB.size)))
 have K3 : Hid (∀ W, Below wb.heap.size wb W → Calls Tryd.prog 27 #[.int .i64 b.fSlack] W fun e w' => e = .returned (.string F3) ∧ Below W.heap.size W w') := by
  show ∀ W, _ → _
  intro W hW; rw [HF3.out]; exact iFormatInt_c b.fSlack W hbSlack (ht.below (hB.trans (hW.mono hB.size)))
 have K4 : Hid (∀ W, Below wb.heap.size wb W → Calls Tryd.prog 45 #[.agg #[.slice AbBoxLow nbBoxLow cbBoxLow, .slice AbBoxHigh nbBoxHigh cbBoxHigh]] W fun e w' => e = .returned (.string F4) ∧ Below W.heap.size W w') := by
  show ∀ W, _ → _
  intro W hW; rw [HF4.out]
  have hX := hB.trans (hW.mono hB.size)
  exact iFormatBox_c _ b.fBox W (rBox_rep.2 ⟨AbBoxLow, nbBoxLow, cbBoxLow, AbBoxHigh, nbBoxHigh, cbBoxHigh, rfl, hbBoxLow.below rInt_ok hX, hbBoxHigh.below rInt_ok hX⟩)
 have n1 : ¬ 9223372036854775807 < 1 + F1.size := by omega
 have n2 : ¬ 9223372036854775807 < 1 + F1.size + 2 := by omega
 have n3 : ¬ 9223372036854775807 < 1 + F1.size + 2 + F2.size := by omega
 have n4 : ¬ 9223372036854775807 < 1 + F1.size + 2 + F2.size + 2 := by omega
 have n5 : ¬ 9223372036854775807 < 1 + F1.size + 2 + F2.size + 2 + F3.size := by omega
 have n6 : ¬ 9223372036854775807 < 1 + F1.size + 2 + F2.size + 2 + F3.size + 1 := by omega
 have n7 : ¬ 9223372036854775807 < 1 + F1.size + 2 + F2.size + 2 + F3.size + 1 + F4.size := by omega
 go_wp2
 refine hbg HSS.out (Below.refl _ _).drew (fun hHeld => ?_)
 refine tka 0 9 hHeld ?_; simp only [putS]
 refine tka 1 10 hHeld ?_; simp only [putS]
 refine tka 5 14 hHeld ?_; simp only [putS]
 refine tka 6 15 hHeld ?_; simp only [putS]
 refine tka 10 19 hHeld ?_; simp only [putS]
 refine tka 11 20 hHeld ?_; simp only [putS]
 refine tka 15 24 hHeld ?_; simp only [putS]
 refine tka 16 25 hHeld ?_; simp only [putS]
 refine wpAnyH_ready (rs := [2]) (by kernel_rfl) (by simp) ?_
 refine AllReadyH.cons (o := ⟨some 11, _, _, _, _, _⟩) rfl (fun K hK => ?_) AllReadyH.nil
 clear hHeld
 go_simp
 refine (K1.out _ (Below.refl wb.heap.size wb).drew).mono ?_
 rintro e w1 ⟨rfl, hb1⟩
 have hE1 : Below wb.heap.size wb w1 := ((Below.refl wb.heap.size wb).drew.trans (hb1.mono (by simp)))
 go_wp2_with fail
 refine hK.out _ _ (HSS.out _ hE1) (fun hHeld => ?_)
 clear hK K
 try simp only [putS]
 refine tka 3 12 hHeld ?_; simp only [putS]
 refine tka 4 13 hHeld ?_; simp only [putS]
 refine wpAnyH_ready (rs := [7]) (by kernel_rfl) (by simp) ?_
 refine AllReadyH.cons (o := ⟨some 16, _, _, _, _, _⟩) rfl (fun K hK => ?_) AllReadyH.nil
 clear hHeld
 go_simp
 refine (K2.out _ hE1).mono ?_
 rintro e w2 ⟨rfl, hb2⟩
 have hE2 := hE1.trans (hb2.mono hE1.size)
 go_wp2_with fail
 refine hK.out _ _ (HSS.out _ hE2) (fun hHeld => ?_)
 clear hK K
 try simp only [putS]
 refine tka 8 17 hHeld ?_; simp only [putS]
 refine tka 9 18 hHeld ?_; simp only [putS]
 refine wpAnyH_ready (rs := [12]) (by kernel_rfl) (by simp) ?_
 refine AllReadyH.cons (o := ⟨some 21, _, _, _, _, _⟩) rfl (fun K hK => ?_) AllReadyH.nil
 clear hHeld
 go_simp
 refine (K3.out _ hE2).mono ?_
 rintro e w3 ⟨rfl, hb3⟩
 have hE3 := hE2.trans (hb3.mono hE2.size)
 go_wp2_with fail
 refine hK.out _ _ (HSS.out _ hE3) (fun hHeld => ?_)
 clear hK K
 try simp only [putS]
 refine tka 13 22 hHeld ?_; simp only [putS]
 refine tka 14 23 hHeld ?_; simp only [putS]
 refine wpAnyH_ready (rs := [17]) (by kernel_rfl) (by simp) ?_
 refine AllReadyH.cons (o := ⟨some 26, _, _, _, _, _⟩) rfl (fun K hK => ?_) AllReadyH.nil
 clear hHeld
 go_simp
 refine (K4.out _ hE3).mono ?_
 rintro e w4 ⟨rfl, hb4⟩
 have hE4 := hE3.trans (hb4.mono hE3.size)
 go_wp2_with fail
 refine hK.out _ _ (HSS.out _ hE4) (fun hHeld => ?_)
 clear hK K
 try simp only [putS]
 refine tka 18 27 hHeld ?_; simp only [putS]
 refine tka 19 3 hHeld ?_; simp only [putS]
 refine wpAnyH_done (by kernel_rfl) ?_ _
 clear hHeld
 clear HSS K1 K2 K3 K4 n1 n2 n3 n4 n5 n6 n7 hE1 hE2 hE3 hb1 hb2 hb3 hb4
 have kb_5 := (bxb.below hE4) 5 _ rfl
 have kb_7 := (bxb.below hE4) 7 _ rfl
 have hHD2 := HHD.out
 have hHZ2 := HHZ.out
 obtain ⟨hd, hhd⟩ : ∃ t, t = ⟨#[118]⟩ ++ F1 ++ ⟨#[32, 114]⟩ ++ F2 ++ ⟨#[32, 115]⟩ ++ F3 ++ ⟨#[32]⟩ ++ F4 := ⟨_, rfl⟩
 rw [← hhd] at hHD2 hHZ2 ⊢
 clear hhd HHD HHZ z1 z2 z3 z4 HF1 HF2 HF3 HF4
 have HHD := Lib.hid hHD2; clear hHD2
 by_cases hn0 : 0 < nbContours
 ·obtain ⟨bC, oC, eA⟩ : ∃ b o, AbContours = some ⟨b, o, none⟩ := by obtain ⟨b, o, e, _⟩ := hbContours.cell hn0; exact ⟨b, o, e⟩
  subst eA
  have hMc : M ≤ cbContours := by omega
  have hMci : (M : Int) ≤ (cbContours : Int) := by omega
  go_wp2
  go_loopw [3, 39] (fun vs vi wr => ∃ (k : Nat) (s : ByteArray), k ≤ M ∧ vi = .int .i64 k ∧ vs = .string s ∧ s.size ≤ 110 + 23 * k + 309 * lenSum (b.fContours.take k) ∧ s = headT b ++ bodyT b ((b.fBudgets.zip b.fContours).take k) ∧ (∀ z ∈ (b.fBudgets.zip b.fContours).take k, okC b z.2) ∧ Below wb.heap.size wb wr) (fun _ vi _ => M - (intOf vi).toNat)
  case atStart => exact ⟨0, hd, Nat.zero_le _, rfl, rfl, hHZ2, HHD.out, by simp, hE4⟩
  case round =>
   clear hE4 kb_5 kb_7 hHZ2 HHD hmin
   obtain ⟨k, s, hk, rfl, rfl, hsz, hs, hall, hE⟩ := hrel
   have HS := Lib.hid hs; clear hs
   have HA := Lib.hid hall; clear hall
   have hB2 := hB.trans (hE.mono hB.size)
   by_cases hlt : k < M
   ·obtain ⟨bB, oB, x, rfl, hcx, hIx, hx⟩ := hbBudgets.ati (k := k) (by omega)
    obtain ⟨b', o', row, Ar, nr, cr, e', hcr, hRr, hr⟩ := hbContours.row (k := k) (by omega)
    injection e' with e'; injection e' with e1 e2; subst e1; subst e2
    have HX := Lib.hid hx.out; clear hx
    have HR := Lib.hid hr.out; clear hr
    have HZ : Hid ((b.fBudgets.zip b.fContours)[k]? = some (x, row)) := by show _ = _; exact List.getElem?_zip_eq_some.2 ⟨HX.out, HR.out⟩
    have HRL := Lib.hid hRr.len
    have hnr := hRr.bound
    have HSN : Hid (lenSum (b.fContours.take (k + 1)) = lenSum (b.fContours.take k) + nr) := by show _ = _; rw [lenSum_snoc HR.out, hRr.len]
    have HSM : Hid (lenSum (b.fContours.take k) + nr ≤ 1048576) := by show _ ≤ _; rw [← HSN.out]; exact Nat.le_trans (lenSum_take _ _) HBK.out
    have hsm := HSM.out
    obtain ⟨sl, hsl⟩ : ∃ z, z = lenSum (b.fContours.take k) := ⟨_, rfl⟩
    rw [← hsl] at hsm hsz
    have HSL := Lib.hid hsl; clear hsl
    have kb_6 := (bxb.below hE) 6 _ rfl
    have kb_7 := (bxb.below hE) 7 _ rfl
    have hcr2 := cells_below hB2 _ _ hcr
    have hkMi : (k : Int) < (M : Int) := by omega
    by_cases hbad : 0 < nr ∧ ¬ (nr ≤ nbPlans ∧ nbContours ≤ 99)
    ·have HN : Hid (bouqT b = ⟨#[]⟩) := by show _ = _; exact bouqT_bad (mem_of_at HZ.out) (okC_long (by rw [HRL.out]; omega) (by rw [HRL.out, HPL.out, HCL.out]; exact hbad.2))
     obtain ⟨hr0, hr1⟩ := hbad
     have hr0' : (0 : Int) < (nr : Int) := by omega
     by_cases hrP : nbPlans < nr
     ·clear hr1
      go_wp2
      go_ret
      exact ⟨by rw [HN.out]; rfl, hB2⟩
     ·have hC9 : 99 < nbContours := by omega
      have hC9' : (99 : Int) < (nbContours : Int) := by omega
      clear hr1
      go_wp2
      go_ret
      exact ⟨by rw [HN.out]; rfl, hB2⟩
    ·have HGD : Hid (0 < nr → nr ≤ nbPlans ∧ nbContours ≤ 99) := by
      show _ → _
      intro h
      by_cases h2 : nr ≤ nbPlans ∧ nbContours ≤ 99
      ·exact h2
      ·exact absurd ⟨h, h2⟩ hbad
     have hgo : nr = 0 ∨ (0 < nr ∧ (0 : Int) < (nr : Int) ∧ ¬ nbPlans < nr ∧ ¬ 99 < nbContours ∧ ¬ (99 : Int) < (nbContours : Int)) := by
      rcases Nat.eq_zero_or_pos nr with h | h
      ·exact .inl h
      ·have h2 := HGD.out h; exact .inr ⟨h, by omega, by omega, by omega, by omega⟩
     clear hbad
     rcases hgo with hr0 | ⟨hr0, hr0', hrP, hC9, hC9'⟩
     ·have hrN : ¬ (0 : Int) < (nr : Int) := by omega
      have hrN2 : ¬ 0 < nr := by omega
      clear hr0
      go_upto_region 8 with fail
      clear hrN hrN2
      have hM0 := MS.empty (B := wr.heap.size) (M := NB) (e := 9) (r := rStr NB) wr (Nat.le_refl _)
      have hE0 := (Below.refl wr.heap.size wr).alloc (Nat.le_refl _) (.cells #[] 9)
      obtain ⟨wy, hwy⟩ : ∃ W, W = wr.alloc (.cells #[] 9) := ⟨_, rfl⟩
      rw [← hwy] at hM0 hE0 ⊢
      clear hwy kb_6 kb_7 hcr2
      obtain ⟨T, hT⟩ : ∃ T, T = wr.heap.size := ⟨_, rfl⟩
      have hEy := hE.trans (hE0.mono hE.size)
      have hTb : wb.heap.size ≤ T := by rw [hT]; exact hE.size
      have hTy : T ≤ wy.heap.size := by rw [hT]; exact hE0.size
      rw [← hT] at hM0 ⊢
      clear hT hE0 hB2 hE wr
      go_wp2
      go_loopw [6, 64] (fun vs vi wr => ∃ (i c : Nat) (A : Option Addr), i ≤ nr ∧ vi = .int .i64 i ∧ vs = .slice A i c ∧ MS T NB 9 (rStr NB) wr A i c ((row.take i).map (pT b)) ∧ (∀ p ∈ row.take i, inR p 0 ((nbPlans : Int) - 1) = true) ∧ T ≤ wr.heap.size ∧ Below wb.heap.size wb wr) (fun _ vi _ => nr - (intOf vi).toNat)
      case atStart => exact ⟨0, 0, _, Nat.zero_le _, rfl, rfl, hM0, by simp, hTy, hEy⟩
      case round =>
       clear hM0 hEy hTy
       obtain ⟨i, c, A, hi, rfl, rfl, hM, hok, hTr, hE⟩ := hrel
       have HOK := Lib.hid hok; clear hok
       have hB2 := hB.trans (hE.mono hB.size)
       by_cases hlt2 : i < nr
       ·obtain ⟨bR, oR, p, rfl, hcp, hIp, hp⟩ := hRr.ati hlt2
        have HP := Lib.hid hp.out; clear hp
        have HPM := Lib.hid (mem_of_at HP.out)
        have hcp2 := cells_below hB2 _ _ hcp
        have kb_6 := (bxb.below hE) 6 _ rfl
        have m1 : IntKind.i64.wrap ((nbPlans : Int) - 1) = (nbPlans : Int) - 1 := IntWalk.i64_in _ (by omega)
        cases hin : inR p 0 ((nbPlans : Int) - 1)
        ·have HN : Hid (bouqT b = ⟨#[]⟩) := by show _ = _; exact bouqT_bad (mem_of_at HZ.out) (okC_far HPM.out (by rw [HPL.out]; exact hin))
         have K6 := Lib.hid (fun W => within_v hin W); clear hin
         go_wp2_with (go_at_call 46; refine (K6.out _).mono ?_; rintro e w' ⟨rfl, hww⟩; replace hww := hww.symm; subst hww)
         go_ret
         exact ⟨by rw [HN.out]; rfl, hB2⟩
        have HIN := Lib.hid hin
        have hin' := inR_t.1 hin
        have K6 := Lib.hid (fun W => within_v hin W); clear hin
        obtain ⟨j, rfl⟩ : ∃ j : Nat, p = j := ⟨p.toNat, by omega⟩
        have hj : j < nbPlans := by omega
        obtain ⟨bP, oP, P, AP, nP, cP, rfl, hcP, hRP, hPX⟩ := hbPlans.planX hj
        have z6 := planT_le P
        obtain ⟨F6, hF6⟩ : ∃ F, F = planT P := ⟨_, rfl⟩
        rw [← hF6] at z6
        have HF6 := Lib.hid hF6; clear hF6
        have K7 : Hid (∀ W, Below w.heap.size w W → Calls Tryd.prog 47 #[.agg #[.slice AP nP cP]] W fun e w' => e = .returned (.string F6) ∧ Below W.heap.size W w') := by
         show ∀ W, _ → _
         intro W hW; rw [HF6.out]; exact iFormatPlan_c _ P W (rPlan_rep.2 ⟨_, _, _, rfl, hRP.below (rPlanStep_ok NB) hW⟩) (ht.below hW)
        have HT : Hid ((row.take (i + 1)).map (pT b) = (row.take i).map (pT b) ++ [F6]) := by
         show _ = _
         rw [rows_snoc HP.out, pT_at hPX.out, ← HF6.out]
        have HO2 := Lib.hid (okSnoc HP.out HOK.out HIN.out)
        have hcP2 := cells_below hB2 _ _ hcP
        have hjI : (j : Int) < (nbPlans : Int) := by omega
        clear hPX
        go_wp2_with (first | (go_at_call 46; refine (K6.out _).mono ?_; rintro e w' ⟨rfl, hww⟩; replace hww := hww.symm; subst hww) | (go_at_call 47; refine (K7.out _ hB2).mono ?_; rintro e w7 ⟨rfl, hb7⟩; have hE7 := hE.trans (hb7.mono hE.size); have hT7 : T ≤ w7.heap.size := Nat.le_trans hTr hb7.size; have hM7 := hM.below (rStr_ok NB) hb7; clear hM kb_6 hcp2 hcP2) | (at_builtin; refine wpList_app (r := rStr NB) rfl _ _ 93 rfl _ 16 eiStr (rStr_ok NB) rfl hM7 ((Below.refl _ _).alloc (Nat.le_refl _) _) hT7 ⟨_, 0, none⟩ rfl [] [.string F6] F6 ⟨rfl, rfl, by unfold NB; omega⟩ (Fr.nil _) (cellS_new _ _ _) (by unfold NB; omega) (Nat.le_refl _) (by omega) ?_; intro A9 c9 w9 hM9 hb9 hg9))
        go_roundw
        case rel => exact ⟨i + 1, _, _, by omega, by go_num, rfl, by rw [HT.out]; exact hM9, HO2.out, Nat.le_trans hT7 (Nat.le_trans (by simp) hb9.size), (hE7.alloc hE7.size _).trans (hb9.mono hTb)⟩
        case measure => simp [intOf]; omega
       ·have hir : i = nr := by omega
        have e : row.take i = row := List.take_of_length_le (by rw [HRL.out]; omega)
        rw [e] at hM
        have HOKC : Hid (okC b row) := by
         show okC b row
         by_cases h0 : nr = 0
         ·exact .inl (List.eq_nil_of_length_eq_zero (by rw [HRL.out]; exact h0))
         ·have h1 := HOK.out
          rw [e] at h1
          have h2 := HGD.out (by omega)
          exact .inr ⟨by rw [HRL.out, HPL.out]; exact h2.1, by rw [HCL.out]; exact h2.2, by rw [HPL.out]; exact h1⟩
        clear HOK e hlt2
        subst hir
        have zJ : (joinB ⟨#[44]⟩ (row.map (pT b))).size ≤ 309 * i := by
         have h1 := joinB_size (sep := ⟨#[44]⟩) (m := 308) (l := row.map (pT b)) (fun x hx => by obtain ⟨y, _, rfl⟩ := List.mem_map.1 hx; exact pT_le b y)
         rw [bz1, List.length_map, HRL.out] at h1
         omega
        have K9 : Hid (Calls Tryd.prog 48 #[.slice A i c, .string ⟨#[44]⟩] wr fun e w' => e = .returned (.string (joinB ⟨#[44]⟩ (row.map (pT b)))) ∧ Below wr.heap.size wr w') := join_c _ hM (by omega)
        obtain ⟨J, hJ⟩ : ∃ z, z = joinB ⟨#[44]⟩ (row.map (pT b)) := ⟨_, rfl⟩
        rw [← hJ] at K9 zJ
        have HJ := Lib.hid hJ; clear hJ
        have z5 := fmtI_le hIx
        obtain ⟨F5, hF5⟩ : ∃ F, F = fmtI x := ⟨_, rfl⟩
        rw [← hF5] at z5
        have HF5 := Lib.hid hF5; clear hF5
        have K5 : Hid (∀ W, Below w.heap.size w W → Calls Tryd.prog 27 #[.int .i64 x] W fun e w' => e = .returned (.string F5) ∧ Below W.heap.size W w') := by
         show ∀ W, _ → _
         intro W hW; rw [HF5.out]; exact iFormatInt_c x W hIx (ht.below hW)
        have HNEW : Hid (s ++ (⟨#[124]⟩ ++ F5 ++ ⟨#[58]⟩ ++ J) = headT b ++ bodyT b ((b.fBudgets.zip b.fContours).take (k + 1))) := by
         show _ = _
         rw [bodyT_snoc HZ.out, HJ.out, HF5.out, HS.out]
         simp only [rowT, ByteArray.append_assoc]
        have HZ2 := Lib.hid (okSnocZ HZ.out HA.out HOKC.out)
        have HSZ : Hid (s.size + (1 + F5.size + 1 + J.size) ≤ 110 + 23 * (k + 1) + 309 * lenSum (b.fContours.take (k + 1))) := by
         show _ ≤ _; rw [HSN.out, ← HSL.out]; omega
        have n1 : ¬ 9223372036854775807 < 1 + F5.size := by omega
        have n2 : ¬ 9223372036854775807 < 1 + F5.size + 1 := by omega
        have n3 : ¬ 9223372036854775807 < 1 + F5.size + 1 + J.size := by omega
        have n4 : ¬ 9223372036854775807 < s.size + (1 + F5.size + 1 + J.size) := by omega
        have kb_5 := (bxb.below hE) 5 _ rfl
        have hcx2 := cells_below hB2 _ _ hcx
        have hkB : (k : Int) < (nbBudgets : Int) := by omega
        have hkB2 : k < nbBudgets := by omega
        go_wp2_with (first | (go_at_call 27; refine (K5.out _ hB2).mono ?_; rintro e w5 ⟨rfl, hb5⟩; have hE5 := hE.trans (hb5.mono hE.size); have K9' := Lib.hid (join_c (⟨#[44]⟩ : ByteArray) (hM.below (rStr_ok NB) hb5) (by rw [← HJ.out]; omega)); rw [← HJ.out] at K9') | (go_at_call 48; refine K9'.out.mono ?_; rintro e w6 ⟨rfl, hb6⟩))
        go_roundw
        case rel => exact ⟨k + 1, _, by omega, by go_num, rfl, by simp only [ByteArray.size_append, bz1]; exact HSZ.out, HNEW.out, HZ2.out, hE5.trans (hb6.mono hE5.size)⟩
        case measure => simp [intOf]; omega
     ·go_upto_region 8 with fail
      clear hrP hC9 hC9' hr0 hr0'
      have hM0 := MS.empty (B := wr.heap.size) (M := NB) (e := 9) (r := rStr NB) wr (Nat.le_refl _)
      have hE0 := (Below.refl wr.heap.size wr).alloc (Nat.le_refl _) (.cells #[] 9)
      obtain ⟨wy, hwy⟩ : ∃ W, W = wr.alloc (.cells #[] 9) := ⟨_, rfl⟩
      rw [← hwy] at hM0 hE0 ⊢
      clear hwy kb_6 kb_7 hcr2
      obtain ⟨T, hT⟩ : ∃ T, T = wr.heap.size := ⟨_, rfl⟩
      have hEy := hE.trans (hE0.mono hE.size)
      have hTb : wb.heap.size ≤ T := by rw [hT]; exact hE.size
      have hTy : T ≤ wy.heap.size := by rw [hT]; exact hE0.size
      rw [← hT] at hM0 ⊢
      clear hT hE0 hB2 hE wr
      go_wp2
      go_loopw [6, 64] (fun vs vi wr => ∃ (i c : Nat) (A : Option Addr), i ≤ nr ∧ vi = .int .i64 i ∧ vs = .slice A i c ∧ MS T NB 9 (rStr NB) wr A i c ((row.take i).map (pT b)) ∧ (∀ p ∈ row.take i, inR p 0 ((nbPlans : Int) - 1) = true) ∧ T ≤ wr.heap.size ∧ Below wb.heap.size wb wr) (fun _ vi _ => nr - (intOf vi).toNat)
      case atStart => exact ⟨0, 0, _, Nat.zero_le _, rfl, rfl, hM0, by simp, hTy, hEy⟩
      case round =>
       clear hM0 hEy hTy
       obtain ⟨i, c, A, hi, rfl, rfl, hM, hok, hTr, hE⟩ := hrel
       have HOK := Lib.hid hok; clear hok
       have hB2 := hB.trans (hE.mono hB.size)
       by_cases hlt2 : i < nr
       ·obtain ⟨bR, oR, p, rfl, hcp, hIp, hp⟩ := hRr.ati hlt2
        have HP := Lib.hid hp.out; clear hp
        have HPM := Lib.hid (mem_of_at HP.out)
        have hcp2 := cells_below hB2 _ _ hcp
        have kb_6 := (bxb.below hE) 6 _ rfl
        have m1 : IntKind.i64.wrap ((nbPlans : Int) - 1) = (nbPlans : Int) - 1 := IntWalk.i64_in _ (by omega)
        cases hin : inR p 0 ((nbPlans : Int) - 1)
        ·have HN : Hid (bouqT b = ⟨#[]⟩) := by show _ = _; exact bouqT_bad (mem_of_at HZ.out) (okC_far HPM.out (by rw [HPL.out]; exact hin))
         have K6 := Lib.hid (fun W => within_v hin W); clear hin
         go_wp2_with (go_at_call 46; refine (K6.out _).mono ?_; rintro e w' ⟨rfl, hww⟩; replace hww := hww.symm; subst hww)
         go_ret
         exact ⟨by rw [HN.out]; rfl, hB2⟩
        have HIN := Lib.hid hin
        have hin' := inR_t.1 hin
        have K6 := Lib.hid (fun W => within_v hin W); clear hin
        obtain ⟨j, rfl⟩ : ∃ j : Nat, p = j := ⟨p.toNat, by omega⟩
        have hj : j < nbPlans := by omega
        obtain ⟨bP, oP, P, AP, nP, cP, rfl, hcP, hRP, hPX⟩ := hbPlans.planX hj
        have z6 := planT_le P
        obtain ⟨F6, hF6⟩ : ∃ F, F = planT P := ⟨_, rfl⟩
        rw [← hF6] at z6
        have HF6 := Lib.hid hF6; clear hF6
        have K7 : Hid (∀ W, Below w.heap.size w W → Calls Tryd.prog 47 #[.agg #[.slice AP nP cP]] W fun e w' => e = .returned (.string F6) ∧ Below W.heap.size W w') := by
         show ∀ W, _ → _
         intro W hW; rw [HF6.out]; exact iFormatPlan_c _ P W (rPlan_rep.2 ⟨_, _, _, rfl, hRP.below (rPlanStep_ok NB) hW⟩) (ht.below hW)
        have HT : Hid ((row.take (i + 1)).map (pT b) = (row.take i).map (pT b) ++ [F6]) := by
         show _ = _
         rw [rows_snoc HP.out, pT_at hPX.out, ← HF6.out]
        have HO2 := Lib.hid (okSnoc HP.out HOK.out HIN.out)
        have hcP2 := cells_below hB2 _ _ hcP
        have hjI : (j : Int) < (nbPlans : Int) := by omega
        clear hPX
        go_wp2_with (first | (go_at_call 46; refine (K6.out _).mono ?_; rintro e w' ⟨rfl, hww⟩; replace hww := hww.symm; subst hww) | (go_at_call 47; refine (K7.out _ hB2).mono ?_; rintro e w7 ⟨rfl, hb7⟩; have hE7 := hE.trans (hb7.mono hE.size); have hT7 : T ≤ w7.heap.size := Nat.le_trans hTr hb7.size; have hM7 := hM.below (rStr_ok NB) hb7; clear hM kb_6 hcp2 hcP2) | (at_builtin; refine wpList_app (r := rStr NB) rfl _ _ 93 rfl _ 16 eiStr (rStr_ok NB) rfl hM7 ((Below.refl _ _).alloc (Nat.le_refl _) _) hT7 ⟨_, 0, none⟩ rfl [] [.string F6] F6 ⟨rfl, rfl, by unfold NB; omega⟩ (Fr.nil _) (cellS_new _ _ _) (by unfold NB; omega) (Nat.le_refl _) (by omega) ?_; intro A9 c9 w9 hM9 hb9 hg9))
        go_roundw
        case rel => exact ⟨i + 1, _, _, by omega, by go_num, rfl, by rw [HT.out]; exact hM9, HO2.out, Nat.le_trans hT7 (Nat.le_trans (by simp) hb9.size), (hE7.alloc hE7.size _).trans (hb9.mono hTb)⟩
        case measure => simp [intOf]; omega
       ·have hir : i = nr := by omega
        have e : row.take i = row := List.take_of_length_le (by rw [HRL.out]; omega)
        rw [e] at hM
        have HOKC : Hid (okC b row) := by
         show okC b row
         by_cases h0 : nr = 0
         ·exact .inl (List.eq_nil_of_length_eq_zero (by rw [HRL.out]; exact h0))
         ·have h1 := HOK.out
          rw [e] at h1
          have h2 := HGD.out (by omega)
          exact .inr ⟨by rw [HRL.out, HPL.out]; exact h2.1, by rw [HCL.out]; exact h2.2, by rw [HPL.out]; exact h1⟩
        clear HOK e hlt2
        subst hir
        have zJ : (joinB ⟨#[44]⟩ (row.map (pT b))).size ≤ 309 * i := by
         have h1 := joinB_size (sep := ⟨#[44]⟩) (m := 308) (l := row.map (pT b)) (fun x hx => by obtain ⟨y, _, rfl⟩ := List.mem_map.1 hx; exact pT_le b y)
         rw [bz1, List.length_map, HRL.out] at h1
         omega
        have K9 : Hid (Calls Tryd.prog 48 #[.slice A i c, .string ⟨#[44]⟩] wr fun e w' => e = .returned (.string (joinB ⟨#[44]⟩ (row.map (pT b)))) ∧ Below wr.heap.size wr w') := join_c _ hM (by omega)
        obtain ⟨J, hJ⟩ : ∃ z, z = joinB ⟨#[44]⟩ (row.map (pT b)) := ⟨_, rfl⟩
        rw [← hJ] at K9 zJ
        have HJ := Lib.hid hJ; clear hJ
        have z5 := fmtI_le hIx
        obtain ⟨F5, hF5⟩ : ∃ F, F = fmtI x := ⟨_, rfl⟩
        rw [← hF5] at z5
        have HF5 := Lib.hid hF5; clear hF5
        have K5 : Hid (∀ W, Below w.heap.size w W → Calls Tryd.prog 27 #[.int .i64 x] W fun e w' => e = .returned (.string F5) ∧ Below W.heap.size W w') := by
         show ∀ W, _ → _
         intro W hW; rw [HF5.out]; exact iFormatInt_c x W hIx (ht.below hW)
        have HNEW : Hid (s ++ (⟨#[124]⟩ ++ F5 ++ ⟨#[58]⟩ ++ J) = headT b ++ bodyT b ((b.fBudgets.zip b.fContours).take (k + 1))) := by
         show _ = _
         rw [bodyT_snoc HZ.out, HJ.out, HF5.out, HS.out]
         simp only [rowT, ByteArray.append_assoc]
        have HZ2 := Lib.hid (okSnocZ HZ.out HA.out HOKC.out)
        have HSZ : Hid (s.size + (1 + F5.size + 1 + J.size) ≤ 110 + 23 * (k + 1) + 309 * lenSum (b.fContours.take (k + 1))) := by
         show _ ≤ _; rw [HSN.out, ← HSL.out]; omega
        have n1 : ¬ 9223372036854775807 < 1 + F5.size := by omega
        have n2 : ¬ 9223372036854775807 < 1 + F5.size + 1 := by omega
        have n3 : ¬ 9223372036854775807 < 1 + F5.size + 1 + J.size := by omega
        have n4 : ¬ 9223372036854775807 < s.size + (1 + F5.size + 1 + J.size) := by omega
        have kb_5 := (bxb.below hE) 5 _ rfl
        have hcx2 := cells_below hB2 _ _ hcx
        have hkB : (k : Int) < (nbBudgets : Int) := by omega
        have hkB2 : k < nbBudgets := by omega
        go_wp2_with (first | (go_at_call 27; refine (K5.out _ hB2).mono ?_; rintro e w5 ⟨rfl, hb5⟩; have hE5 := hE.trans (hb5.mono hE.size); have K9' := Lib.hid (join_c (⟨#[44]⟩ : ByteArray) (hM.below (rStr_ok NB) hb5) (by rw [← HJ.out]; omega)); rw [← HJ.out] at K9') | (go_at_call 48; refine K9'.out.mono ?_; rintro e w6 ⟨rfl, hb6⟩))
        go_roundw
        case rel => exact ⟨k + 1, _, by omega, by go_num, rfl, by simp only [ByteArray.size_append, bz1]; exact HSZ.out, HNEW.out, HZ2.out, hE5.trans (hb6.mono hE5.size)⟩
        case measure => simp [intOf]; omega
   ·have HE : Hid (s = bouqT b) := by
     show _ = _
     have e : (b.fBudgets.zip b.fContours).take k = b.fBudgets.zip b.fContours := by rw [show k = M by omega]; exact HM3.out
     have h := HA.out
     rw [e] at h
     rw [HS.out, e]; unfold bouqT; rw [if_pos h]
    go_wp2
    go_ret
    exact ⟨by rw [← HE.out]; rfl, hB2⟩
 ·have HN : Hid (hd = bouqT b) := by
   show _ = _
   have e : b.fBudgets.zip b.fContours = [] := by rw [List.eq_nil_of_length_eq_zero (l := b.fContours) (by rw [HCL.out]; omega)]; simp
   rw [HHD.out]; unfold bouqT; rw [e]; simp
  obtain rfl : nbContours = 0 := by omega
  clear hn0
  have hM0 : M = 0 := by omega
  subst hM0
  rcases AbContours with _ | ⟨bS, oS, spS⟩
  all_goals
   go_wp2
   go_loopw [3, 39] (fun vs vi wr => vi = .int .i64 0 ∧ vs = .string hd ∧ Below wb.heap.size wb wr) (fun _ _ _ => 0)
   case atStart => exact ⟨rfl, rfl, hE4⟩
   case round =>
    clear hE4 kb_5 kb_7
    obtain ⟨rfl, rfl, hE⟩ := hrel
    go_wp2
    go_ret
    exact ⟨by rw [← HN.out]; rfl, hB.trans (hE.mono hB.size)⟩
end Go.Proofs.YtnbikckbnbgjkaaDoor
