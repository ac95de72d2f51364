/-
  Vbp
-/
import Derived.Test.YtnbikckbnbgjkaaGreatPm
import Derived.Test.YtnbikckbnbgjkaaGreatEqLib
namespace Go.Proofs.YtnbikckbnbgjkaaGreat
open Go.RowKit
set_option linter.unusedVariables false
set_option linter.unusedSimpArgs false
theorem fullMask_bd (q : QueryD) : 0 ≤ fullMask q ∧ fullMask q ≤ 15 := by
 unfold fullMask
 split
 ·rename_i h
  have := pow_le16 (validQ_parts h).2.2.2.1
  have : 1 ≤ (2 : Nat) ^ q.fAtoms.length := Nat.one_le_two_pow
  omega
 ·omega
theorem fullMask_pos {q : QueryD} : (fullMask q = 0) ↔ validQ q = false := by
 unfold fullMask
 cases h : validQ q
 ·simp
 ·simp only [if_true]
  have h1 := (validQ_parts h).2.2.1
  have : (2 : Nat) ^ 1 ≤ 2 ^ q.fAtoms.length := Nat.pow_le_pow_right (by omega) h1
  simp only [Bool.true_eq_false, iff_false]; omega
def bqHead (q : QueryD) (b : BouquetD) : Bool := inR b.fVersion 1 999 && inR b.fRatio 2 8 && inR b.fSlack 0 100 && inR (boxVol b.fBox) 1 400 && decide ((b.fBox.fLow.length : Int) = fullMask q + 1)
def budOk (r : Int) (l : List Int) (k : Nat) : Bool := match l[k]? with
 | some x => inR x 1 500000000000 && (decide (k = 0) || match l[k - 1]? with
  | some y => decide (x = r * y)
  | none => true)
 | none => true
def conOk (n : Int) (l : List Int) : Bool := decide (0 < l.length) && (List.range l.length).all (varOk n l)
def planFull (q : QueryD) (p : PlanD) : Bool := decide (planMask q p = fullMask q)
def validBouquet (q : QueryD) (b : BouquetD) : Bool := validQ q && bqHead q b && b.fPlans.all (planFull q) && (List.range b.fBudgets.length).all (budOk b.fRatio b.fBudgets) && b.fContours.all (conOk (b.fPlans.length : Int)) && decide (0 < b.fBudgets.length) && decide (b.fContours.length = b.fBudgets.length)
theorem vb_q {q : QueryD} {b : BouquetD} (h : validQ q = false) : validBouquet q b = false := by simp [validBouquet, h]
theorem vb_head {q : QueryD} {b : BouquetD} (h : bqHead q b = false) : validBouquet q b = false := by simp [validBouquet, h]
theorem vb_plan {q : QueryD} {b : BouquetD} {k : Nat} {p : PlanD} (h : b.fPlans[k]? = some p) (hp : planFull q p = false) : validBouquet q b = false := by
 have : b.fPlans.all (planFull q) = false := by rw [List.all_eq_false]; exact ⟨p, mem_of_at h, by simp [hp]⟩
 simp [validBouquet, this]
theorem vb_bud {q : QueryD} {b : BouquetD} {k : Nat} (hk : k < b.fBudgets.length) (h : budOk b.fRatio b.fBudgets k = false) : validBouquet q b = false := by
 have : (List.range b.fBudgets.length).all (budOk b.fRatio b.fBudgets) = false := by rw [List.all_eq_false]; exact ⟨k, List.mem_range.2 hk, by simp [h]⟩
 simp [validBouquet, this]
theorem vb_con {q : QueryD} {b : BouquetD} {k : Nat} {l : List Int} (h : b.fContours[k]? = some l) (hl : conOk (b.fPlans.length : Int) l = false) : validBouquet q b = false := by
 have : b.fContours.all (conOk (b.fPlans.length : Int)) = false := by rw [List.all_eq_false]; exact ⟨l, mem_of_at h, by simp [hl]⟩
 simp [validBouquet, this]
theorem vb_len {q : QueryD} {b : BouquetD} (h : b.fBudgets.length = 0 ∨ ¬ b.fContours.length = b.fBudgets.length) : validBouquet q b = false := by
 unfold validBouquet
 rcases h with h | h
 ·rw [h]; simp
 ·rw [decide_eq_false h]; simp
theorem vb_end {q : QueryD} {b : BouquetD} (h1 : validQ q = true) (h2 : bqHead q b = true) (h3 : b.fPlans.all (planFull q) = true) (h4 : (List.range b.fBudgets.length).all (budOk b.fRatio b.fBudgets) = true) (h5 : b.fContours.all (conOk (b.fPlans.length : Int)) = true) : validBouquet q b = (decide (0 < b.fBudgets.length) && decide (b.fContours.length = b.fBudgets.length)) := by
 unfold validBouquet; rw [h1, h2, h3, h4, h5]; simp only [Bool.true_and]
theorem budOk_out {r : Int} {l : List Int} {k : Nat} {x : Int} (h : l[k]? = some x) (hx : inR x 1 500000000000 = false) : budOk r l k = false := by simp [budOk, h, hx]
theorem budOk_first {r : Int} {l : List Int} {x : Int} (h : l[0]? = some x) (hx : inR x 1 500000000000 = true) : budOk r l 0 = true := by simp [budOk, h, hx]
theorem budOk_next {r : Int} {l : List Int} {k j : Nat} {x y : Int} (h : l[k]? = some x) (hj : j + 1 = k) (hy : l[j]? = some y) (hx : inR x 1 500000000000 = true) : budOk r l k = decide (x = r * y) := by
 have e : k - 1 = j := by omega
 have : ¬ k = 0 := by omega
 simp [budOk, h, hx, e, hy, this]
theorem budOk_at {r : Int} {l : List Int} {k j : Nat} {y : Int} (h : (List.range k).all (budOk r l) = true) (hj : j < k) (hy : l[j]? = some y) : 1 ≤ y ∧ y ≤ 500000000000 := by
 rw [List.all_eq_true] at h
 have := h j (List.mem_range.2 hj)
 simp only [budOk, hy, Bool.and_eq_true] at this
 exact inR_t.1 this.1
theorem bqHead_parts {q : QueryD} {b : BouquetD} (h : bqHead q b = true) : (2 ≤ b.fRatio ∧ b.fRatio ≤ 8) ∧ (0 ≤ b.fSlack ∧ b.fSlack ≤ 100) ∧ validBox b.fBox = true ∧ (b.fBox.fLow.length : Int) = fullMask q + 1 := by
 unfold bqHead at h
 simp only [Bool.and_eq_true, decide_eq_true_eq] at h
 obtain ⟨⟨⟨⟨h1, h2⟩, h3⟩, h4⟩, h5⟩ := h
 refine ⟨inR_t.1 h2, inR_t.1 h3, ?_, h5⟩
 cases hv : validBox b.fBox
 ·simp [boxVol, hv, inR] at h4
 ·rfl
theorem boxVol_bd (x : BoxD) : 0 ≤ boxVol x ∧ boxVol x ≤ 401 := by
 unfold boxVol
 cases hv : validBox x
 ·simp
 ·simp only [if_true]
  have := (prod_bd (widths_mem hv)).1
  unfold volume; omega
theorem RS.planP {M : Nat} {w : World} {A : Option Addr} {n cap : Nat} {l : List PlanD} (h : RS M (rPlan NB) w A n cap l) {k : Nat} (hk : k < n) :
  ∃ b off x Ar nr cr, A = some ⟨b, off, none⟩ ∧ w.cell? ⟨b, off + k, none⟩ = some (.slice Ar nr cr) ∧ RS NB (rPlanStep NB) w Ar nr cr x.fSteps ∧ Hid (l[k]? = some x) := by
 obtain ⟨b, off, x, cs, e, hrep, hc, hx⟩ := h.at_ hk
 obtain ⟨A1, n1, c1, rfl, h1⟩ := rPlan_rep.1 hrep
 exact ⟨b, off, x, A1, n1, c1, e, by simpa [rPlan_size] using hc 0 _ rfl, h1, hx⟩
/-- the reference's answer, whose query may be invalid till the contours are seen -/
theorem vb_ref {q : QueryD} {b : BouquetD} (h2 : bqHead q b = true) (hl : 0 < b.fBudgets.length) (hc : b.fContours.length = b.fBudgets.length) (h3 : b.fPlans.all (fun p => planFull q p && decide (¬ fullMask q = 0)) = true) (h4 : (List.range b.fBudgets.length).all (budOk b.fRatio b.fBudgets) = true) (h5 : b.fContours.all (conOk (b.fPlans.length : Int)) = true) : validBouquet q b = true := by
 rw [List.all_eq_true] at h3 h5
 have hp : 0 < b.fPlans.length := by
  have hx : b.fContours[0]? = some (b.fContours[0]'(by omega)) := List.getElem?_eq_getElem (by omega)
  have := h5 _ (mem_of_at hx)
  unfold conOk at this
  simp only [Bool.and_eq_true, decide_eq_true_eq, List.all_eq_true, List.mem_range] at this
  have hv := this.2 0 this.1
  have hy : (b.fContours[0]'(by omega))[0]? = some ((b.fContours[0]'(by omega))[0]'this.1) := List.getElem?_eq_getElem this.1
  simp only [varOk, hy, Bool.and_eq_true] at hv
  have := inR_t.1 hv.1
  omega
 have h1 : validQ q = true := by
  have hx : b.fPlans[0]? = some (b.fPlans[0]'hp) := List.getElem?_eq_getElem hp
  have := h3 _ (mem_of_at hx)
  simp only [Bool.and_eq_true, decide_eq_true_eq] at this
  cases hv : validQ q
  ·exact absurd (fullMask_pos.2 hv) this.2
  ·rfl
 rw [vb_end h1 h2 (by rw [List.all_eq_true]; intro p hp; have := h3 p hp; simp only [Bool.and_eq_true] at this; exact this.1) h4 (by rw [List.all_eq_true]; exact h5), decide_eq_true hl, decide_eq_true hc]; rfl
theorem vb_full {q : QueryD} {b : BouquetD} (h : fullMask q = 0) : validBouquet q b = false := vb_q (fullMask_pos.1 h)
theorem conOk_no {n : Int} {l : List Int} (h : l.length = 0) : conOk n l = false := by simp [conOk, h]
theorem conOk_bad {n : Int} {l : List Int} {k : Nat} (hk : k < l.length) (h : varOk n l k = false) : conOk n l = false := by
 have : (List.range l.length).all (varOk n l) = false := by rw [List.all_eq_false]; exact ⟨k, List.mem_range.2 hk, by simp [h]⟩
 simp [conOk, this]
theorem conOk_end {n : Int} {l : List Int} (h : (List.range l.length).all (varOk n l) = true) : conOk n l = decide (0 < l.length) := by simp only [conOk, h, Bool.and_true]
set_option maxHeartbeats 800000 in
theorem iDiff_c (A : Option Addr) (n cap : Nat) (l : List Int) (m : Nat) (w : World) (hr : RS NB rInt w A n cap l) (hm : m ≤ 4294967296) :
  Calls Tryz.prog 63 #[.slice A n cap, .int .i64 m] w fun e w' => e = .returned (.bool (conOk m l)) ∧ w' = w := by
 have hn := hr.bound
 have HL := Lib.hid hr.len
 go_enter Tryz.func63, Tryz.ntmps63
 go_wp2
 go_loop [9] (fun i => ∃ k : Nat, k ≤ n ∧ i = .int .i64 k ∧ (List.range k).all (varOk (m : Int) l) = true) (fun i => n - (intOf i).toNat)
 case atStart => exact ⟨0, Nat.zero_le _, rfl, rfl⟩
 case round =>
  obtain ⟨k, hk, rfl, hall⟩ := hrel
  have HA := Lib.hid hall; clear hall
  by_cases hlt : k < n
  ·obtain ⟨b, off, y, rfl, hc, hI, hy⟩ := hr.ati hlt
   have Hy := Lib.hid hy.out; clear hy
   have hkL : k < l.length := by rw [HL.out]; exact hlt
   have hkc : k ≤ cap := Nat.le_trans (Nat.le_of_lt hlt) hr.nc
   have hTk := hr.take (Nat.le_of_lt hlt)
   have m1 : IntKind.i64.wrap ((m : Int) - 1) = (m : Int) - 1 := IntWalk.i64_in _ (by omega)
   cases c1 : inR y 0 ((m : Int) - 1)
   ·have K1 := Lib.hid (fun W => within_v c1 W)
    have HN := Lib.hid (conOk_bad hkL (varOk_out Hy.out c1))
    clear c1
    go_wp2_with (go_at_call 59; refine (K1.out _).mono ?_; rintro e w' ⟨rfl, hww⟩; replace hww := hww.symm; subst hww)
    go_ret
    exact ⟨ret_bool (a := false) HN.out.symm, rfl⟩
   have K1 := Lib.hid (fun W => within_v c1 W)
   cases c2 : hasI (l.take k) y
   rotate_left
   ·have HN := Lib.hid (conOk_bad hkL (varOk_has Hy.out (vc := (m : Int)) c2))
    have K2 := Lib.hid c2
    clear c1 c2
    go_wp2_with (first | (go_at_call 59; refine (K1.out _).mono ?_; rintro e w' ⟨rfl, hww⟩; replace hww := hww.symm; subst hww) | (go_at_call 89; refine (slicesContains_v K2.out hTk).mono ?_; rintro e w' ⟨rfl, hww⟩; replace hww := hww.symm; subst hww))
    go_ret
    exact ⟨ret_bool (a := false) HN.out.symm, rfl⟩
   have HV := Lib.hid (varOk_yes Hy.out c1 c2)
   have K2 := Lib.hid c2
   clear c1 c2
   go_wp2_with (first | (go_at_call 59; refine (K1.out _).mono ?_; rintro e w' ⟨rfl, hww⟩; replace hww := hww.symm; subst hww) | (go_at_call 89; refine (slicesContains_v K2.out hTk).mono ?_; rintro e w' ⟨rfl, hww⟩; replace hww := hww.symm; subst hww))
   clear m1
   go_round
   case rel => exact ⟨k + 1, by omega, by go_num, rngAll_snoc HA.out HV.out⟩
   case measure => simp [intOf]; omega
  ·have HE := Lib.hid (conOk_end (n := (m : Int)) (l := l) (by rw [HL.out, show n = k by omega]; exact HA.out))
   go_wp2
   go_ret
   exact ⟨ret_bool (by rw [HE.out, HL.out]), rfl⟩
end Go.Proofs.YtnbikckbnbgjkaaGreat
