/-
  Contracts: the cost at a location of a space; the range of the costs.
-/
import Derived.Test.YtbipbinbehkjhaaSpace
import Derived.Test.YtbipbinbehkjhaaBix
namespace Go.Proofs.Ytbipbinbehkjhaa
open Go.RowKit
set_option linter.unusedVariables false

theorem validSpace_parts {x : SpaceD} (h : validSpace x = true) : validBox x.fBox = true ∧ 1 ≤ volume x.fBox ∧ volume x.fBox ≤ 400 ∧ (x.fCosts.length : Int) = volume x.fBox ∧ (x.fChoices.length : Int) = volume x.fBox ∧
    (∀ (k : Nat) (c : Int), x.fCosts[k]? = some c → 1 ≤ c ∧ c ≤ 1000000000000) ∧ ∀ (k : Nat) (c : Int), x.fChoices[k]? = some c → 0 ≤ c ∧ c < x.fPlans.length := by
  unfold validSpace at h
  simp only [Bool.and_eq_true, decide_eq_true_eq, List.all_eq_true] at h
  obtain ⟨h1, h2, h3, h4⟩ := h
  have h1 := inR_t.1 h1
  have hv : validBox x.fBox = true := by
    cases hv : validBox x.fBox
    · simp [boxVol, hv] at h1
    · rfl
  have hb : boxVol x.fBox = volume x.fBox := by
    have : boxVol x.fBox = min (volume x.fBox) 401 := by simp [boxVol, hv]
    omega
  rw [hb] at h1 h2 h3
  refine ⟨hv, h1.1, h1.2, h2, h3, fun k c hk => ?_, fun k c hk => ?_⟩
  · have hl := lt_of_at hk
    have hz : x.fChoices[k]? = some (x.fChoices[k]'(by omega)) := List.getElem?_eq_getElem (by omega)
    have := h4 _ (mem_of_at (zipAt hk hz))
    simp only [okPair, Bool.and_eq_true] at this
    exact inR_t.1 this.1
  · have hl := lt_of_at hk
    have hz : x.fCosts[k]? = some (x.fCosts[k]'(by omega)) := List.getElem?_eq_getElem (by omega)
    have := h4 _ (mem_of_at (zipAt hz hk))
    simp only [okPair, Bool.and_eq_true] at this
    have := inR_t.1 this.2
    exact ⟨this.1, by have := this.2; omega⟩
def spaceIdx (x : SpaceD) (l : List Int) : Int := if validSpace x then boxIndex x.fBox l else -1
def spaceCost (x : SpaceD) (l : List Int) : Int := if 0 ≤ spaceIdx x l then (x.fCosts[(spaceIdx x l).toNat]?).getD 0 else -1
theorem idx_take_bd {x : BoxD} {l : List Int} (h : inBox x l = true) (k : Nat) (hk : k ≤ l.length) : 0 ≤ idxF ((idxSteps x l).take k) ∧ idxF ((idxSteps x l).take k) < prod ((widths x).take k) := by
  induction k with
  | zero => simp [idxF, prod]
  | succ k ih =>
    obtain ⟨h0, h1⟩ := ih (by omega)
    obtain ⟨g1, g2, g3, g4, g5⟩ := inBox_parts h
    have ha : l[k]? = some (l[k]'(by omega)) := List.getElem?_eq_getElem (by omega)
    have hy : x.fLow[k]? = some (x.fLow[k]'(by omega)) := List.getElem?_eq_getElem (by omega)
    have hz : x.fHigh[k]? = some (x.fHigh[k]'(by omega)) := List.getElem?_eq_getElem (by omega)
    rw [idxF_snoc (idxSteps_at ha hy hz), prod_snoc (widths_at hz hy)]
    have hw := width_bd g1 hz hy
    have q1 := g4 k _ _ ha hy
    have q2 := g5 k _ _ hz ha
    exact idx_bd h0 h1 hw.1 (by omega) (by simp only; omega)
theorem boxIndex_lt {x : BoxD} {l : List Int} : -1 ≤ boxIndex x l ∧ (0 ≤ boxIndex x l → inBox x l = true) ∧ (0 ≤ boxIndex x l → boxIndex x l < volume x) := by
  cases h : inBox x l
  · simp [boxIndex, h]
  · obtain ⟨h1, h2⟩ := idx_take_bd h l.length (Nat.le_refl _)
    rw [List.take_of_length_le (by rw [idxSteps_len h]; exact Nat.le_refl _), List.take_of_length_le (by rw [widths_len (inBox_parts h).1, (inBox_parts h).2.1]; exact Nat.le_refl _)] at h2
    rw [List.take_of_length_le (by rw [idxSteps_len h]; exact Nat.le_refl _)] at h1
    simp only [boxIndex, h, if_true]
    exact ⟨by omega, fun _ => trivial, fun _ => h2⟩
theorem spaceIdx_at {x : SpaceD} {l : List Int} (h : 0 ≤ spaceIdx x l) : validSpace x = true ∧ ∃ k : Nat, spaceIdx x l = k ∧ k < x.fCosts.length ∧ k < x.fChoices.length := by
  cases hv : validSpace x
  · simp [spaceIdx, hv] at h
  · have e : spaceIdx x l = boxIndex x.fBox l := by simp [spaceIdx, hv]
    rw [e] at h ⊢
    obtain ⟨_, _, _, g4, g5, _⟩ := validSpace_parts hv
    have := boxIndex_lt.2.2 h
    exact ⟨rfl, (boxIndex x.fBox l).toNat, by omega, by omega, by omega⟩
set_option maxRecDepth 100000 in
set_option maxHeartbeats 1600000 in
theorem iSpaceIndex_c (csx : List Value) (x : SpaceD) (Al : Option Addr) (nl cl : Nat) (l : List Int) (w : World) (hx : (rSpace NB).rep w csx x) (hl : RS NB rInt w Al nl cl l) :
    Calls Try.prog 100 #[.agg csx.toArray, .slice Al nl cl] w fun e w' => e = .returned (.int .i64 (spaceIdx x l)) ∧ Below w.heap.size w w' := by
  have rx := hx
  obtain ⟨AxBoxLow, nxBoxLow, cxBoxLow, AxBoxHigh, nxBoxHigh, cxBoxHigh, AxCosts, nxCosts, cxCosts, AxChoices, nxChoices, cxChoices, AxPlans, nxPlans, cxPlans, rfl, hxBoxLow, hxBoxHigh, hxCosts, hxChoices, hxPlans⟩ := rSpace_rep.1 hx
  clear hx
  have hB : Below w.heap.size w w := Below.refl _ _
  have hAx := (Below.refl (World.heap (w)).size (w)).alloc (Nat.le_refl _) (.cells #[.slice AxBoxLow nxBoxLow cxBoxLow, .slice AxBoxHigh nxBoxHigh cxBoxHigh, .slice AxCosts nxCosts cxCosts, .slice AxChoices nxChoices cxChoices, .slice AxPlans nxPlans cxPlans] 81)
  replace hB := hB.trans (hAx.mono hB.size)
  have bxx := Bx.new (w) [.slice AxBoxLow nxBoxLow cxBoxLow, .slice AxBoxHigh nxBoxHigh cxBoxHigh, .slice AxCosts nxCosts cxCosts, .slice AxChoices nxChoices cxChoices, .slice AxPlans nxPlans cxPlans] 81
  clear hAx
  go_enter Try.func100, Try.ntmps100
  go_wp2_with fail
  refine (iIsValidSpace_c _ x _ ((rSpace_ok NB).keep rx (cells_below hB))).mono ?_
  rintro e w1 ⟨rfl, hb1⟩
  replace hB := hB.trans (hb1.mono hB.size)
  replace bxx := bxx.below hb1
  clear hb1
  cases e1 : validSpace x
  · go_wp2
    go_ret
    exact ⟨ret_int (a := -1) (by simp [spaceIdx, e1]), hB⟩
  have kx_0 := bxx 0 _ rfl
  have kx_1 := bxx 1 _ rfl
  go_wp2_with fail
  refine (iBoxIndex_c _ x.fBox _ _ _ _ _ (rBox_rep.2 ⟨AxBoxLow, nxBoxLow, cxBoxLow, AxBoxHigh, nxBoxHigh, cxBoxHigh, rfl, hxBoxLow.below rInt_ok hB, hxBoxHigh.below rInt_ok hB⟩) (hl.below rInt_ok hB)).mono ?_
  rintro e w2 ⟨rfl, hb2⟩
  replace hB := hB.trans (hb2.mono hB.size)
  replace bxx := bxx.below hb2
  clear hb2 kx_0 kx_1
  go_wp2
  go_ret
  exact ⟨ret_int (by simp [spaceIdx, e1]), hB⟩

/-! ### the least and the greatest -/
def minOf : List Int → Int
  | [] => 0
  | c :: cs => cs.foldl min c
def maxOf : List Int → Int
  | [] => 0
  | c :: cs => cs.foldl max c
theorem minOf_eq {l : List Int} {c : Int} (h : l[0]? = some c) : minOf l = l.foldl min c := by
  cases l with
  | nil => simp at h
  | cons a l => simp at h; subst h; simp [minOf]
theorem maxOf_eq {l : List Int} {c : Int} (h : l[0]? = some c) : maxOf l = l.foldl max c := by
  cases l with
  | nil => simp at h
  | cons a l => simp at h; subst h; simp [maxOf]
theorem fold_snoc (f : Int → Int → Int) (c : Int) {l : List Int} {k : Nat} {x : Int} (h : l[k]? = some x) : (l.take (k + 1)).foldl f c = f ((l.take k).foldl f c) x := by
  rw [take_snoc h, List.foldl_append]; rfl
theorem take1 {l : List Int} {c : Int} (f : Int → Int → Int) (hf : f c c = c) (h : l[0]? = some c) : (l.take 1).foldl f c = c := by
  cases l with
  | nil => simp at h
  | cons a l => simp at h; subst h; simpa using hf

def costRange (x : SpaceD) : Int × Int := if validSpace x then (minOf x.fCosts, maxOf x.fCosts) else (0, 0)
end Go.Proofs.Ytbipbinbehkjhaa
