/-
  Contracts: a location's number in a box, the cost there.
-/
import Derived.Test.YtpdccgnapgneaaaGreatVol
import Derived.Test.YtpdccgnapgneaaaGreatKeep
namespace Go.Proofs.YtpdccgnapgneaaaGreat
open Go.RowKit
set_option linter.unusedVariables false

def inBox (x : BoxD) (l : List Int) : Bool := validBox x && (dom l x.fLow && dom x.fHigh l)
def idxSteps (x : BoxD) (l : List Int) : List (Int × Int) := (widths x).zip ((l.zip x.fLow).map (fun p => p.1 - p.2))
def idxF (s : List (Int × Int)) : Int := s.foldl (fun n p => n * p.1 + p.2) 0
def boxIndex (x : BoxD) (l : List Int) : Int := if inBox x l then idxF (idxSteps x l) else -1
theorem dom_at {a b : List Int} (h : dom a b = true) : a.length = b.length ∧ ∀ (k : Nat) (x y : Int), a[k]? = some x → b[k]? = some y → y ≤ x := by
  unfold dom at h
  simp only [Bool.and_eq_true, decide_eq_true_eq, List.all_eq_true] at h
  exact ⟨h.1, fun k x y hx hy => h.2 (x, y) (mem_of_at (zip_at hx hy))⟩
theorem inBox_parts {x : BoxD} {l : List Int} (h : inBox x l = true) : validBox x = true ∧ l.length = x.fLow.length ∧ x.fHigh.length = x.fLow.length ∧ (∀ (k : Nat) (a b : Int), l[k]? = some a → x.fLow[k]? = some b → b ≤ a) ∧ ∀ (k : Nat) (a b : Int), x.fHigh[k]? = some a → l[k]? = some b → b ≤ a := by
  unfold inBox at h
  simp only [Bool.and_eq_true] at h
  obtain ⟨h1, h2, h3⟩ := h
  exact ⟨h1, (dom_at h2).1, (validBox_parts h1).2.2.2.1, (dom_at h2).2, (dom_at h3).2⟩
theorem idxF_snoc {s : List (Int × Int)} {k : Nat} {p : Int × Int} (h : s[k]? = some p) : idxF (s.take (k + 1)) = idxF (s.take k) * p.1 + p.2 := by
  unfold idxF; rw [take_snoc h, List.foldl_append]; rfl
theorem idxSteps_at {x : BoxD} {l : List Int} {k : Nat} {a y z : Int} (ha : l[k]? = some a) (hy : x.fLow[k]? = some y) (hz : x.fHigh[k]? = some z) : (idxSteps x l)[k]? = some (z - y + 1, a - y) := by
  unfold idxSteps
  rw [List.getElem?_zip_eq_some]
  refine ⟨widths_at hz hy, ?_⟩
  rw [List.getElem?_map, zip_at ha hy]; rfl
theorem idxSteps_len {x : BoxD} {l : List Int} (h : inBox x l = true) : (idxSteps x l).length = l.length := by
  obtain ⟨h1, h2, h3, _⟩ := inBox_parts h
  simp [idxSteps, widths_len h1]; omega
/-- one step: the number stays below the product of the widths -/
theorem idx_bd {p P W d : Int} (h0 : 0 ≤ p) (hp : p < P) (hW : 1 ≤ W) (hd : 0 ≤ d) (hd2 : d < W) : 0 ≤ p * W + d ∧ p * W + d < P * W := by
  have e1 : 0 ≤ p * W := Int.mul_nonneg h0 (by omega)
  have e2 : p * W ≤ (P - 1) * W := Int.mul_le_mul_of_nonneg_right (by omega) (by omega)
  rw [Int.sub_mul, Int.one_mul] at e2
  omega

set_option maxRecDepth 100000 in
set_option maxHeartbeats 1600000 in
theorem sIsInBox_c (csx : List Value) (x : BoxD) (Al : Option Addr) (nl cl : Nat) (l : List Int) (w : World) (hx : (rBox NB).rep w csx x) (hl : RS NB rInt w Al nl cl l) :
    Calls Tryz.prog 62 #[.agg csx.toArray, .slice Al nl cl] w fun e w' => e = .returned (.bool (inBox x l)) ∧ Below w.heap.size w w' := by
  have rx := hx
  obtain ⟨AxLow, nxLow, cxLow, AxHigh, nxHigh, cxHigh, rfl, hxLow, hxHigh⟩ := rBox_rep.1 hx
  clear hx
  have hB : Below w.heap.size w w := Below.refl _ _
  have hAx := (Below.refl (World.heap (w)).size (w)).alloc (Nat.le_refl _) (.cells #[.slice AxLow nxLow cxLow, .slice AxHigh nxHigh cxHigh] 50)
  replace hB := hB.trans (hAx.mono hB.size)
  have bxx := Bx.new (w) [.slice AxLow nxLow cxLow, .slice AxHigh nxHigh cxHigh] 50
  clear hAx
  go_enter Tryz.func62, Tryz.ntmps62
  go_wp2_with fail
  refine (sIsValidBox_c _ x _ ((rBox_ok NB).keep rx (cells_below hB))).mono ?_
  rintro e w1 ⟨rfl, hb1⟩
  replace hB := hB.trans (hb1.mono hB.size)
  replace bxx := bxx.below hb1
  clear hb1
  cases e1 : validBox x
  · go_wp2
    go_ret
    exact ⟨ret_bool (a := false) (by simp [inBox, e1]), hB⟩
  have kx_0 := bxx 0 _ rfl
  have kx_1 := bxx 1 _ rfl
  go_wp2_with fail
  refine (sDominatesLocation_c _ _ _ _ _ _ _ _ _ (hl.below rInt_ok hB) (hxLow.below rInt_ok hB)).mono ?_
  rintro e w2 ⟨rfl, hq2⟩
  have hb2 := hq2.belowS; clear hq2
  replace hB := hB.trans (hb2.mono hB.size)
  replace bxx := bxx.below hb2
  clear hb2 kx_0 kx_1
  cases e2 : dom l x.fLow
  · go_wp2
    go_ret
    exact ⟨ret_bool (a := false) (by simp [inBox, e2]), hB⟩
  have kx_0 := bxx 0 _ rfl
  have kx_1 := bxx 1 _ rfl
  go_wp2_with fail
  refine (sDominatesLocation_c _ _ _ _ _ _ _ _ _ (hxHigh.below rInt_ok hB) (hl.below rInt_ok hB)).mono ?_
  rintro e w3 ⟨rfl, hq3⟩
  have hb3 := hq3.belowS; clear hq3
  replace hB := hB.trans (hb3.mono hB.size)
  replace bxx := bxx.below hb3
  clear hb3 kx_0 kx_1
  go_wp2
  go_ret
  exact ⟨ret_bool (by simp [inBox, e1, e2]), hB⟩
set_option maxRecDepth 100000 in
set_option maxHeartbeats 1600000 in
theorem iIsInBox_c (csx : List Value) (x : BoxD) (Al : Option Addr) (nl cl : Nat) (l : List Int) (w : World) (hx : (rBox NB).rep w csx x) (hl : RS NB rInt w Al nl cl l) :
    Calls Tryz.prog 67 #[.agg csx.toArray, .slice Al nl cl] w fun e w' => e = .returned (.bool (inBox x l)) ∧ Below w.heap.size w w' := by
  have rx := hx
  obtain ⟨AxLow, nxLow, cxLow, AxHigh, nxHigh, cxHigh, rfl, hxLow, hxHigh⟩ := rBox_rep.1 hx
  clear hx
  have hB : Below w.heap.size w w := Below.refl _ _
  have hAx := (Below.refl (World.heap (w)).size (w)).alloc (Nat.le_refl _) (.cells #[.slice AxLow nxLow cxLow, .slice AxHigh nxHigh cxHigh] 50)
  replace hB := hB.trans (hAx.mono hB.size)
  have bxx := Bx.new (w) [.slice AxLow nxLow cxLow, .slice AxHigh nxHigh cxHigh] 50
  clear hAx
  go_enter Tryz.func67, Tryz.ntmps67
  go_wp2_with fail
  refine (iIsValidBox_c _ x _ ((rBox_ok NB).keep rx (cells_below hB))).mono ?_
  rintro e w1 ⟨rfl, hb1⟩
  replace hB := hB.trans (hb1.mono hB.size)
  replace bxx := bxx.below hb1
  clear hb1
  cases e1 : validBox x
  · go_wp2
    go_ret
    exact ⟨ret_bool (a := false) (by simp [inBox, e1]), hB⟩
  have kx_0 := bxx 0 _ rfl
  have kx_1 := bxx 1 _ rfl
  go_wp2_with fail
  refine (iDominatesLocation_c _ _ _ _ _ _ _ _ _ (hl.below rInt_ok hB) (hxLow.below rInt_ok hB)).mono ?_
  rintro e w2 ⟨rfl, hq2⟩
  have hb2 := hq2.belowS; clear hq2
  replace hB := hB.trans (hb2.mono hB.size)
  replace bxx := bxx.below hb2
  clear hb2 kx_0 kx_1
  cases e2 : dom l x.fLow
  · go_wp2
    go_ret
    exact ⟨ret_bool (a := false) (by simp [inBox, e2]), hB⟩
  have kx_0 := bxx 0 _ rfl
  have kx_1 := bxx 1 _ rfl
  go_wp2_with fail
  refine (iDominatesLocation_c _ _ _ _ _ _ _ _ _ (hxHigh.below rInt_ok hB) (hl.below rInt_ok hB)).mono ?_
  rintro e w3 ⟨rfl, hq3⟩
  have hb3 := hq3.belowS; clear hq3
  replace hB := hB.trans (hb3.mono hB.size)
  replace bxx := bxx.below hb3
  clear hb3 kx_0 kx_1
  go_wp2
  go_ret
  exact ⟨ret_bool (by simp [inBox, e1, e2]), hB⟩

end Go.Proofs.YtpdccgnapgneaaaGreat
