/-
  Contracts: the volume of a box; valid spaces.
-/
import Derived.Test.YtpdccgnapgneaaaBox
namespace Go.Proofs.Ytpdccgnapgneaaa
open Go.RowKit

/-- the widths of a box, coordinate by coordinate -/
def widths (b : BoxD) : List Int := (b.fHigh.zip b.fLow).map (fun p => p.1 - p.2 + 1)
def prod (l : List Int) : Int := l.foldl (· * ·) 1
def volume (b : BoxD) : Int := prod (widths b)
def boxVol (b : BoxD) : Int := if validBox b then min (volume b) 401 else 0

theorem prod_snoc {l : List Int} {k : Nat} {x : Int} (h : l[k]? = some x) : prod (l.take (k + 1)) = prod (l.take k) * x := by
  unfold prod; rw [take_snoc h, List.foldl_append]; rfl
theorem widths_at {b : BoxD} {k : Nat} {x y : Int} (hx : b.fHigh[k]? = some x) (hy : b.fLow[k]? = some y) : (widths b)[k]? = some (x - y + 1) := by
  unfold widths; rw [List.getElem?_map, zip_at hx hy]; rfl
theorem validBox_parts {b : BoxD} (h : validBox b = true) : isLoc b.fLow = true ∧ isLoc b.fHigh = true ∧ 0 < b.fLow.length ∧ b.fHigh.length = b.fLow.length ∧ ∀ (k : Nat) (x y : Int), b.fHigh[k]? = some x → b.fLow[k]? = some y → y ≤ x := by
  unfold validBox dom at h
  simp only [Bool.and_eq_true, decide_eq_true_eq, List.all_eq_true] at h
  refine ⟨h.1, h.2.1, h.2.2.1, h.2.2.2.1, fun k x y hx hy => ?_⟩
  exact h.2.2.2.2 (x, y) (mem_of_at (zip_at hx hy))
theorem isLoc_at {l : List Int} (h : isLoc l = true) : l.length ≤ 16 ∧ ∀ (k : Nat) (x : Int), l[k]? = some x → 0 ≤ x ∧ x ≤ 7 := by
  unfold isLoc at h
  simp only [Bool.and_eq_true, decide_eq_true_eq, List.all_eq_true] at h
  exact ⟨h.2, fun k x hx => inR_t.1 (h.1 x (mem_of_at hx))⟩
/-- each width lies between 1 and 8 -/
theorem width_bd {b : BoxD} (h : validBox b = true) {k : Nat} {x y : Int} (hx : b.fHigh[k]? = some x) (hy : b.fLow[k]? = some y) : 1 ≤ x - y + 1 ∧ x - y + 1 ≤ 8 := by
  obtain ⟨h1, h2, _, _, h5⟩ := validBox_parts h
  have := (isLoc_at h1).2 k y hy
  have := (isLoc_at h2).2 k x hx
  have := h5 k x y hx hy
  omega
theorem prod_bd {l : List Int} (h : ∀ x ∈ l, 1 ≤ x ∧ x ≤ 8) : 1 ≤ prod l ∧ prod l ≤ 8 ^ l.length := by
  unfold prod
  suffices ∀ (a : Int) (m : Nat), 1 ≤ a → a ≤ 8 ^ m → 1 ≤ l.foldl (· * ·) a ∧ l.foldl (· * ·) a ≤ 8 ^ (m + l.length) by simpa using this 1 0 (by omega) (by simp)
  induction l with
  | nil => intro a m h1 h2; simpa using ⟨h1, h2⟩
  | cons x l ih =>
    intro a m h1 h2
    have hx := h x List.mem_cons_self
    have e1 : 1 ≤ a * x := by have := Int.mul_le_mul h1 hx.1 (by omega) (by omega); simpa using this
    have e2 : a * x ≤ 8 ^ (m + 1) := by rw [Int.pow_succ]; exact Int.mul_le_mul h2 hx.2 (by omega) (Int.pow_nonneg (by omega))
    have := ih (fun y hy => h y (List.mem_cons_of_mem _ hy)) (a * x) (m + 1) e1 e2
    simp only [List.foldl_cons, List.length_cons]
    rw [show m + (l.length + 1) = m + 1 + l.length from by omega]; exact this
theorem min_step {a x : Int} (_ha : 1 ≤ a) (hx : 1 ≤ x) : min 401 (min a 401 * x) = min (a * x) 401 := by
  by_cases h : a ≤ 401
  · rw [Int.min_eq_left h]; exact Int.min_comm _ _
  · have e1 : min a 401 = 401 := Int.min_eq_right (by omega)
    have e2 : (401 : Int) ≤ 401 * x := by omega
    have e3 : (401 : Int) ≤ a * x := by have := Int.mul_le_mul (a := 401) (b := 1) (c := a) (d := x) (by omega) hx (by omega) (by omega); simpa using this
    rw [e1, Int.min_eq_left e2, Int.min_eq_right e3]
theorem widths_mem {b : BoxD} (h : validBox b = true) : ∀ x ∈ widths b, 1 ≤ x ∧ x ≤ 8 := by
  intro x hx
  unfold widths at hx
  obtain ⟨⟨a, c⟩, hm, rfl⟩ := List.mem_map.1 hx
  obtain ⟨k, hk, he⟩ := List.getElem_of_mem hm
  have hz : (b.fHigh.zip b.fLow)[k]? = some (a, c) := by rw [List.getElem?_eq_getElem hk, he]
  rw [List.getElem?_zip_eq_some] at hz
  exact width_bd h hz.1 hz.2
theorem widths_len {b : BoxD} (h : validBox b = true) : (widths b).length = b.fLow.length := by
  obtain ⟨_, _, _, h4, _⟩ := validBox_parts h
  simp [widths, h4]
theorem prod_take_bd {b : BoxD} (h : validBox b = true) (k : Nat) : 1 ≤ prod ((widths b).take k) ∧ prod ((widths b).take k) ≤ 281474976710656 := by
  have h1 := prod_bd (l := (widths b).take k) fun x hx => widths_mem h x (List.mem_of_mem_take hx)
  refine ⟨h1.1, Int.le_trans h1.2 ?_⟩
  have hl : ((widths b).take k).length ≤ 16 := by
    have := (isLoc_at (validBox_parts h).1).1
    rw [List.length_take, widths_len h]; omega
  have h3 : 8 ^ ((widths b).take k).length ≤ 8 ^ 16 := Nat.pow_le_pow_right (by omega) hl
  have h4 : ((8 ^ ((widths b).take k).length : Nat) : Int) ≤ ((8 ^ 16 : Nat) : Int) := Int.ofNat_le.2 h3
  rw [Int.natCast_pow] at h4
  exact Int.le_trans h4 (by decide)

end Go.Proofs.Ytpdccgnapgneaaa
