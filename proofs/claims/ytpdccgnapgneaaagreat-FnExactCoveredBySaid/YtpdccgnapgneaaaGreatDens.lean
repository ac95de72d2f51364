/-
  Contracts: the density of a bouquet.
-/
import Derived.Test.YtpdccgnapgneaaaGreatTypes
namespace Go.Proofs.YtpdccgnapgneaaaGreat
open Go.RowKit

def density (l : List (List Int)) : Nat := l.foldl (fun m x => max m x.length) 0
theorem density_snoc {l : List (List Int)} {k : Nat} {x : List Int} (h : l[k]? = some x) : density (l.take (k + 1)) = max (density (l.take k)) x.length := by
  unfold density; rw [take_snoc h, List.foldl_append]; rfl
/-- the k-th row of a slice of slices -/
theorem RS.row {M M' : Nat} {e : TypeId} {w : World} {A : Option Addr} {n cap : Nat} {l : List (List Int)} (h : RS M (rSlice M' e rInt) w A n cap l) {k : Nat} (hk : k < n) :
    ∃ b off x Ar nr cr, A = some ⟨b, off, none⟩ ∧ w.cell? ⟨b, off + k, none⟩ = some (.slice Ar nr cr) ∧ RS M' rInt w Ar nr cr x ∧ Hid (l[k]? = some x) := by
  obtain ⟨b, off, x, cs, e, ⟨Ar, nr, cr, rfl, hr⟩, hc, hx⟩ := h.at_ hk
  exact ⟨b, off, x, Ar, nr, cr, e, by simpa [rSlice] using hc 0 _ rfl, hr, hx⟩

end Go.Proofs.YtpdccgnapgneaaaGreat
