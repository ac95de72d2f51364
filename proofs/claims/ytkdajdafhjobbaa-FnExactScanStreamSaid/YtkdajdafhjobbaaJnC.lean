/-
  JnC
-/
import Derived.Test.YtkdajdafhjobbaaJnU
import Derived.Test.YtkdajdafhjobbaaMarkC
namespace Go.Proofs.Ytkdajdafhjobbaa
open Go.RowKit
set_option linter.unusedVariables false
theorem unionI_le (a b : List Int) : (unionI a b).length ≤ 4 := by
 unfold unionI
 refine Nat.le_trans (List.length_filter_le _ _) ?_
 simp
theorem cntS4 {R : List (List Int)} (h : ∀ r ∈ R, r.length ≤ 4) : cnt_IntSS R ≤ 4 * R.length := by
 unfold cnt_IntSS cntS
 induction R with
 | nil => simp
 | cons r R ih =>
  have h1 := h r (List.mem_cons_self ..)
  have h2 := ih (fun q hq => h q (List.mem_cons_of_mem _ hq))
  simp only [List.map_cons, List.sum_cons, List.length_cons, cnt_IntS] at h2 ⊢
  have : (List.map cnt_IntS R).sum = (List.map (fun l => cnt_IntS l) R).sum := rfl
  omega
theorem cnt_capS {V : List Int} {R : List (List Int)} (hV : V.length ≤ 4) (hR : ∀ r ∈ R, r.length ≤ 4) : cnt_Stream (capS V R).1 ≤ 1099511627776 := by
 unfold capS
 split
 ·have := cntS4 hR
  show cnt_IntS V + cnt_IntSS R ≤ _
  unfold cnt_IntS; omega
 ·show cnt_IntS [] + cnt_IntSS [] ≤ _
  simp [cnt_IntS, cnt_IntSS, cntS]
theorem nest_mem {α β γ : Type} {f : α → β → Option γ} {xs : List α} {ys : List β} {r : γ} (h : r ∈ nestRows f xs ys) : ∃ x y, f x y = some r := by
 unfold nestRows at h
 obtain ⟨x, _, h⟩ := List.mem_flatMap.1 h
 obtain ⟨y, _, h⟩ := List.mem_filterMap.1 h
 exact ⟨x, y, h⟩
theorem joinBy_len {a b : StreamD} {x y r : List Int} (h : joinBy a b x y = some r) : r.length ≤ 4 := by
 unfold joinBy joinOpt at h
 split at h
 ·injection h with h; subst h; unfold joinRow; rw [List.length_map]; exact unionI_le _ _
 ·cases h
theorem cnt_zero : cnt_Stream (⟨[], []⟩ : StreamD) ≤ 1099511627776 := by
 show cnt_IntS [] + cnt_IntSS [] ≤ _
 simp [cnt_IntS, cnt_IntSS, cntS]
theorem cnt_hash (a b : StreamD) : cnt_Stream (hashJoin a b).1 ≤ 1099511627776 := by
 unfold hashJoin
 split
 ·exact cnt_capS (unionI_le _ _) (fun r hr => by obtain ⟨x, y, h⟩ := nest_mem hr; exact joinBy_len h)
 ·exact cnt_zero
theorem cnt_nested (a b : StreamD) : cnt_Stream (nestedJoin a b).1 ≤ 1099511627776 := by
 unfold nestedJoin
 split
 ·exact cnt_capS (unionI_le _ _) (fun r hr => by obtain ⟨x, y, h⟩ := nest_mem hr; exact joinBy_len h)
 ·exact cnt_zero
end Go.Proofs.Ytkdajdafhjobbaa
