/-
  Scd
-/
import Derived.Test.YtkdajdafhjobbaaJnC
import Derived.Test.YtkdajdafhjobbaaScp
namespace Go.Proofs.Ytkdajdafhjobbaa
open Go.RowKit
theorem cnt_scan (d : DatabaseD) (q : QueryD) (i : Int) : cnt_Stream (scan d q i).1 ≤ 1099511627776 := by
 unfold scan
 split
 ·rename_i h
  rw [Bool.and_eq_true] at h
  split
  ·rename_i a ha
   obtain ⟨t, ht, har, hrows⟩ := (queryFor_parts h.1).2 a (mem_of_at ha)
   have hv := lookup_valid ht
   have hl : a.fVars.length ≤ 3 ∧ t.fRows.length ≤ 8 := by
    unfold validTable at hv
    simp only [Bool.and_eq_true, decide_eq_true_eq] at hv
    have := inR_t.1 hv.2.1
    exact ⟨by omega, hv.2.2.1⟩
   rw [ht]
   have := cntS4 (R := t.fRows.map (scanRow a.fVars (sortI a.fVars))) (fun r hr => by obtain ⟨x, _, rfl⟩ := List.mem_map.1 hr; unfold scanRow; rw [List.length_map, (sortI_perm _).length_eq]; omega)
   rw [List.length_map] at this
   show cnt_IntS (sortI a.fVars) + cnt_IntSS (t.fRows.map (scanRow a.fVars (sortI a.fVars))) ≤ _
   unfold cnt_IntS
   rw [(sortI_perm _).length_eq]
   omega
  ·exact cnt_zero
 ·exact cnt_zero
end Go.Proofs.Ytkdajdafhjobbaa
