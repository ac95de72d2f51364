/-
  Append of one element, with the word where the new row lies; a row of new cells.
-/
import Derived.Test.YtpdccgnapgneaaaGreatKeep
namespace Go.Proofs.YtpdccgnapgneaaaGreat
open Go.RowKit
set_option linter.unusedVariables false
set_option linter.unusedSimpArgs false

theorem wpList_appB {α : Type} {r : Rp α} {B M : Nat} {e : TypeId} {w : World} {A : Option Addr} {n cap : Nat} {l : List α} {P : Program} {ops : Array Oper} {rest : List Oper} {o : Oper} {a : Act} {Q : Exit → Act → World → Prop} (hgd : o.guard = none) (s x : Operand) (t : TypeId)
    (ho : o.op = .call { callee := .builtin .append, args := #[s, x], argTypes := #[t, t] }) (z : Value) (bytes : Nat) (ei : Ei P t e z r.size bytes) (hr : r.Ok) {wr : World}
    (hs : a.eval s = .slice A n cap) (h : MS B M e r wr A n cap l) (hb : Below wr.heap.size wr w) (hB : B ≤ wr.heap.size)
    (ad : Addr) (hx : a.eval x = .slice (some ad) 1 1) (f : List Nat) (cs : List Value) (y : α) (hy : r.own w f cs y) (hf : Fr wr.heap.size f) (hc : ∀ j u, cs[j]? = some u → w.cell? (ad.add j) = some u)
    (hn : n + 1 ≤ M) (hM : M ≤ 4294967296) (hby : (n + 1) * bytes ≤ 140737488355328)
    (K : ∀ A' cap' w', MS B M e r w' A' (n + 1) cap' (l ++ [y]) → Below B w w' → w.grownBy w' (A.map (·.block)) → (A'.map (·.block) = A.map (·.block) ∨ A'.map (·.block) = some w.heap.size) → wpList P ops Q rest (a.put o.dst (.slice A' (n + 1) cap')) w') :
    wpList P ops Q (o :: rest) a w := by
  obtain ⟨i, hi, h1, h2, h3⟩ := info_parts ei.hi
  obtain ⟨fp, hO, hfr⟩ := h
  have hO' := hO.belowS hr hb
  obtain ⟨css, fps, h4, _, h6⟩ := hO'.ex
  refine wpList_append_own_at _ hgd s x t ho 0 e i z r.size bytes ei.ht hi h1 h2 h3 ei.hz hr.pos _ n css.flatten hs h4 ad 1 1 cs hx (by rw [hr.len (hr.toRep hy), Nat.one_mul]) hc (hr.one (hr.toRep hy)) (by unfold maxLen; omega) hby (Nat.zero_le _) ?_
  intro v' w' r1 r2 _ r4
  obtain ⟨A', cap', rfl⟩ := ownsRow_slice r1
  rw [blk_own] at r2 r4
  rw [blk_own] at r4
  refine K A' cap' w' (MS.app1 hr ⟨fp, hO, hfr⟩ hb hB hy hf hn (fun css' hcss => ?_) r2 r4) (MS.grown ⟨fp, hO, hfr⟩ hb hB r2) r2 r4
  have : css' = css.flatten := by
    rcases (ownsRow_form h4).2 with ⟨rfl, rfl, _⟩ | ⟨g, rfl, _⟩
    · have e1 := h4.1; have e2 := hcss.1; rw [Nat.zero_mul] at e1 e2; rw [List.eq_nil_of_length_eq_zero e2, List.eq_nil_of_length_eq_zero e1]
    · refine List.ext_getElem? fun j => ?_
      by_cases hj : j < n * r.size
      · rw [← h4.cellAt j hj, ← hcss.cellAt j hj]
      · rw [List.getElem?_eq_none (by rw [hcss.1]; omega), List.getElem?_eq_none (by rw [h4.1]; omega)]
  rw [this]; exact r1
theorem cells_new (w : World) (t : TypeId) (cs : List Value) (j : Nat) (u : Value) (h : cs[j]? = some u) : (w.alloc (.cells cs.toArray t)).cell? (Addr.add ⟨w.heap.size, 0, none⟩ j) = some u := by
  have := (Bk.new w cs t).bx j u h
  have e : Addr.add ⟨w.heap.size, 0, none⟩ j = ⟨w.heap.size, j, none⟩ := by unfold Addr.add; split <;> simp_all
  rw [e]; exact this
end Go.Proofs.YtpdccgnapgneaaaGreat
