/-
  ToM
-/
import Derived.Test.YtkdajdafhjobbaaTo
import Derived.Test.YtkdajdafhjobbaaOper
import Derived.Deep.MidRow
namespace Go.Proofs.Ytkdajdafhjobbaa
open Go.RowKit
set_option linter.unusedVariables false
set_option linter.unusedSimpArgs false

theorem setCells_kit (w : World) (g i : Nat) (vs : List Value) : w.setCells g i vs = setCells w g i vs := by
 induction vs generalizing w i with
 | nil => rfl
 | cons v vs ih => exact ih _ _
theorem Bk.setCells {w : World} {g : Nat} {t : TypeId} {cs : List Value} (h : Bk w g t cs) (i : Nat) (vs : List Value) : Bk (setCells w g i vs) g t (over cs i vs) := by
 induction vs generalizing w cs i with
 | nil => exact h
 | cons v vs ih => exact ih (h.set i v) _
theorem over_all {α : Type} (c d : List α) (h : c.length = d.length) : over d 0 c = c := by
 have e := over_head c d h []
 simpa only [List.append_nil] using e
theorem Bk.fill {w : World} {g : Nat} {t : TypeId} {c d : List Value} (h : Bk w g t d) (hl : c.length = d.length) : Bk (Go.Proofs.Ytkdajdafhjobbaa.setCells w g 0 c) g t c := by
 have := Bk.setCells h 0 c
 rwa [over_all c d hl] at this
theorem Bk.otherC {w : World} {g g' : Nat} {t : TypeId} {cs : List Value} (h : Bk w g t cs) (hn : g ≠ g') (i : Nat) (vs : List Value) : Bk (Go.Proofs.Ytkdajdafhjobbaa.setCells w g' i vs) g t cs := (setCells_other w g' i vs g hn).trans h
theorem Bx.otherC {w : World} {g g' : Nat} {cs : List Value} (h : Bx w g cs) (hn : g ≠ g') (i : Nat) (vs : List Value) : Bx (Go.Proofs.Ytkdajdafhjobbaa.setCells w g' i vs) g cs := fun j v hj => by
 have := h j v hj
 unfold World.cell? at this ⊢
 rw [setCells_other w g' i vs g hn]; exact this
theorem Out.setCells {T : Nat} {a w : World} (h : Out T a w) {g : Nat} (hg : g < T) (i : Nat) (vs : List Value) : Out T a (Go.Proofs.Ytkdajdafhjobbaa.setCells w g i vs) :=
 ⟨by rw [setCells_size]; exact h.1, fun k hk hk' => (setCells_other w g i vs k (by omega)).trans (h.2 k hk hk')⟩
theorem Bk.there {w : World} {g : Nat} {t : TypeId} {cs : List Value} (h : Bk w g t cs) : w.there g 0 cs.length := fun j hj => ⟨by
 rw [Nat.zero_add, h.bx j cs[j] (List.getElem?_eq_getElem hj)]; rfl, by rw [Nat.zero_add]; exact h.frozen j⟩
theorem Bk.rangeAt {w : World} {g : Nat} {t : TypeId} {cs : List Value} (h : Bk w g t cs) : w.rangeAt g 0 cs := fun j v hj => by rw [Nat.zero_add]; exact h.bx j v hj
theorem results_cell1 {P : Program} {fn : Func} {tmps : Array Value} {w : World} {a : Nat} {t : TypeId} {b : Nat} {cs : List Value} {d : TypeDesc} (hr : fn.results = #[.cell a t]) (ha : tmps.getD a undef = .pointer (some ⟨b, 0, none⟩))
  (hc : w.rangeAt b 0 cs) (hu : P.underlying t = some d) (hd : d.isRow = true) (hi : (P.info? t).map (·.size) = some cs.length) : (results fn tmps).run P w = .ok (.agg cs.toArray) w := by
 have hl := run_loadVar_mid w b 0 t cs d hc hu hd hi
 have ha' : tmps[a]?.getD undef = .pointer (some ⟨b, 0, none⟩) := by simpa using ha
 simp [results, hr, ha', asAddr, hl]
theorem sizeModelT : (Try.prog.info? 49).map (·.size) = some 30 := by kernel_rfl
end Go.Proofs.Ytkdajdafhjobbaa
