/-
  Models: their operators; the row of pointers to them.
-/
import Derived.Test.YtpdccgnapgneaaaGreatOper
import Derived.Deep.MidRow
namespace Go.Proofs.YtpdccgnapgneaaaGreat
open Go.RowKit
set_option linter.unusedVariables false
set_option linter.unusedSimpArgs false
attribute [local go_sem ↓] Go.wp_at_zero Go.wp_at_succ

theorem Bx.range {w : World} {g : Nat} {cs : List Value} (h : Bx w g cs) : w.rangeAt g 0 cs := fun j v hj => by rw [Nat.zero_add]; exact h j v hj
theorem sizeModel : (Tryz.prog.info? 44).map (·.size) = some 30 := by kernel_rfl
def modelOps (x : ModelD) : List OperatorD := [x.fScan, x.fSort, x.fHash, x.fMerge, x.fNested]
/-- operator k of a model whose cells lie in block g -/
structure OpAt (w : World) (g k : Nat) (o : OperatorD) (A : Option Addr) (n c : Nat) : Prop where
  rep : (rOperator NB).rep w [.int .i64 o.fFixed, .int .i64 o.fPerLeft, .int .i64 o.fPerRight, .int .i64 o.fPerOutput, .int .i64 o.fPerPair, .slice A n c] o
  c0 : w.cell? ⟨g, k * 6, none⟩ = some (.int .i64 o.fFixed)
  c1 : w.cell? ⟨g, k * 6 + 1, none⟩ = some (.int .i64 o.fPerLeft)
  c2 : w.cell? ⟨g, k * 6 + 2, none⟩ = some (.int .i64 o.fPerRight)
  c3 : w.cell? ⟨g, k * 6 + 3, none⟩ = some (.int .i64 o.fPerOutput)
  c4 : w.cell? ⟨g, k * 6 + 4, none⟩ = some (.int .i64 o.fPerPair)
  c5 : w.cell? ⟨g, k * 6 + 5, none⟩ = some (.slice A n c)
theorem OpAt.below {w w' : World} {g k : Nat} {o : OperatorD} {A : Option Addr} {n c : Nat} (h : OpAt w g k o A n c) (hb : Below w.heap.size w w') : OpAt w' g k o A n c :=
  ⟨(rOperator_ok NB).keep h.rep (cells_below hb), cells_below hb _ _ h.c0, cells_below hb _ _ h.c1, cells_below hb _ _ h.c2, cells_below hb _ _ h.c3, cells_below hb _ _ h.c4, cells_below hb _ _ h.c5⟩
theorem modelAt {w w' : World} {g : Nat} {x : ModelD} {csx : List Value} (h : (rModel NB).rep w csx x) (hb : Below w.heap.size w w') (bx : Bx w' g csx) {k : Nat} (hk : k < 5) :
    ∃ o A n c, Hid ((modelOps x)[k]? = some o) ∧ OpAt w' g k o A n c := by
  obtain ⟨A0, n0, c0, A1, n1, c1, A2, n2, c2, A3, n3, c3, A4, n4, c4, rfl, i00, i01, i02, i03, i04, r0, i10, i11, i12, i13, i14, r1, i20, i21, i22, i23, i24, r2, i30, i31, i32, i33, i34, r3, i40, i41, i42, i43, i44, r4⟩ := rModel_rep.1 h
  have hk' : k = 0 ∨ k = 1 ∨ k = 2 ∨ k = 3 ∨ k = 4 := by omega
  rcases hk' with rfl | rfl | rfl | rfl | rfl
  · exact ⟨x.fScan, A0, n0, c0, Lib.hid rfl, rOperator_rep.2 ⟨A0, n0, c0, rfl, i00, i01, i02, i03, i04, r0.below (rCostStep_ok NB) hb⟩, bx 0 _ rfl, bx 1 _ rfl, bx 2 _ rfl, bx 3 _ rfl, bx 4 _ rfl, bx 5 _ rfl⟩
  · exact ⟨x.fSort, A1, n1, c1, Lib.hid rfl, rOperator_rep.2 ⟨A1, n1, c1, rfl, i10, i11, i12, i13, i14, r1.below (rCostStep_ok NB) hb⟩, bx 6 _ rfl, bx 7 _ rfl, bx 8 _ rfl, bx 9 _ rfl, bx 10 _ rfl, bx 11 _ rfl⟩
  · exact ⟨x.fHash, A2, n2, c2, Lib.hid rfl, rOperator_rep.2 ⟨A2, n2, c2, rfl, i20, i21, i22, i23, i24, r2.below (rCostStep_ok NB) hb⟩, bx 12 _ rfl, bx 13 _ rfl, bx 14 _ rfl, bx 15 _ rfl, bx 16 _ rfl, bx 17 _ rfl⟩
  · exact ⟨x.fMerge, A3, n3, c3, Lib.hid rfl, rOperator_rep.2 ⟨A3, n3, c3, rfl, i30, i31, i32, i33, i34, r3.below (rCostStep_ok NB) hb⟩, bx 18 _ rfl, bx 19 _ rfl, bx 20 _ rfl, bx 21 _ rfl, bx 22 _ rfl, bx 23 _ rfl⟩
  · exact ⟨x.fNested, A4, n4, c4, Lib.hid rfl, rOperator_rep.2 ⟨A4, n4, c4, rfl, i40, i41, i42, i43, i44, r4.below (rCostStep_ok NB) hb⟩, bx 24 _ rfl, bx 25 _ rfl, bx 26 _ rfl, bx 27 _ rfl, bx 28 _ rfl, bx 29 _ rfl⟩
theorem ptr_at6 {w : World} {g h : Nat} (bx : Bx w h [.pointer (some ⟨g, 0, none⟩), .pointer (some ⟨g, 0 + 6, none⟩), .pointer (some ⟨g, 0 + 12, none⟩), .pointer (some ⟨g, 0 + 18, none⟩), .pointer (some ⟨g, 0 + 24, none⟩)]) {k : Nat} (hk : k < 5) : w.cell? ⟨h, k, none⟩ = some (.pointer (some ⟨g, k * 6, none⟩)) := by
  have : k = 0 ∨ k = 1 ∨ k = 2 ∨ k = 3 ∨ k = 4 := by omega
  rcases this with rfl | rfl | rfl | rfl | rfl
  · exact bx 0 _ rfl
  · exact bx 1 _ rfl
  · exact bx 2 _ rfl
  · exact bx 3 _ rfl
  · exact bx 4 _ rfl
set_option maxRecDepth 100000 in
set_option maxHeartbeats 1600000 in
theorem iOperators_c (g o : Nat) (w : World) :
    Calls Tryz.prog 123 #[.pointer (some ⟨g, o, none⟩)] w fun e w' => e = .returned (.slice (some ⟨w.heap.size, 0, none⟩) 5 5) ∧ Bx w' w.heap.size [.pointer (some ⟨g, o, none⟩), .pointer (some ⟨g, o + 6, none⟩), .pointer (some ⟨g, o + 12, none⟩), .pointer (some ⟨g, o + 18, none⟩), .pointer (some ⟨g, o + 24, none⟩)] ∧ Below w.heap.size w w' := by
  go_enter Tryz.func123, Tryz.ntmps123
  go_wp2
  go_region_held3 (fun _ => True) (exact trivial) (fail)
  all_goals
    go_wp2
    go_ret
    exact ⟨rfl, fun j v hj => Bx.new w [.pointer (some ⟨g, o, none⟩), .pointer (some ⟨g, o + 6, none⟩), .pointer (some ⟨g, o + 12, none⟩), .pointer (some ⟨g, o + 18, none⟩), .pointer (some ⟨g, o + 24, none⟩)] 168 j v hj, ((Below.refl _ _).alloc (Nat.le_refl _) _).drew⟩
end Go.Proofs.YtpdccgnapgneaaaGreat
