/-
  The library's Equal over slices of plain structs. Printed by gen.py.
-/
import Derived.Test.YtpdccgnapgneaaaGreatEqual
import Derived.Laws.StructEq
namespace Go.Proofs.YtpdccgnapgneaaaGreat
open Go.RowKit
set_option linter.unusedVariables false
set_option linter.unusedSimpArgs false

theorem RS.eCostStep {M M' : Nat} {w : World} {A : Option Addr} {n cap : Nat} {l : List CostStepD} (h : RS M (rCostStep M') w A n cap l) {k : Nat} (hk : k < n) :
    ∃ b off x, A = some ⟨b, off, none⟩ ∧ w.cell? ⟨b, off + k * 2, none⟩ = some (.int .i64 x.fFrom) ∧ w.cell? ⟨b, off + k * 2 + 1, none⟩ = some (.int .i64 x.fAdd) ∧ I64 x.fFrom ∧ I64 x.fAdd ∧ Hid (l[k]? = some x) := by
  obtain ⟨b, off, x, cs, e, hrep, hc, hx⟩ := h.at_ hk
  obtain ⟨rfl, hFrom, hAdd⟩ := rCostStep_rep.1 hrep
  exact ⟨b, off, x, e, hc 0 _ rfl, hc 1 _ rfl, hFrom, hAdd, hx⟩
theorem guardCostStep : Tryz.prog.eqGuardType Tryz.prog.depth 146 = false := by kernel_rfl
theorem neqCostStep (x x' : CostStepD) (W : World) : (binOp .neq 146 (.agg #[.int .i64 x.fFrom, .int .i64 x.fAdd]) (.agg #[.int .i64 x'.fFrom, .int .i64 x'.fAdd])).run Tryz.prog W = .ok (.bool (!decide (x = x'))) W := by
  rw [run_neq_struct, show (10000 : Nat) = 9999 + 1 from rfl, run_equalIn_struct _ _ _ _ _ (by kernel_rfl) (by kernel_rfl)]
  have hd : decide (x = x') = ((x.fFrom == x'.fFrom) && (x.fAdd == x'.fAdd)) := by
    rw [Bool.eq_iff_iff]; cases x; cases x'; simp
  rw [hd]
  by_cases h0 : x.fFrom = x'.fFrom <;> by_cases h1 : x.fAdd = x'.fAdd <;> simp [go_sem, Tryz.underlying146, Tryz.underlying3, Tryz.underlying4, h0, h1]
theorem eqlCostStep (x x' : CostStepD) (W : World) : (binOp .eql 146 (.agg #[.int .i64 x.fFrom, .int .i64 x.fAdd]) (.agg #[.int .i64 x'.fFrom, .int .i64 x'.fAdd])).run Tryz.prog W = .ok (.bool (decide (x = x'))) W := by
  rw [run_eql_struct, show (10000 : Nat) = 9999 + 1 from rfl, run_equalIn_struct _ _ _ _ _ (by kernel_rfl) (by kernel_rfl)]
  have hd : decide (x = x') = ((x.fFrom == x'.fFrom) && (x.fAdd == x'.fAdd)) := by
    rw [Bool.eq_iff_iff]; cases x; cases x'; simp
  rw [hd]
  by_cases h0 : x.fFrom = x'.fFrom <;> by_cases h1 : x.fAdd = x'.fAdd <;> simp [go_sem, Tryz.underlying146, Tryz.underlying3, Tryz.underlying4, h0, h1]
theorem RS.ePlanStep {M M' : Nat} {w : World} {A : Option Addr} {n cap : Nat} {l : List PlanStepD} (h : RS M (rPlanStep M') w A n cap l) {k : Nat} (hk : k < n) :
    ∃ b off x, A = some ⟨b, off, none⟩ ∧ w.cell? ⟨b, off + k * 3, none⟩ = some (.int .i64 x.fKind) ∧ w.cell? ⟨b, off + k * 3 + 1, none⟩ = some (.int .i64 x.fAtom) ∧ w.cell? ⟨b, off + k * 3 + 2, none⟩ = some (.int .i64 x.fOrder) ∧ I64 x.fKind ∧ I64 x.fAtom ∧ I64 x.fOrder ∧ Hid (l[k]? = some x) := by
  obtain ⟨b, off, x, cs, e, hrep, hc, hx⟩ := h.at_ hk
  obtain ⟨rfl, hKind, hAtom, hOrder⟩ := rPlanStep_rep.1 hrep
  exact ⟨b, off, x, e, hc 0 _ rfl, hc 1 _ rfl, hc 2 _ rfl, hKind, hAtom, hOrder, hx⟩
theorem guardPlanStep : Tryz.prog.eqGuardType Tryz.prog.depth 154 = false := by kernel_rfl
theorem neqPlanStep (x x' : PlanStepD) (W : World) : (binOp .neq 154 (.agg #[.int .i64 x.fKind, .int .i64 x.fAtom, .int .i64 x.fOrder]) (.agg #[.int .i64 x'.fKind, .int .i64 x'.fAtom, .int .i64 x'.fOrder])).run Tryz.prog W = .ok (.bool (!decide (x = x'))) W := by
  rw [run_neq_struct, show (10000 : Nat) = 9999 + 1 from rfl, run_equalIn_struct _ _ _ _ _ (by kernel_rfl) (by kernel_rfl)]
  have hd : decide (x = x') = ((x.fKind == x'.fKind) && ((x.fAtom == x'.fAtom) && (x.fOrder == x'.fOrder))) := by
    rw [Bool.eq_iff_iff]; cases x; cases x'; simp
  rw [hd]
  by_cases h0 : x.fKind = x'.fKind <;> by_cases h1 : x.fAtom = x'.fAtom <;> by_cases h2 : x.fOrder = x'.fOrder <;> simp [go_sem, Tryz.underlying154, Tryz.underlying3, Tryz.underlying4, h0, h1, h2]
theorem eqlPlanStep (x x' : PlanStepD) (W : World) : (binOp .eql 154 (.agg #[.int .i64 x.fKind, .int .i64 x.fAtom, .int .i64 x.fOrder]) (.agg #[.int .i64 x'.fKind, .int .i64 x'.fAtom, .int .i64 x'.fOrder])).run Tryz.prog W = .ok (.bool (decide (x = x'))) W := by
  rw [run_eql_struct, show (10000 : Nat) = 9999 + 1 from rfl, run_equalIn_struct _ _ _ _ _ (by kernel_rfl) (by kernel_rfl)]
  have hd : decide (x = x') = ((x.fKind == x'.fKind) && ((x.fAtom == x'.fAtom) && (x.fOrder == x'.fOrder))) := by
    rw [Bool.eq_iff_iff]; cases x; cases x'; simp
  rw [hd]
  by_cases h0 : x.fKind = x'.fKind <;> by_cases h1 : x.fAtom = x'.fAtom <;> by_cases h2 : x.fOrder = x'.fOrder <;> simp [go_sem, Tryz.underlying154, Tryz.underlying3, Tryz.underlying4, h0, h1, h2]
end Go.Proofs.YtpdccgnapgneaaaGreat
