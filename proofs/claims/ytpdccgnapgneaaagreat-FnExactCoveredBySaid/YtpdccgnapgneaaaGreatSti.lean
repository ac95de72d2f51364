/-
  The private struct StepInfo as Lean data. Printed by mk_sti.py.
-/
import Derived.Test.YtpdccgnapgneaaaGreatTypes
import Derived.Test.YtpdccgnapgneaaaGreatKeep
namespace Go.Proofs.YtpdccgnapgneaaaGreat
open Go.RowKit
set_option linter.unusedVariables false

structure StepInfoD where
  fMask : Int
  fOrder : Int
  fLeft : Int
  fRight : Int
  deriving DecidableEq
def rStepInfo (M : Nat) : Rp StepInfoD := rIso (rPair rInt (rPair rInt (rPair rInt (rInt)))) (fun x => (x.fMask, x.fOrder, x.fLeft, x.fRight))
theorem rStepInfo_ok (M : Nat) : (rStepInfo M).Ok := rIso_ok (rPair_ok rInt_ok (rPair_ok rInt_ok (rPair_ok rInt_ok (rInt_ok)))) _
theorem rStepInfo_size (M : Nat) : (rStepInfo M).size = 4 := rfl
def zStepInfo : StepInfoD := ⟨0, 0, 0, 0⟩
theorem rStepInfo_rep {M : Nat} {w : World} {cs : List Value} {x : StepInfoD} : (rStepInfo M).rep w cs x ↔ cs = [.int .i64 x.fMask, .int .i64 x.fOrder, .int .i64 x.fLeft, .int .i64 x.fRight] ∧ I64 x.fMask ∧ I64 x.fOrder ∧ I64 x.fLeft ∧ I64 x.fRight := by
  constructor
  · rintro ⟨_, _, rfl, ⟨rfl, hMask⟩, ⟨_, _, rfl, ⟨rfl, hOrder⟩, ⟨_, _, rfl, ⟨rfl, hLeft⟩, ⟨rfl, hRight⟩⟩⟩⟩
    exact ⟨rfl, hMask, hOrder, hLeft, hRight⟩
  · rintro ⟨rfl, hMask, hOrder, hLeft, hRight⟩
    exact ⟨[.int .i64 x.fMask], _, rfl, ⟨rfl, hMask⟩, ⟨[.int .i64 x.fOrder], _, rfl, ⟨rfl, hOrder⟩, ⟨[.int .i64 x.fLeft], _, rfl, ⟨rfl, hLeft⟩, ⟨rfl, hRight⟩⟩⟩⟩
theorem rStepInfo_own {M : Nat} {w : World} {fp : List Nat} {cs : List Value} {x : StepInfoD} : (rStepInfo M).own w fp cs x ↔ cs = [.int .i64 x.fMask, .int .i64 x.fOrder, .int .i64 x.fLeft, .int .i64 x.fRight] ∧ fp = [] ∧ I64 x.fMask ∧ I64 x.fOrder ∧ I64 x.fLeft ∧ I64 x.fRight := by
  constructor
  · rintro ⟨_, _, _, _, rfl, rfl, ⟨rfl, rfl, hMask⟩, ⟨_, _, _, _, rfl, rfl, ⟨rfl, rfl, hOrder⟩, ⟨_, _, _, _, rfl, rfl, ⟨rfl, rfl, hLeft⟩, ⟨rfl, rfl, hRight⟩⟩⟩⟩
    exact ⟨rfl, rfl, hMask, hOrder, hLeft, hRight⟩
  · rintro ⟨rfl, rfl, hMask, hOrder, hLeft, hRight⟩
    exact ⟨[], _, [.int .i64 x.fMask], _, rfl, rfl, ⟨rfl, rfl, hMask⟩, ⟨[], _, [.int .i64 x.fOrder], _, rfl, rfl, ⟨rfl, rfl, hOrder⟩, ⟨[], _, [.int .i64 x.fLeft], _, rfl, rfl, ⟨rfl, rfl, hLeft⟩, ⟨rfl, rfl, hRight⟩⟩⟩⟩
theorem zStepInfo_own (W : World) : (rStepInfo NB).own W [] (Value.cells (.agg #[.int .i64 0, .int .i64 0, .int .i64 0, .int .i64 0])).toList zStepInfo := by
  exact rStepInfo_own.2 ⟨rfl, rfl, I64_zero, I64_zero, I64_zero, I64_zero⟩

theorem rStepInfo_flat (M : Nat) : (rStepInfo M).Flat := rIso_flat (rPair_flat rInt_flat (rPair_flat rInt_flat (rPair_flat rInt_flat rInt_flat))) _
theorem RS.eStepInfo {M M' : Nat} {w : World} {A : Option Addr} {n cap : Nat} {l : List StepInfoD} (h : RS M (rStepInfo M') w A n cap l) {k : Nat} (hk : k < n) :
    ∃ b off x, A = some ⟨b, off, none⟩ ∧ w.cell? ⟨b, off + k * 4, none⟩ = some (.int .i64 x.fMask) ∧ w.cell? ⟨b, off + k * 4 + 1, none⟩ = some (.int .i64 x.fOrder) ∧ w.cell? ⟨b, off + k * 4 + 2, none⟩ = some (.int .i64 x.fLeft) ∧ w.cell? ⟨b, off + k * 4 + 3, none⟩ = some (.int .i64 x.fRight) ∧ I64 x.fMask ∧ I64 x.fOrder ∧ I64 x.fLeft ∧ I64 x.fRight ∧ Hid (l[k]? = some x) := by
  obtain ⟨b, off, x, cs, e, hrep, hc, hx⟩ := h.at_ hk
  obtain ⟨rfl, h1, h2, h3, h4⟩ := rStepInfo_rep.1 hrep
  exact ⟨b, off, x, e, hc 0 _ rfl, hc 1 _ rfl, hc 2 _ rfl, hc 3 _ rfl, h1, h2, h3, h4, hx⟩
theorem RS.eAtom {M M' : Nat} {w : World} {A : Option Addr} {n cap : Nat} {l : List AtomD} (h : RS M (rAtom M') w A n cap l) {k : Nat} (hk : k < n) :
    ∃ b off x AV nV cV, A = some ⟨b, off, none⟩ ∧ w.cell? ⟨b, off + k * 2, none⟩ = some (.string x.fName) ∧ w.cell? ⟨b, off + k * 2 + 1, none⟩ = some (.slice AV nV cV) ∧ x.fName.size ≤ M' ∧ RS M' rInt w AV nV cV x.fVars ∧ Hid (l[k]? = some x) := by
  obtain ⟨b, off, x, cs, e, hrep, hc, hx⟩ := h.at_ hk
  obtain ⟨AV, nV, cV, rfl, h1, h2⟩ := rAtom_rep.1 hrep
  exact ⟨b, off, x, AV, nV, cV, e, hc 0 _ rfl, hc 1 _ rfl, h1, h2, hx⟩
end Go.Proofs.YtpdccgnapgneaaaGreat
