/-
  The library's Equal over slices of plain structs. Printed by gen.py.
-/
import Derived.Test.YtobildkjikhdiaaEqual
import Derived.Laws.StructEq
namespace Go.Proofs.Ytobildkjikhdiaa
open Go.RowKit
set_option linter.unusedVariables false
set_option linter.unusedSimpArgs false

theorem RS.eRational {M M' : Nat} {w : World} {A : Option Addr} {n cap : Nat} {l : List RationalD} (h : RS M (rRational M') w A n cap l) {k : Nat} (hk : k < n) :
    ∃ b off x, A = some ⟨b, off, none⟩ ∧ w.cell? ⟨b, off + k * 2, none⟩ = some (.int .i64 x.fNum) ∧ w.cell? ⟨b, off + k * 2 + 1, none⟩ = some (.int .i64 x.fDen) ∧ I64 x.fNum ∧ I64 x.fDen ∧ Hid (l[k]? = some x) := by
  obtain ⟨b, off, x, cs, e, hrep, hc, hx⟩ := h.at_ hk
  obtain ⟨rfl, hNum, hDen⟩ := rRational_rep.1 hrep
  exact ⟨b, off, x, e, hc 0 _ rfl, hc 1 _ rfl, hNum, hDen, hx⟩
theorem guardRational : Try.prog.eqGuardType Try.prog.depth 93 = false := by kernel_rfl
theorem neqRational (x x' : RationalD) (W : World) : (binOp .neq 93 (.agg #[.int .i64 x.fNum, .int .i64 x.fDen]) (.agg #[.int .i64 x'.fNum, .int .i64 x'.fDen])).run Try.prog W = .ok (.bool (!decide (x = x'))) W := by
  rw [run_neq_struct, show (10000 : Nat) = 9999 + 1 from rfl, run_equalIn_struct _ _ _ _ _ (by kernel_rfl) (by kernel_rfl)]
  have hd : decide (x = x') = ((x.fNum == x'.fNum) && (x.fDen == x'.fDen)) := by
    rw [Bool.eq_iff_iff]; cases x; cases x'; simp
  rw [hd]
  by_cases h0 : x.fNum = x'.fNum <;> by_cases h1 : x.fDen = x'.fDen <;> simp [go_sem, Try.underlying93, Try.underlying3, Try.underlying4, h0, h1]
theorem eqlRational (x x' : RationalD) (W : World) : (binOp .eql 93 (.agg #[.int .i64 x.fNum, .int .i64 x.fDen]) (.agg #[.int .i64 x'.fNum, .int .i64 x'.fDen])).run Try.prog W = .ok (.bool (decide (x = x'))) W := by
  rw [run_eql_struct, show (10000 : Nat) = 9999 + 1 from rfl, run_equalIn_struct _ _ _ _ _ (by kernel_rfl) (by kernel_rfl)]
  have hd : decide (x = x') = ((x.fNum == x'.fNum) && (x.fDen == x'.fDen)) := by
    rw [Bool.eq_iff_iff]; cases x; cases x'; simp
  rw [hd]
  by_cases h0 : x.fNum = x'.fNum <;> by_cases h1 : x.fDen = x'.fDen <;> simp [go_sem, Try.underlying93, Try.underlying3, Try.underlying4, h0, h1]
theorem RS.ePlanStep {M M' : Nat} {w : World} {A : Option Addr} {n cap : Nat} {l : List PlanStepD} (h : RS M (rPlanStep M') w A n cap l) {k : Nat} (hk : k < n) :
    ∃ b off x, A = some ⟨b, off, none⟩ ∧ w.cell? ⟨b, off + k * 3, none⟩ = some (.int .i64 x.fKind) ∧ w.cell? ⟨b, off + k * 3 + 1, none⟩ = some (.int .i64 x.fAtom) ∧ w.cell? ⟨b, off + k * 3 + 2, none⟩ = some (.int .i64 x.fOrder) ∧ I64 x.fKind ∧ I64 x.fAtom ∧ I64 x.fOrder ∧ Hid (l[k]? = some x) := by
  obtain ⟨b, off, x, cs, e, hrep, hc, hx⟩ := h.at_ hk
  obtain ⟨rfl, hKind, hAtom, hOrder⟩ := rPlanStep_rep.1 hrep
  exact ⟨b, off, x, e, hc 0 _ rfl, hc 1 _ rfl, hc 2 _ rfl, hKind, hAtom, hOrder, hx⟩
theorem guardPlanStep : Try.prog.eqGuardType Try.prog.depth 164 = false := by kernel_rfl
theorem neqPlanStep (x x' : PlanStepD) (W : World) : (binOp .neq 164 (.agg #[.int .i64 x.fKind, .int .i64 x.fAtom, .int .i64 x.fOrder]) (.agg #[.int .i64 x'.fKind, .int .i64 x'.fAtom, .int .i64 x'.fOrder])).run Try.prog W = .ok (.bool (!decide (x = x'))) W := by
  rw [run_neq_struct, show (10000 : Nat) = 9999 + 1 from rfl, run_equalIn_struct _ _ _ _ _ (by kernel_rfl) (by kernel_rfl)]
  have hd : decide (x = x') = ((x.fKind == x'.fKind) && ((x.fAtom == x'.fAtom) && (x.fOrder == x'.fOrder))) := by
    rw [Bool.eq_iff_iff]; cases x; cases x'; simp
  rw [hd]
  by_cases h0 : x.fKind = x'.fKind <;> by_cases h1 : x.fAtom = x'.fAtom <;> by_cases h2 : x.fOrder = x'.fOrder <;> simp [go_sem, Try.underlying164, Try.underlying3, Try.underlying4, h0, h1, h2]
theorem eqlPlanStep (x x' : PlanStepD) (W : World) : (binOp .eql 164 (.agg #[.int .i64 x.fKind, .int .i64 x.fAtom, .int .i64 x.fOrder]) (.agg #[.int .i64 x'.fKind, .int .i64 x'.fAtom, .int .i64 x'.fOrder])).run Try.prog W = .ok (.bool (decide (x = x'))) W := by
  rw [run_eql_struct, show (10000 : Nat) = 9999 + 1 from rfl, run_equalIn_struct _ _ _ _ _ (by kernel_rfl) (by kernel_rfl)]
  have hd : decide (x = x') = ((x.fKind == x'.fKind) && ((x.fAtom == x'.fAtom) && (x.fOrder == x'.fOrder))) := by
    rw [Bool.eq_iff_iff]; cases x; cases x'; simp
  rw [hd]
  by_cases h0 : x.fKind = x'.fKind <;> by_cases h1 : x.fAtom = x'.fAtom <;> by_cases h2 : x.fOrder = x'.fOrder <;> simp [go_sem, Try.underlying164, Try.underlying3, Try.underlying4, h0, h1, h2]
set_option maxRecDepth 100000 in
set_option maxHeartbeats 800000 in
theorem equalPlanStep_c (A A' : Option Addr) (n n' cap cap' : Nat) (l l' : List PlanStepD) (w : World) (hr : RS NB (rPlanStep NB) w A n cap l) (hr' : RS NB (rPlanStep NB) w A' n' cap' l') :
    Calls Try.prog 140 #[.slice A n cap, .slice A' n' cap'] w fun e w' => e = .returned (.bool (decide (l = l'))) ∧ Qt w w' := by
  have hn := hr.bound
  have hn' := hr'.bound
  by_cases hne : n = n'
  · subst hne
    go_enter Try.func140, Try.ntmps140
    go_wp2
    go_loopw [13] (fun i wr => ∃ k : Nat, k ≤ n ∧ i = .int .i64 k ∧ l.take k = l'.take k ∧ ∃ q, wr = w.drewN q) (fun i _ => n - (intOf i).toNat)
    case atStart => exact ⟨0, Nat.zero_le _, rfl, rfl, 0, rfl⟩
    case round =>
      obtain ⟨k, hk, rfl, heq, q, rfl⟩ := hrel
      have HE := Lib.hid heq; clear heq
      by_cases hlt : k < n
      · obtain ⟨b, off, x, rfl, c0, c1, c2, _, _, _, hxk⟩ := hr.ePlanStep hlt
        obtain ⟨b', off', x', rfl, c0', c1', c2', _, _, _, hxk'⟩ := hr'.ePlanStep hlt
        have hop := fun W => neqPlanStep x x' W
        have g1 := guardPlanStep
        by_cases hx : x = x'
        · have hb : decide (x = x') = true := by simp [hx]
          have HX := Lib.hid hx; clear hx
          go_wp2
          go_quiet (fail)
          go_wp2
          go_roundw
          case rel => exact ⟨k + 1, by omega, by go_num, take_eq_snoc HE.out hxk.out (HX.out ▸ hxk'.out), (by first | exact ⟨_, rfl⟩ | (simp only [World.drewN_drewN]; exact ⟨_, rfl⟩))⟩
          case measure => simp [intOf]; omega
        · have hb : decide (x = x') = false := by simp [hx]
          go_wp2
          go_quiet (fail)
          go_wp2
          go_ret
          exact ⟨ret_bool (a := false) (by have := ne_of_at hxk.out hxk'.out hx; simp [this]), (by first | exact ⟨_, rfl⟩ | (simp only [World.drewN_drewN]; exact ⟨_, rfl⟩))⟩
      · go_wp2
        go_ret
        have e : l = l' := by rw [← take_all hr.len hlt, ← take_all hr'.len hlt]; exact HE.out
        exact ⟨ret_bool (a := true) (by simp [e]), _, rfl⟩
  · have hb : ((n : Int) != (n' : Int)) = true := by simp; omega
    go_enter Try.func140, Try.ntmps140
    go_wp2
    go_ret
    have e : l ≠ l' := by rintro rfl; exact hne (hr.len.symm.trans hr'.len)
    exact ⟨ret_bool (a := false) (by simp [e]), Qt.refl _⟩
theorem RS.eObservation {M M' : Nat} {w : World} {A : Option Addr} {n cap : Nat} {l : List ObservationD} (h : RS M (rObservation M') w A n cap l) {k : Nat} (hk : k < n) :
    ∃ b off x, A = some ⟨b, off, none⟩ ∧ w.cell? ⟨b, off + k * 3, none⟩ = some (.int .i64 x.fMask) ∧ w.cell? ⟨b, off + k * 3 + 1, none⟩ = some (.int .i64 x.fClass) ∧ w.cell? ⟨b, off + k * 3 + 2, none⟩ = some (.bool x.fExact) ∧ I64 x.fMask ∧ I64 x.fClass ∧ Hid (l[k]? = some x) := by
  obtain ⟨b, off, x, cs, e, hrep, hc, hx⟩ := h.at_ hk
  obtain ⟨rfl, hMask, hClass⟩ := rObservation_rep.1 hrep
  exact ⟨b, off, x, e, hc 0 _ rfl, hc 1 _ rfl, hc 2 _ rfl, hMask, hClass, hx⟩
theorem guardObservation : Try.prog.eqGuardType Try.prog.depth 48 = false := by kernel_rfl
theorem neqObservation (x x' : ObservationD) (W : World) : (binOp .neq 48 (.agg #[.int .i64 x.fMask, .int .i64 x.fClass, .bool x.fExact]) (.agg #[.int .i64 x'.fMask, .int .i64 x'.fClass, .bool x'.fExact])).run Try.prog W = .ok (.bool (!decide (x = x'))) W := by
  rw [run_neq_struct, show (10000 : Nat) = 9999 + 1 from rfl, run_equalIn_struct _ _ _ _ _ (by kernel_rfl) (by kernel_rfl)]
  have hd : decide (x = x') = ((x.fMask == x'.fMask) && ((x.fClass == x'.fClass) && (x.fExact == x'.fExact))) := by
    rw [Bool.eq_iff_iff]; cases x; cases x'; simp
  rw [hd]
  by_cases h0 : x.fMask = x'.fMask <;> by_cases h1 : x.fClass = x'.fClass <;> by_cases h2 : x.fExact = x'.fExact <;> simp [go_sem, Try.underlying48, Try.underlying3, Try.underlying4, h0, h1, h2]
theorem eqlObservation (x x' : ObservationD) (W : World) : (binOp .eql 48 (.agg #[.int .i64 x.fMask, .int .i64 x.fClass, .bool x.fExact]) (.agg #[.int .i64 x'.fMask, .int .i64 x'.fClass, .bool x'.fExact])).run Try.prog W = .ok (.bool (decide (x = x'))) W := by
  rw [run_eql_struct, show (10000 : Nat) = 9999 + 1 from rfl, run_equalIn_struct _ _ _ _ _ (by kernel_rfl) (by kernel_rfl)]
  have hd : decide (x = x') = ((x.fMask == x'.fMask) && ((x.fClass == x'.fClass) && (x.fExact == x'.fExact))) := by
    rw [Bool.eq_iff_iff]; cases x; cases x'; simp
  rw [hd]
  by_cases h0 : x.fMask = x'.fMask <;> by_cases h1 : x.fClass = x'.fClass <;> by_cases h2 : x.fExact = x'.fExact <;> simp [go_sem, Try.underlying48, Try.underlying3, Try.underlying4, h0, h1, h2]
theorem RS.eRunNote {M M' : Nat} {w : World} {A : Option Addr} {n cap : Nat} {l : List RunNoteD} (h : RS M (rRunNote M') w A n cap l) {k : Nat} (hk : k < n) :
    ∃ b off x, A = some ⟨b, off, none⟩ ∧ w.cell? ⟨b, off + k * 5, none⟩ = some (.int .i64 x.fContour) ∧ w.cell? ⟨b, off + k * 5 + 1, none⟩ = some (.int .i64 x.fPlan) ∧ w.cell? ⟨b, off + k * 5 + 2, none⟩ = some (.int .i64 x.fBudget) ∧ w.cell? ⟨b, off + k * 5 + 3, none⟩ = some (.int .i64 x.fCost) ∧ w.cell? ⟨b, off + k * 5 + 4, none⟩ = some (.bool x.fDone) ∧ I64 x.fContour ∧ I64 x.fPlan ∧ I64 x.fBudget ∧ I64 x.fCost ∧ Hid (l[k]? = some x) := by
  obtain ⟨b, off, x, cs, e, hrep, hc, hx⟩ := h.at_ hk
  obtain ⟨rfl, hContour, hPlan, hBudget, hCost⟩ := rRunNote_rep.1 hrep
  exact ⟨b, off, x, e, hc 0 _ rfl, hc 1 _ rfl, hc 2 _ rfl, hc 3 _ rfl, hc 4 _ rfl, hContour, hPlan, hBudget, hCost, hx⟩
theorem guardRunNote : Try.prog.eqGuardType Try.prog.depth 122 = false := by kernel_rfl
theorem neqRunNote (x x' : RunNoteD) (W : World) : (binOp .neq 122 (.agg #[.int .i64 x.fContour, .int .i64 x.fPlan, .int .i64 x.fBudget, .int .i64 x.fCost, .bool x.fDone]) (.agg #[.int .i64 x'.fContour, .int .i64 x'.fPlan, .int .i64 x'.fBudget, .int .i64 x'.fCost, .bool x'.fDone])).run Try.prog W = .ok (.bool (!decide (x = x'))) W := by
  rw [run_neq_struct, show (10000 : Nat) = 9999 + 1 from rfl, run_equalIn_struct _ _ _ _ _ (by kernel_rfl) (by kernel_rfl)]
  have hd : decide (x = x') = ((x.fContour == x'.fContour) && ((x.fPlan == x'.fPlan) && ((x.fBudget == x'.fBudget) && ((x.fCost == x'.fCost) && (x.fDone == x'.fDone))))) := by
    rw [Bool.eq_iff_iff]; cases x; cases x'; simp
  rw [hd]
  by_cases h0 : x.fContour = x'.fContour <;> by_cases h1 : x.fPlan = x'.fPlan <;> by_cases h2 : x.fBudget = x'.fBudget <;> by_cases h3 : x.fCost = x'.fCost <;> by_cases h4 : x.fDone = x'.fDone <;> simp [go_sem, Try.underlying122, Try.underlying3, Try.underlying4, h0, h1, h2, h3, h4]
theorem eqlRunNote (x x' : RunNoteD) (W : World) : (binOp .eql 122 (.agg #[.int .i64 x.fContour, .int .i64 x.fPlan, .int .i64 x.fBudget, .int .i64 x.fCost, .bool x.fDone]) (.agg #[.int .i64 x'.fContour, .int .i64 x'.fPlan, .int .i64 x'.fBudget, .int .i64 x'.fCost, .bool x'.fDone])).run Try.prog W = .ok (.bool (decide (x = x'))) W := by
  rw [run_eql_struct, show (10000 : Nat) = 9999 + 1 from rfl, run_equalIn_struct _ _ _ _ _ (by kernel_rfl) (by kernel_rfl)]
  have hd : decide (x = x') = ((x.fContour == x'.fContour) && ((x.fPlan == x'.fPlan) && ((x.fBudget == x'.fBudget) && ((x.fCost == x'.fCost) && (x.fDone == x'.fDone))))) := by
    rw [Bool.eq_iff_iff]; cases x; cases x'; simp
  rw [hd]
  by_cases h0 : x.fContour = x'.fContour <;> by_cases h1 : x.fPlan = x'.fPlan <;> by_cases h2 : x.fBudget = x'.fBudget <;> by_cases h3 : x.fCost = x'.fCost <;> by_cases h4 : x.fDone = x'.fDone <;> simp [go_sem, Try.underlying122, Try.underlying3, Try.underlying4, h0, h1, h2, h3, h4]
set_option maxRecDepth 100000 in
set_option maxHeartbeats 800000 in
theorem equalRunNote_c (A A' : Option Addr) (n n' cap cap' : Nat) (l l' : List RunNoteD) (w : World) (hr : RS NB (rRunNote NB) w A n cap l) (hr' : RS NB (rRunNote NB) w A' n' cap' l') :
    Calls Try.prog 98 #[.slice A n cap, .slice A' n' cap'] w fun e w' => e = .returned (.bool (decide (l = l'))) ∧ Qt w w' := by
  have hn := hr.bound
  have hn' := hr'.bound
  by_cases hne : n = n'
  · subst hne
    go_enter Try.func98, Try.ntmps98
    go_wp2
    go_loopw [13] (fun i wr => ∃ k : Nat, k ≤ n ∧ i = .int .i64 k ∧ l.take k = l'.take k ∧ ∃ q, wr = w.drewN q) (fun i _ => n - (intOf i).toNat)
    case atStart => exact ⟨0, Nat.zero_le _, rfl, rfl, 0, rfl⟩
    case round =>
      obtain ⟨k, hk, rfl, heq, q, rfl⟩ := hrel
      have HE := Lib.hid heq; clear heq
      by_cases hlt : k < n
      · obtain ⟨b, off, x, rfl, c0, c1, c2, c3, c4, _, _, _, _, hxk⟩ := hr.eRunNote hlt
        obtain ⟨b', off', x', rfl, c0', c1', c2', c3', c4', _, _, _, _, hxk'⟩ := hr'.eRunNote hlt
        have hop := fun W => neqRunNote x x' W
        have g1 := guardRunNote
        by_cases hx : x = x'
        · have hb : decide (x = x') = true := by simp [hx]
          have HX := Lib.hid hx; clear hx
          go_wp2
          go_quiet (fail)
          go_wp2
          go_roundw
          case rel => exact ⟨k + 1, by omega, by go_num, take_eq_snoc HE.out hxk.out (HX.out ▸ hxk'.out), (by first | exact ⟨_, rfl⟩ | (simp only [World.drewN_drewN]; exact ⟨_, rfl⟩))⟩
          case measure => simp [intOf]; omega
        · have hb : decide (x = x') = false := by simp [hx]
          go_wp2
          go_quiet (fail)
          go_wp2
          go_ret
          exact ⟨ret_bool (a := false) (by have := ne_of_at hxk.out hxk'.out hx; simp [this]), (by first | exact ⟨_, rfl⟩ | (simp only [World.drewN_drewN]; exact ⟨_, rfl⟩))⟩
      · go_wp2
        go_ret
        have e : l = l' := by rw [← take_all hr.len hlt, ← take_all hr'.len hlt]; exact HE.out
        exact ⟨ret_bool (a := true) (by simp [e]), _, rfl⟩
  · have hb : ((n : Int) != (n' : Int)) = true := by simp; omega
    go_enter Try.func98, Try.ntmps98
    go_wp2
    go_ret
    have e : l ≠ l' := by rintro rfl; exact hne (hr.len.symm.trans hr'.len)
    exact ⟨ret_bool (a := false) (by simp [e]), Qt.refl _⟩
end Go.Proofs.Ytobildkjikhdiaa
