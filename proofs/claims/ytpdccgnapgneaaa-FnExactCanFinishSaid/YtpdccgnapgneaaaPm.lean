/-
  Contracts: is a plan valid; its mask; what a query's box must be.
-/
import Derived.Test.YtpdccgnapgneaaaPii
import Derived.Test.YtpdccgnapgneaaaVol
namespace Go.Proofs.Ytpdccgnapgneaaa
open Go.RowKit
set_option linter.unusedVariables false
set_option linter.unusedSimpArgs false
set_option maxRecDepth 100000 in
set_option maxHeartbeats 1600000 in
theorem sIsValidPlan_c (csq : List Value) (q : QueryD) (csp : List Value) (p : PlanD) (w : World) (hq : (rQuery NB).rep w csq q) (hp : (rPlan NB).rep w csp p) :
    Calls Try.prog 54 #[.agg csq.toArray, .agg csp.toArray] w fun e w' => e = .returned (.bool (validPlan q p)) ∧ Below w.heap.size w w' := by
  have rq := hq
  obtain ⟨AqAtoms, nqAtoms, cqAtoms, rfl, hqVariableCount, hqAtoms⟩ := rQuery_rep.1 hq
  clear hq
  have rp := hp
  obtain ⟨ApSteps, npSteps, cpSteps, rfl, hpSteps⟩ := rPlan_rep.1 hp
  clear hp
  have hB : Below w.heap.size w w := Below.refl _ _
  have hAq := (Below.refl (World.heap (w)).size (w)).alloc (Nat.le_refl _) (.cells #[.int .i64 q.fVariableCount, .slice AqAtoms nqAtoms cqAtoms] 70)
  replace hB := hB.trans (hAq.mono hB.size)
  have bxq := Bx.new (w) [.int .i64 q.fVariableCount, .slice AqAtoms nqAtoms cqAtoms] 70
  clear hAq
  have hAp := (Below.refl (World.heap ((w).alloc (.cells #[.int .i64 q.fVariableCount, .slice AqAtoms nqAtoms cqAtoms] 70))).size ((w).alloc (.cells #[.int .i64 q.fVariableCount, .slice AqAtoms nqAtoms cqAtoms] 70))).alloc (Nat.le_refl _) (.cells #[.slice ApSteps npSteps cpSteps] 74)
  replace hB := hB.trans (hAp.mono hB.size)
  replace bxq := bxq.below hAp
  have bxp := Bx.new ((w).alloc (.cells #[.int .i64 q.fVariableCount, .slice AqAtoms nqAtoms cqAtoms] 70)) [.slice ApSteps npSteps cpSteps] 74
  simp only [World.size_alloc] at bxp
  clear hAp
  go_enter Try.func54, Try.ntmps54
  have kq_0 := bxq 0 _ rfl
  have kq_1 := bxq 1 _ rfl
  have kp_0 := bxp 0 _ rfl
  go_wp2_with fail
  refine (sPlanInfo_c _ q _ p _ ((rQuery_ok NB).keep rq (cells_below hB)) ((rPlan_ok NB).keep rp (cells_below hB))).mono ?_
  rintro e w1 ⟨A, n, c, rfl, hM, hb1⟩
  replace hB := hB.trans (hb1.mono hB.size)
  replace bxq := bxq.below hb1
  replace bxp := bxp.below hb1
  clear hb1 kq_0 kq_1 kp_0
  have HM := Lib.hid hM; clear hM
  go_wp2
  go_ret
  exact ⟨rfl, hB⟩
set_option maxRecDepth 100000 in
set_option maxHeartbeats 1600000 in
theorem iIsValidPlan_c (csq : List Value) (q : QueryD) (csp : List Value) (p : PlanD) (w : World) (hq : (rQuery NB).rep w csq q) (hp : (rPlan NB).rep w csp p) :
    Calls Try.prog 61 #[.agg csq.toArray, .agg csp.toArray] w fun e w' => e = .returned (.bool (validPlan q p)) ∧ Below w.heap.size w w' := by
  have rq := hq
  obtain ⟨AqAtoms, nqAtoms, cqAtoms, rfl, hqVariableCount, hqAtoms⟩ := rQuery_rep.1 hq
  clear hq
  have rp := hp
  obtain ⟨ApSteps, npSteps, cpSteps, rfl, hpSteps⟩ := rPlan_rep.1 hp
  clear hp
  have hB : Below w.heap.size w w := Below.refl _ _
  have hAq := (Below.refl (World.heap (w)).size (w)).alloc (Nat.le_refl _) (.cells #[.int .i64 q.fVariableCount, .slice AqAtoms nqAtoms cqAtoms] 70)
  replace hB := hB.trans (hAq.mono hB.size)
  have bxq := Bx.new (w) [.int .i64 q.fVariableCount, .slice AqAtoms nqAtoms cqAtoms] 70
  clear hAq
  have hAp := (Below.refl (World.heap ((w).alloc (.cells #[.int .i64 q.fVariableCount, .slice AqAtoms nqAtoms cqAtoms] 70))).size ((w).alloc (.cells #[.int .i64 q.fVariableCount, .slice AqAtoms nqAtoms cqAtoms] 70))).alloc (Nat.le_refl _) (.cells #[.slice ApSteps npSteps cpSteps] 74)
  replace hB := hB.trans (hAp.mono hB.size)
  replace bxq := bxq.below hAp
  have bxp := Bx.new ((w).alloc (.cells #[.int .i64 q.fVariableCount, .slice AqAtoms nqAtoms cqAtoms] 70)) [.slice ApSteps npSteps cpSteps] 74
  simp only [World.size_alloc] at bxp
  clear hAp
  go_enter Try.func61, Try.ntmps61
  have kq_0 := bxq 0 _ rfl
  have kq_1 := bxq 1 _ rfl
  have kp_0 := bxp 0 _ rfl
  go_wp2_with fail
  refine (iPlanInfo_c _ q _ p _ ((rQuery_ok NB).keep rq (cells_below hB)) ((rPlan_ok NB).keep rp (cells_below hB))).mono ?_
  rintro e w1 ⟨A, n, c, rfl, hM, hb1⟩
  replace hB := hB.trans (hb1.mono hB.size)
  replace bxq := bxq.below hb1
  replace bxp := bxp.below hb1
  clear hb1 kq_0 kq_1 kp_0
  have HM := Lib.hid hM; clear hM
  go_wp2
  go_ret
  exact ⟨rfl, hB⟩
end Go.Proofs.Ytpdccgnapgneaaa
