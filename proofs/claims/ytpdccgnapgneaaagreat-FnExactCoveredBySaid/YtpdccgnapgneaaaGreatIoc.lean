/-
  Contract: the cost of an operator, the program's side.
-/
import Derived.Test.YtpdccgnapgneaaaGreatOper
namespace Go.Proofs.YtpdccgnapgneaaaGreat
open Go.RowKit
set_option linter.unusedVariables false
set_option linter.unusedSimpArgs false
set_option maxRecDepth 100000 in
set_option maxHeartbeats 1600000 in
theorem iOperatorCost_c (csx : List Value) (x : OperatorD) (l : Int) (r : Int) (t : Int) (w : World) (hx : (rOperator NB).rep w csx x) :
    Calls Tryz.prog 151 #[.agg csx.toArray, .int .i64 l, .int .i64 r, .int .i64 t] w fun e w' => e = .returned (.int .i64 (opCostV x l r t)) ∧ Below w.heap.size w w' := by
  have rx := hx
  obtain ⟨AxSteps, nxSteps, cxSteps, rfl, hxFixed, hxPerLeft, hxPerRight, hxPerOutput, hxPerPair, hxSteps⟩ := rOperator_rep.1 hx
  clear hx
  have hB : Below w.heap.size w w := Below.refl _ _
  have hAx := (Below.refl (World.heap (w)).size (w)).alloc (Nat.le_refl _) (.cells #[.int .i64 x.fFixed, .int .i64 x.fPerLeft, .int .i64 x.fPerRight, .int .i64 x.fPerOutput, .int .i64 x.fPerPair, .slice AxSteps nxSteps cxSteps] 42)
  replace hB := hB.trans (hAx.mono hB.size)
  have bxx := Bx.new (w) [.int .i64 x.fFixed, .int .i64 x.fPerLeft, .int .i64 x.fPerRight, .int .i64 x.fPerOutput, .int .i64 x.fPerPair, .slice AxSteps nxSteps cxSteps] 42
  clear hAx
  go_enter Tryz.func151, Tryz.ntmps151
  go_wp2_with fail
  refine (iIsValidOperator_c _ x _ ((rOperator_ok NB).keep rx (cells_below hB))).mono ?_
  rintro e w1 ⟨rfl, hb1⟩
  replace hB := hB.trans (hb1.mono hB.size)
  replace bxx := bxx.below hb1
  clear hb1
  cases hv : validOp x
  · go_wp2
    go_ret
    exact ⟨ret_int (a := 0) (by simp [opCostV, hv]), hB⟩
  have HV := Lib.hid hv; clear hv
  cases hl : inR l 0 4096
  · go_wp2_with (go_at_call 81; refine (within_v hl _).mono ?_; rintro e w' ⟨rfl, rfl⟩)
    go_ret
    exact ⟨ret_int (a := 0) (by simp [opCostV, hl]), hB⟩
  have K1 := Lib.hid (fun W => within_v hl W)
  have HLL := Lib.hid hl; clear hl
  cases hr : inR r 0 4096
  · have K2 := Lib.hid (fun W => within_v hr W)
    have HR := Lib.hid hr; clear hr
    go_wp2_with (first | (go_at_call_of 81 (Value.int IntKind.i64 l); refine (K1.out _).mono ?_; rintro e w' ⟨rfl, rfl⟩) | (go_at_call_of 81 (Value.int IntKind.i64 r); refine (K2.out _).mono ?_; rintro e w' ⟨rfl, rfl⟩))
    go_ret
    exact ⟨ret_int (a := 0) (by simp [opCostV, HR.out]), hB⟩
  have K2 := Lib.hid (fun W => within_v hr W)
  have HR := Lib.hid hr; clear hr
  cases ht : inR t 0 4096
  · have K3 := Lib.hid (fun W => within_v ht W)
    have HT := Lib.hid ht; clear ht
    go_wp2_with (first | (go_at_call_of 81 (Value.int IntKind.i64 l); refine (K1.out _).mono ?_; rintro e w' ⟨rfl, rfl⟩) | (go_at_call_of 81 (Value.int IntKind.i64 r); refine (K2.out _).mono ?_; rintro e w' ⟨rfl, rfl⟩) | (go_at_call_of 81 (Value.int IntKind.i64 t); refine (K3.out _).mono ?_; rintro e w' ⟨rfl, rfl⟩))
    go_ret
    exact ⟨ret_int (a := 0) (by simp [opCostV, HT.out]), hB⟩
  have K3 := Lib.hid (fun W => within_v ht W)
  have HT := Lib.hid ht; clear ht
  have kx_0 := bxx 0 _ rfl
  have kx_1 := bxx 1 _ rfl
  have kx_2 := bxx 2 _ rfl
  have kx_3 := bxx 3 _ rfl
  have kx_4 := bxx 4 _ rfl
  have kx_5 := bxx 5 _ rfl
  go_wp2_with (first | (go_at_call_of 81 (Value.int IntKind.i64 l); refine (K1.out _).mono ?_; rintro e w' ⟨rfl, rfl⟩) | (go_at_call_of 81 (Value.int IntKind.i64 r); refine (K2.out _).mono ?_; rintro e w' ⟨rfl, rfl⟩) | (go_at_call_of 81 (Value.int IntKind.i64 t); refine (K3.out _).mono ?_; rintro e w' ⟨rfl, rfl⟩))
  refine (iOpCost_c _ x l r t _ ((rOperator_ok NB).keep rx (cells_below hB)) HV.out (inR_t.1 HLL.out) (inR_t.1 HR.out) (inR_t.1 HT.out)).mono ?_
  rintro e w2 ⟨rfl, hb2⟩
  replace hB := hB.trans (hb2.mono hB.size)
  replace bxx := bxx.below hb2
  clear hb2 kx_0 kx_1 kx_2 kx_3 kx_4 kx_5
  go_wp2
  go_ret
  exact ⟨ret_int (by simp [opCostV, HV.out, HLL.out, HR.out, HT.out]), hB⟩
end Go.Proofs.YtpdccgnapgneaaaGreat
