/-
  Contracts: can a plan finish within a budget, both sides. Printed by mk_can.py.
-/
import Derived.Test.YtpdccgnapgneaaaTa
import Derived.Test.YtpdccgnapgneaaaPco
import Derived.Test.YtpdccgnapgneaaaAdmS
import Derived.Test.YtpdccgnapgneaaaPm
namespace Go.Proofs.Ytpdccgnapgneaaa
open Go.RowKit
set_option linter.unusedVariables false
set_option linter.unusedSimpArgs false
def boxOkV (q : QueryD) (b : BoxD) : Bool := validBox b && decide ((b.fLow.length : Int) = fullMask q + 1)
def canFinish (m : ModelD) (q : QueryD) (p : PlanD) (b : BoxD) (u : Int) : Bool := admitted m && (boxOkV q b && (validPlan q p && decide (planCostAt m q p b.fLow ≤ u)))
theorem boxOk_1 {q : QueryD} {b : BoxD} (h : validBox b = false) : boxOkV q b = false := by simp [boxOkV, h]
theorem boxOk_2 {q : QueryD} {b : BoxD} {n : Nat} {v : Bool} (h : validBox b = true) (hn : b.fLow.length = n) (h2 : ((n : Int) == fullMask q + 1) = v) : boxOkV q b = v := by
  subst h2; simp only [boxOkV, h, hn, Bool.true_and]; rfl
theorem can_1 {m : ModelD} {q : QueryD} {p : PlanD} {b : BoxD} {u : Int} (h : admitted m = false) : canFinish m q p b u = false := by simp [canFinish, h]
theorem can_2 {m : ModelD} {q : QueryD} {p : PlanD} {b : BoxD} {u : Int} (h : boxOkV q b = false) : canFinish m q p b u = false := by simp [canFinish, h]
theorem can_3 {m : ModelD} {q : QueryD} {p : PlanD} {b : BoxD} {u : Int} (h : validPlan q p = false) : canFinish m q p b u = false := by simp [canFinish, h]
theorem can_4 {m : ModelD} {q : QueryD} {p : PlanD} {b : BoxD} {u : Int} (h1 : admitted m = true) (h2 : boxOkV q b = true) (h3 : validPlan q p = true) : canFinish m q p b u = decide (planCostAt m q p b.fLow ≤ u) := by simp [canFinish, h1, h2, h3]
theorem wpList_load_midG2 {P : Program} {ops : Array Oper} {rest : List Oper} {op : Oper} {a : Act} {w : World} {Q : Exit → Act → World → Prop} (ty : TypeId) (x : Operand) (ho : op.op = .load ty x)
    (b o : Nat) (hx : a.eval x = .pointer (some ⟨b, o, none⟩)) (cs : List Value) (d : TypeDesc) (hc : w.rangeAt b o cs)
    (hu : P.underlying ty = some d) (hd : d.isRow = true) (hi : (P.info? ty).map (·.size) = some cs.length)
    (hw : Region.wanted op (yielded ops a.tmps) = true) (h : wpList P ops Q rest (a.put op.dst (.agg cs.toArray)) w) : wpList P ops Q (op :: rest) a w :=
  wpList_step fun K hK => by rw [if_pos hw]; exact wp_load_mid ty x ho b o hx cs d hc hu hd hi (hK _ _ h)
set_option maxRecDepth 100000 in
set_option maxHeartbeats 1600000 in
theorem iBoxOk_c (csq : List Value) (q : QueryD) (csb : List Value) (b : BoxD) (w : World) (hq : (rQuery NB).rep w csq q) (hb : (rBox NB).rep w csb b) :
    Calls Try.prog 62 #[.agg csq.toArray, .agg csb.toArray] w fun e w' => e = .returned (.bool (boxOkV q b)) ∧ Below w.heap.size w w' := by
  have rq := hq
  obtain ⟨AqAtoms, nqAtoms, cqAtoms, rfl, hqVariableCount, hqAtoms⟩ := rQuery_rep.1 hq
  clear hq
  have rb := hb
  obtain ⟨AbLow, nbLow, cbLow, AbHigh, nbHigh, cbHigh, rfl, hbLow, hbHigh⟩ := rBox_rep.1 hb
  clear hb
  have hB : Below w.heap.size w w := Below.refl _ _
  have hAq := (Below.refl (World.heap (w)).size (w)).alloc (Nat.le_refl _) (.cells #[.int .i64 q.fVariableCount, .slice AqAtoms nqAtoms cqAtoms] 70)
  replace hB := hB.trans (hAq.mono hB.size)
  have bxq := Bx.new (w) [.int .i64 q.fVariableCount, .slice AqAtoms nqAtoms cqAtoms] 70
  clear hAq
  have hAb := (Below.refl (World.heap ((w).alloc (.cells #[.int .i64 q.fVariableCount, .slice AqAtoms nqAtoms cqAtoms] 70))).size ((w).alloc (.cells #[.int .i64 q.fVariableCount, .slice AqAtoms nqAtoms cqAtoms] 70))).alloc (Nat.le_refl _) (.cells #[.slice AbLow nbLow cbLow, .slice AbHigh nbHigh cbHigh] 26)
  replace hB := hB.trans (hAb.mono hB.size)
  replace bxq := bxq.below hAb
  have bxb := Bx.new ((w).alloc (.cells #[.int .i64 q.fVariableCount, .slice AqAtoms nqAtoms cqAtoms] 70)) [.slice AbLow nbLow cbLow, .slice AbHigh nbHigh cbHigh] 26
  simp only [World.size_alloc] at bxb
  clear hAb
  have hnL := hbLow.bound
  have HL := Lib.hid hbLow.len
  have hfm := fullBd q
  have hw : IntKind.i64.wrap (fullMask q + 1) = fullMask q + 1 := IntWalk.i64_in _ (by omega)
  go_enter Try.func62, Try.ntmps62
  go_upto_region 1 with fail
  obtain ⟨wb, hwb⟩ : ∃ W, W = (w.alloc (.cells #[.int .i64 q.fVariableCount, .slice AqAtoms nqAtoms cqAtoms] 70)).alloc (.cells #[.slice AbLow nbLow cbLow, .slice AbHigh nbHigh cbHigh] 26) := ⟨_, rfl⟩
  rw [← hwb] at hB bxq bxb ⊢
  clear hwb
  have HSS : Hid (∀ w', Below wb.heap.size wb w' → (w'.cell? ⟨w.heap.size, 0, none⟩ = some (.int .i64 q.fVariableCount) ∧ w'.cell? ⟨w.heap.size, 1, none⟩ = some (.slice AqAtoms nqAtoms cqAtoms) ∧ w'.cell? ⟨w.heap.size + 1, 0, none⟩ = some (.slice AbLow nbLow cbLow) ∧ w'.cell? ⟨w.heap.size + 1, 1, none⟩ = some (.slice AbHigh nbHigh cbHigh))) := by
    show ∀ w', _ → _
    intro w' hb
    exact ⟨(bxq.below hb) 0 _ rfl, (bxq.below hb) 1 _ rfl, (bxb.below hb) 0 _ rfl, (bxb.below hb) 1 _ rfl⟩
  have hX0 := hB.trans ((Below.refl wb.heap.size wb).drew.mono hB.size)
  have K1 := Lib.hid (iIsValidBox_c _ b _ ((rBox_ok NB).keep rb (cells_below hX0)))
  cases e1 : validBox b
  · have HN := Lib.hid (boxOk_1 (q := q) e1)
    rw [e1] at K1
    clear e1
    refine wp_region_held_drew (S := fun w' => w'.cell? ⟨w.heap.size, 0, none⟩ = some (.int .i64 q.fVariableCount) ∧ w'.cell? ⟨w.heap.size, 1, none⟩ = some (.slice AqAtoms nqAtoms cqAtoms) ∧ w'.cell? ⟨w.heap.size + 1, 0, none⟩ = some (.slice AbLow nbLow cbLow) ∧ w'.cell? ⟨w.heap.size + 1, 1, none⟩ = some (.slice AbHigh nbHigh cbHigh)) (by kernel_rfl) ?_ (fun hHeld => ?_)
    · exact HSS.out _ (Below.refl _ _).drew
    refine tka 0 (some 5) hHeld ?_; try simp only [putS]
    refine wpAnyH_ready (rs := [1]) (by kernel_rfl) (by simp) ?_
    refine AllReadyH.cons (o := ⟨some 6, _, _, _, _, _⟩) rfl (fun K hK => ?_) AllReadyH.nil
    clear hHeld
    go_simp
    refine (K1.out).mono ?_
    rintro e w1 ⟨rfl, hb1⟩
    have hC1 : Below wb.heap.size wb w1 := ((Below.refl wb.heap.size wb).drew.trans (hb1.mono (by simp)))
    go_wp2_with fail
    refine hK.out _ _ (HSS.out _ hC1) (fun hHeld => ?_)
    clear hK K
    try simp only [putS]
    refine tka 2 (some 7) hHeld ?_; try simp only [putS]
    refine tks 3 (some 8) hHeld ?_; try simp only [putS]
    refine tks 4 (some 9) hHeld ?_; try simp only [putS]
    refine tks 5 (some 10) hHeld ?_; try simp only [putS]
    refine tks 6 (some 11) hHeld ?_; try simp only [putS]
    refine tks 7 (some 12) hHeld ?_; try simp only [putS]
    refine tks 8 (some 13) hHeld ?_; try simp only [putS]
    refine tks 9 (some 14) hHeld ?_; try simp only [putS]
    refine tka 10 (some 15) hHeld ?_; try simp only [putS]
    refine tka 11 (some 4) hHeld ?_; try simp only [putS]
    refine wpAnyH_done (by kernel_rfl) ?_ _
    clear hHeld
    go_wp2
    go_ret
    exact ⟨ret_bool (a := false) HN.out.symm, hB.trans (hC1.mono hB.size)⟩
  have HV := Lib.hid e1
  rw [e1] at K1
  clear e1
  have K2 : Hid (∀ W, Below wb.heap.size wb W → Calls Try.prog 85 #[.agg #[.int .i64 q.fVariableCount, .slice AqAtoms nqAtoms cqAtoms]] W fun e w' => e = .returned (.int .i64 (fullMask q)) ∧ Below W.heap.size W w') := by
    show ∀ W, _ → _
    intro W hW
    have hX := hB.trans (hW.mono hB.size)
    exact iFullMask_c _ q W ((rQuery_ok NB).keep rq (cells_below hX))
  have HN := Lib.hid (boxOk_2 (q := q) HV.out HL.out rfl)
  refine wp_region_held_drew (S := fun w' => w'.cell? ⟨w.heap.size, 0, none⟩ = some (.int .i64 q.fVariableCount) ∧ w'.cell? ⟨w.heap.size, 1, none⟩ = some (.slice AqAtoms nqAtoms cqAtoms) ∧ w'.cell? ⟨w.heap.size + 1, 0, none⟩ = some (.slice AbLow nbLow cbLow) ∧ w'.cell? ⟨w.heap.size + 1, 1, none⟩ = some (.slice AbHigh nbHigh cbHigh)) (by kernel_rfl) ?_ (fun hHeld => ?_)
  · exact HSS.out _ (Below.refl _ _).drew
  refine tka 0 (some 5) hHeld ?_; try simp only [putS]
  refine wpAnyH_ready (rs := [1]) (by kernel_rfl) (by simp) ?_
  refine AllReadyH.cons (o := ⟨some 6, _, _, _, _, _⟩) rfl (fun K hK => ?_) AllReadyH.nil
  clear hHeld
  go_simp
  refine (K1.out).mono ?_
  rintro e w1 ⟨rfl, hb1⟩
  have hC1 : Below wb.heap.size wb w1 := ((Below.refl wb.heap.size wb).drew.trans (hb1.mono (by simp)))
  go_wp2_with fail
  refine hK.out _ _ (HSS.out _ hC1) (fun hHeld => ?_)
  clear hK K
  try simp only [putS]
  refine tka 2 (some 7) hHeld ?_; try simp only [putS]
  refine tka 3 (some 8) hHeld ?_; try simp only [putS]
  refine tka 4 (some 9) hHeld ?_; try simp only [putS]
  refine tka 5 (some 10) hHeld ?_; try simp only [putS]
  refine tka 6 (some 11) hHeld ?_; try simp only [putS]
  refine wpAnyH_ready (rs := [7]) (by kernel_rfl) (by simp) ?_
  refine AllReadyH.cons (o := ⟨some 12, _, _, _, _, _⟩) rfl (fun K hK => ?_) AllReadyH.nil
  clear hHeld
  go_simp
  refine (K2.out _ hC1).mono ?_
  rintro e w2 ⟨rfl, hb2⟩
  have hC2 := hC1.trans (hb2.mono hC1.size)
  go_wp2_with fail
  refine hK.out _ _ (HSS.out _ hC2) (fun hHeld => ?_)
  clear hK K
  try simp only [putS]
  refine tka 8 (some 13) hHeld ?_; try simp only [putS]
  refine tka 9 (some 14) hHeld ?_; try simp only [putS]
  refine tka 10 (some 15) hHeld ?_; try simp only [putS]
  refine tka 11 (some 4) hHeld ?_; try simp only [putS]
  refine wpAnyH_done (by kernel_rfl) ?_ _
  clear hHeld
  go_wp2
  go_ret
  exact ⟨ret_bool HN.out.symm, hB.trans (hC2.mono hB.size)⟩
set_option maxRecDepth 100000 in
set_option maxHeartbeats 1600000 in
theorem iCanFinish_c (csm : List Value) (m : ModelD) (csq : List Value) (q : QueryD) (csp : List Value) (p : PlanD) (csb : List Value) (b : BoxD) (u : Int) (w : World) (hm : (rModel NB).rep w csm m) (hq : (rQuery NB).rep w csq q) (hp : (rPlan NB).rep w csp p) (hb : (rBox NB).rep w csb b) :
    Calls Try.prog 29 #[.agg csm.toArray, .agg csq.toArray, .agg csp.toArray, .agg csb.toArray, .int .i64 u] w fun e w' => e = .returned (.bool (canFinish m q p b u)) ∧ Below w.heap.size w w' := by
  have rm := hm
  have lenm := (rModel_ok NB).len hm
  clear hm
  have rq := hq
  obtain ⟨AqAtoms, nqAtoms, cqAtoms, rfl, hqVariableCount, hqAtoms⟩ := rQuery_rep.1 hq
  clear hq
  have rp := hp
  obtain ⟨ApSteps, npSteps, cpSteps, rfl, hpSteps⟩ := rPlan_rep.1 hp
  clear hp
  have rb := hb
  obtain ⟨AbLow, nbLow, cbLow, AbHigh, nbHigh, cbHigh, rfl, hbLow, hbHigh⟩ := rBox_rep.1 hb
  clear hb
  have hB : Below w.heap.size w w := Below.refl _ _
  have hAm := (Below.refl (World.heap (w)).size (w)).alloc (Nat.le_refl _) (.cells csm.toArray 66)
  replace hB := hB.trans (hAm.mono hB.size)
  have bxm := Bx.new (w) csm 66
  clear hAm
  have hAq := (Below.refl (World.heap ((w).alloc (.cells csm.toArray 66))).size ((w).alloc (.cells csm.toArray 66))).alloc (Nat.le_refl _) (.cells #[.int .i64 q.fVariableCount, .slice AqAtoms nqAtoms cqAtoms] 70)
  replace hB := hB.trans (hAq.mono hB.size)
  replace bxm := bxm.below hAq
  have bxq := Bx.new ((w).alloc (.cells csm.toArray 66)) [.int .i64 q.fVariableCount, .slice AqAtoms nqAtoms cqAtoms] 70
  simp only [World.size_alloc] at bxq
  clear hAq
  have hAp := (Below.refl (World.heap (((w).alloc (.cells csm.toArray 66)).alloc (.cells #[.int .i64 q.fVariableCount, .slice AqAtoms nqAtoms cqAtoms] 70))).size (((w).alloc (.cells csm.toArray 66)).alloc (.cells #[.int .i64 q.fVariableCount, .slice AqAtoms nqAtoms cqAtoms] 70))).alloc (Nat.le_refl _) (.cells #[.slice ApSteps npSteps cpSteps] 74)
  replace hB := hB.trans (hAp.mono hB.size)
  replace bxm := bxm.below hAp
  replace bxq := bxq.below hAp
  have bxp := Bx.new (((w).alloc (.cells csm.toArray 66)).alloc (.cells #[.int .i64 q.fVariableCount, .slice AqAtoms nqAtoms cqAtoms] 70)) [.slice ApSteps npSteps cpSteps] 74
  simp only [World.size_alloc] at bxp
  clear hAp
  have hAb := (Below.refl (World.heap ((((w).alloc (.cells csm.toArray 66)).alloc (.cells #[.int .i64 q.fVariableCount, .slice AqAtoms nqAtoms cqAtoms] 70)).alloc (.cells #[.slice ApSteps npSteps cpSteps] 74))).size ((((w).alloc (.cells csm.toArray 66)).alloc (.cells #[.int .i64 q.fVariableCount, .slice AqAtoms nqAtoms cqAtoms] 70)).alloc (.cells #[.slice ApSteps npSteps cpSteps] 74))).alloc (Nat.le_refl _) (.cells #[.slice AbLow nbLow cbLow, .slice AbHigh nbHigh cbHigh] 26)
  replace hB := hB.trans (hAb.mono hB.size)
  replace bxm := bxm.below hAb
  replace bxq := bxq.below hAb
  replace bxp := bxp.below hAb
  have bxb := Bx.new ((((w).alloc (.cells csm.toArray 66)).alloc (.cells #[.int .i64 q.fVariableCount, .slice AqAtoms nqAtoms cqAtoms] 70)).alloc (.cells #[.slice ApSteps npSteps cpSteps] 74)) [.slice AbLow nbLow cbLow, .slice AbHigh nbHigh cbHigh] 26
  simp only [World.size_alloc] at bxb
  clear hAb
  have lenm' : csm.length = 30 := lenm
  clear lenm
  go_enter Try.func29, Try.ntmps29
  go_wp2_with (refine wpList_load_mid rfl 66 _ rfl w.heap.size 0 rfl csm _ bxm.range Try.underlying66 rfl (by rw [lenm']; exact sizeModel) ?_)
  refine (iIsAdmitted_c _ m _ ((rModel_ok NB).keep rm (cells_below hB))).mono ?_
  rintro e w1 ⟨rfl, hb1⟩
  replace hB := hB.trans (hb1.mono hB.size)
  replace bxm := bxm.below hb1
  replace bxq := bxq.below hb1
  replace bxp := bxp.below hb1
  replace bxb := bxb.below hb1
  clear hb1
  cases e1 : admitted m
  · have HN := Lib.hid (can_1 (q := q) (p := p) (b := b) (u := u) e1); clear e1
    go_wp2
    go_ret
    exact ⟨ret_bool (a := false) HN.out.symm, hB⟩
  have H1 := Lib.hid e1; clear e1
  have kq_0 := bxq 0 _ rfl
  have kq_1 := bxq 1 _ rfl
  have kp_0 := bxp 0 _ rfl
  go_wp2_with fail
  refine (iIsValidPlan_c _ q _ p _ ((rQuery_ok NB).keep rq (cells_below hB)) ((rPlan_ok NB).keep rp (cells_below hB))).mono ?_
  rintro e w2 ⟨rfl, hb2⟩
  replace hB := hB.trans (hb2.mono hB.size)
  replace bxm := bxm.below hb2
  replace bxq := bxq.below hb2
  replace bxp := bxp.below hb2
  replace bxb := bxb.below hb2
  clear hb2 kq_0 kq_1 kp_0
  cases e1 : validPlan q p
  · have HN := Lib.hid (can_3 (m := m) (b := b) (u := u) e1); clear e1
    go_wp2
    go_ret
    exact ⟨ret_bool (a := false) HN.out.symm, hB⟩
  have H3 := Lib.hid e1; clear e1
  have kq_0 := bxq 0 _ rfl
  have kq_1 := bxq 1 _ rfl
  have kb_0 := bxb 0 _ rfl
  have kb_1 := bxb 1 _ rfl
  go_wp2_with fail
  refine (iBoxOk_c _ q _ b _ ((rQuery_ok NB).keep rq (cells_below hB)) ((rBox_ok NB).keep rb (cells_below hB))).mono ?_
  rintro e w3 ⟨rfl, hb3⟩
  replace hB := hB.trans (hb3.mono hB.size)
  replace bxm := bxm.below hb3
  replace bxq := bxq.below hb3
  replace bxp := bxp.below hb3
  replace bxb := bxb.below hb3
  clear hb3 kq_0 kq_1 kb_0 kb_1
  cases e1 : boxOkV q b
  · have HN := Lib.hid (can_2 (m := m) (p := p) (u := u) e1); clear e1
    go_wp2
    go_ret
    exact ⟨ret_bool (a := false) HN.out.symm, hB⟩
  have HN := Lib.hid (can_4 (u := u) H1.out e1 H3.out); clear e1
  have kq_0 := bxq 0 _ rfl
  have kq_1 := bxq 1 _ rfl
  have kp_0 := bxp 0 _ rfl
  have kb_0 := bxb 0 _ rfl
  have kb_1 := bxb 1 _ rfl
  go_wp2_with (refine wpList_load_midG2 66 _ rfl w.heap.size 0 rfl csm _ bxm.range Try.underlying66 rfl (by rw [lenm']; exact sizeModel) (by simp [Region.wanted, yielded]) ?_)
  refine (iPlanCostAt_c _ m _ q _ p _ _ _ b.fLow _ ((rModel_ok NB).keep rm (cells_below hB)) ((rQuery_ok NB).keep rq (cells_below hB)) ((rPlan_ok NB).keep rp (cells_below hB)) (hbLow.below rInt_ok hB)).mono ?_
  rintro e w4 ⟨rfl, hb4⟩
  replace hB := hB.trans (hb4.mono hB.size)
  replace bxm := bxm.below hb4
  replace bxq := bxq.below hb4
  replace bxp := bxp.below hb4
  replace bxb := bxb.below hb4
  clear hb4 kq_0 kq_1 kp_0 kb_0 kb_1
  generalize planCostAt m q p b.fLow = c at HN ⊢
  go_wp2
  go_ret
  exact ⟨ret_bool HN.out.symm, hB⟩
set_option maxRecDepth 100000 in
set_option maxHeartbeats 1600000 in
theorem sCanFinish_c (csm : List Value) (m : ModelD) (csq : List Value) (q : QueryD) (csp : List Value) (p : PlanD) (csb : List Value) (b : BoxD) (u : Int) (w : World) (hm : (rModel NB).rep w csm m) (hq : (rQuery NB).rep w csq q) (hp : (rPlan NB).rep w csp p) (hb : (rBox NB).rep w csb b) :
    Calls Try.prog 24 #[.agg csm.toArray, .agg csq.toArray, .agg csp.toArray, .agg csb.toArray, .int .i64 u] w fun e w' => e = .returned (.bool (canFinish m q p b u)) ∧ Below w.heap.size w w' := by
  have rm := hm
  have lenm := (rModel_ok NB).len hm
  clear hm
  have rq := hq
  obtain ⟨AqAtoms, nqAtoms, cqAtoms, rfl, hqVariableCount, hqAtoms⟩ := rQuery_rep.1 hq
  clear hq
  have rp := hp
  obtain ⟨ApSteps, npSteps, cpSteps, rfl, hpSteps⟩ := rPlan_rep.1 hp
  clear hp
  have rb := hb
  obtain ⟨AbLow, nbLow, cbLow, AbHigh, nbHigh, cbHigh, rfl, hbLow, hbHigh⟩ := rBox_rep.1 hb
  clear hb
  have hB : Below w.heap.size w w := Below.refl _ _
  have hAm := (Below.refl (World.heap (w)).size (w)).alloc (Nat.le_refl _) (.cells csm.toArray 66)
  replace hB := hB.trans (hAm.mono hB.size)
  have bxm := Bx.new (w) csm 66
  clear hAm
  have hAq := (Below.refl (World.heap ((w).alloc (.cells csm.toArray 66))).size ((w).alloc (.cells csm.toArray 66))).alloc (Nat.le_refl _) (.cells #[.int .i64 q.fVariableCount, .slice AqAtoms nqAtoms cqAtoms] 70)
  replace hB := hB.trans (hAq.mono hB.size)
  replace bxm := bxm.below hAq
  have bxq := Bx.new ((w).alloc (.cells csm.toArray 66)) [.int .i64 q.fVariableCount, .slice AqAtoms nqAtoms cqAtoms] 70
  simp only [World.size_alloc] at bxq
  clear hAq
  have hAp := (Below.refl (World.heap (((w).alloc (.cells csm.toArray 66)).alloc (.cells #[.int .i64 q.fVariableCount, .slice AqAtoms nqAtoms cqAtoms] 70))).size (((w).alloc (.cells csm.toArray 66)).alloc (.cells #[.int .i64 q.fVariableCount, .slice AqAtoms nqAtoms cqAtoms] 70))).alloc (Nat.le_refl _) (.cells #[.slice ApSteps npSteps cpSteps] 74)
  replace hB := hB.trans (hAp.mono hB.size)
  replace bxm := bxm.below hAp
  replace bxq := bxq.below hAp
  have bxp := Bx.new (((w).alloc (.cells csm.toArray 66)).alloc (.cells #[.int .i64 q.fVariableCount, .slice AqAtoms nqAtoms cqAtoms] 70)) [.slice ApSteps npSteps cpSteps] 74
  simp only [World.size_alloc] at bxp
  clear hAp
  have hAb := (Below.refl (World.heap ((((w).alloc (.cells csm.toArray 66)).alloc (.cells #[.int .i64 q.fVariableCount, .slice AqAtoms nqAtoms cqAtoms] 70)).alloc (.cells #[.slice ApSteps npSteps cpSteps] 74))).size ((((w).alloc (.cells csm.toArray 66)).alloc (.cells #[.int .i64 q.fVariableCount, .slice AqAtoms nqAtoms cqAtoms] 70)).alloc (.cells #[.slice ApSteps npSteps cpSteps] 74))).alloc (Nat.le_refl _) (.cells #[.slice AbLow nbLow cbLow, .slice AbHigh nbHigh cbHigh] 26)
  replace hB := hB.trans (hAb.mono hB.size)
  replace bxm := bxm.below hAb
  replace bxq := bxq.below hAb
  replace bxp := bxp.below hAb
  have bxb := Bx.new ((((w).alloc (.cells csm.toArray 66)).alloc (.cells #[.int .i64 q.fVariableCount, .slice AqAtoms nqAtoms cqAtoms] 70)).alloc (.cells #[.slice ApSteps npSteps cpSteps] 74)) [.slice AbLow nbLow cbLow, .slice AbHigh nbHigh cbHigh] 26
  simp only [World.size_alloc] at bxb
  clear hAb
  have lenm' : csm.length = 30 := lenm
  clear lenm
  have hnL := hbLow.bound
  have HL := Lib.hid hbLow.len
  have hfm := fullBd q
  have hw : IntKind.i64.wrap (fullMask q + 1) = fullMask q + 1 := IntWalk.i64_in _ (by omega)
  go_enter Try.func24, Try.ntmps24
  go_upto_region 1 with fail
  obtain ⟨wb, hwb⟩ : ∃ W, W = (((w.alloc (.cells csm.toArray 66)).alloc (.cells #[.int .i64 q.fVariableCount, .slice AqAtoms nqAtoms cqAtoms] 70)).alloc (.cells #[.slice ApSteps npSteps cpSteps] 74)).alloc (.cells #[.slice AbLow nbLow cbLow, .slice AbHigh nbHigh cbHigh] 26) := ⟨_, rfl⟩
  rw [← hwb] at hB bxm bxq bxp bxb ⊢
  clear hwb
  have HSS : Hid (∀ w', Below wb.heap.size wb w' → (w'.rangeAt w.heap.size 0 csm ∧ w'.cell? ⟨w.heap.size + 1, 0, none⟩ = some (.int .i64 q.fVariableCount) ∧ w'.cell? ⟨w.heap.size + 1, 1, none⟩ = some (.slice AqAtoms nqAtoms cqAtoms) ∧ w'.cell? ⟨w.heap.size + 1 + 1, 0, none⟩ = some (.slice ApSteps npSteps cpSteps) ∧ w'.cell? ⟨w.heap.size + 1 + 1 + 1, 0, none⟩ = some (.slice AbLow nbLow cbLow) ∧ w'.cell? ⟨w.heap.size + 1 + 1 + 1, 1, none⟩ = some (.slice AbHigh nbHigh cbHigh))) := by
    show ∀ w', _ → _
    intro w' hb
    exact ⟨(bxm.below hb).range, (bxq.below hb) 0 _ rfl, (bxq.below hb) 1 _ rfl, (bxp.below hb) 0 _ rfl, (bxb.below hb) 0 _ rfl, (bxb.below hb) 1 _ rfl⟩
  have K1 : Hid (∀ W, Below wb.heap.size wb W → Calls Try.prog 52 #[.agg csm.toArray] W fun e w' => e = .returned (.bool (admitted m)) ∧ Below W.heap.size W w') := by
    show ∀ W, _ → _
    intro W hW
    have hX := hB.trans (hW.mono hB.size)
    exact sIsAdmitted_c _ m W ((rModel_ok NB).keep rm (cells_below hX))
  have K2 : Hid (∀ W, Below wb.heap.size wb W → Calls Try.prog 10 #[.agg #[.slice AbLow nbLow cbLow, .slice AbHigh nbHigh cbHigh]] W fun e w' => e = .returned (.bool (validBox b)) ∧ Below W.heap.size W w') := by
    show ∀ W, _ → _
    intro W hW
    have hX := hB.trans (hW.mono hB.size)
    exact sIsValidBox_c _ b W ((rBox_ok NB).keep rb (cells_below hX))
  have K3 : Hid (∀ W, Below wb.heap.size wb W → Calls Try.prog 53 #[.agg #[.int .i64 q.fVariableCount, .slice AqAtoms nqAtoms cqAtoms]] W fun e w' => e = .returned (.int .i64 (fullMask q)) ∧ Below W.heap.size W w') := by
    show ∀ W, _ → _
    intro W hW
    have hX := hB.trans (hW.mono hB.size)
    exact sFullMask_c _ q W ((rQuery_ok NB).keep rq (cells_below hX))
  have K4 : Hid (∀ W, Below wb.heap.size wb W → Calls Try.prog 54 #[.agg #[.int .i64 q.fVariableCount, .slice AqAtoms nqAtoms cqAtoms], .agg #[.slice ApSteps npSteps cpSteps]] W fun e w' => e = .returned (.bool (validPlan q p)) ∧ Below W.heap.size W w') := by
    show ∀ W, _ → _
    intro W hW
    have hX := hB.trans (hW.mono hB.size)
    exact sIsValidPlan_c _ q _ p W ((rQuery_ok NB).keep rq (cells_below hX)) ((rPlan_ok NB).keep rp (cells_below hX))
  cases e1 : admitted m
  · have HN := Lib.hid (can_1 (q := q) (p := p) (b := b) (u := u) e1)
    rw [e1] at K1
    clear e1
    refine wp_region_held_drew (S := fun w' => w'.rangeAt w.heap.size 0 csm ∧ w'.cell? ⟨w.heap.size + 1, 0, none⟩ = some (.int .i64 q.fVariableCount) ∧ w'.cell? ⟨w.heap.size + 1, 1, none⟩ = some (.slice AqAtoms nqAtoms cqAtoms) ∧ w'.cell? ⟨w.heap.size + 1 + 1, 0, none⟩ = some (.slice ApSteps npSteps cpSteps) ∧ w'.cell? ⟨w.heap.size + 1 + 1 + 1, 0, none⟩ = some (.slice AbLow nbLow cbLow) ∧ w'.cell? ⟨w.heap.size + 1 + 1 + 1, 1, none⟩ = some (.slice AbHigh nbHigh cbHigh)) (by kernel_rfl) ?_ (fun hHeld => ?_)
    · exact HSS.out _ (Below.refl _ _).drew
    refine' wpAnyH_take (i := 0) (oi := ⟨some 11,_,_,_,_,_⟩) (v := _) rfl (by kernel_rfl) (by kernel_rfl) (by kernel_rfl) (fun _ _ _ h => h) (yieldsIf_load_mid (by rfl) _ _ rfl _ _ rfl _ _ (fun w h => h.1) Try.underlying66 rfl (by rw [lenm']; exact sizeModel)) hHeld ?_
    simp only [putS]
    refine wpAnyH_ready (rs := [1]) (by kernel_rfl) (by simp) ?_
    refine AllReadyH.cons (o := ⟨some 12, _, _, _, _, _⟩) rfl (fun K hK => ?_) AllReadyH.nil
    clear hHeld
    go_simp
    refine (K1.out _ (Below.refl wb.heap.size wb).drew).mono ?_
    rintro e w1 ⟨rfl, hb1⟩
    have hC1 : Below wb.heap.size wb w1 := ((Below.refl wb.heap.size wb).drew.trans (hb1.mono (by simp)))
    go_wp2_with fail
    refine hK.out _ _ (HSS.out _ hC1) (fun hHeld => ?_)
    clear hK K
    try simp only [putS]
    refine tka 2 (some 13) hHeld ?_; try simp only [putS]
    refine tka 3 (some 14) hHeld ?_; try simp only [putS]
    refine tks 4 (some 15) hHeld ?_; try simp only [putS]
    refine tks 5 (some 16) hHeld ?_; try simp only [putS]
    refine tks 6 (some 17) hHeld ?_; try simp only [putS]
    refine tka 7 (some 18) hHeld ?_; try simp only [putS]
    refine tka 8 (some 19) hHeld ?_; try simp only [putS]
    refine tks 9 (some 20) hHeld ?_; try simp only [putS]
    refine tks 10 (some 21) hHeld ?_; try simp only [putS]
    refine tks 11 (some 22) hHeld ?_; try simp only [putS]
    refine tks 12 (some 23) hHeld ?_; try simp only [putS]
    refine tks 13 (some 24) hHeld ?_; try simp only [putS]
    refine tks 14 (some 25) hHeld ?_; try simp only [putS]
    refine tks 15 (some 26) hHeld ?_; try simp only [putS]
    refine tka 16 (some 27) hHeld ?_; try simp only [putS]
    refine tka 17 (some 28) hHeld ?_; try simp only [putS]
    refine tks 18 (some 29) hHeld ?_; try simp only [putS]
    refine tks 19 (some 30) hHeld ?_; try simp only [putS]
    refine tks 20 (some 31) hHeld ?_; try simp only [putS]
    refine tks 21 (some 32) hHeld ?_; try simp only [putS]
    refine tka 22 (some 33) hHeld ?_; try simp only [putS]
    refine wpAnyH_done (by kernel_rfl) ?_ _
    clear hHeld
    go_wp2
    go_ret
    exact ⟨ret_bool (a := false) HN.out.symm, hB.trans (hC1.mono hB.size)⟩
  have H1 := Lib.hid e1
  rw [e1] at K1
  clear e1
  cases e1 : validBox b
  · have HN := Lib.hid (can_2 (m := m) (p := p) (u := u) (boxOk_1 (q := q) e1))
    rw [e1] at K2
    clear e1
    refine wp_region_held_drew (S := fun w' => w'.rangeAt w.heap.size 0 csm ∧ w'.cell? ⟨w.heap.size + 1, 0, none⟩ = some (.int .i64 q.fVariableCount) ∧ w'.cell? ⟨w.heap.size + 1, 1, none⟩ = some (.slice AqAtoms nqAtoms cqAtoms) ∧ w'.cell? ⟨w.heap.size + 1 + 1, 0, none⟩ = some (.slice ApSteps npSteps cpSteps) ∧ w'.cell? ⟨w.heap.size + 1 + 1 + 1, 0, none⟩ = some (.slice AbLow nbLow cbLow) ∧ w'.cell? ⟨w.heap.size + 1 + 1 + 1, 1, none⟩ = some (.slice AbHigh nbHigh cbHigh)) (by kernel_rfl) ?_ (fun hHeld => ?_)
    · exact HSS.out _ (Below.refl _ _).drew
    refine' wpAnyH_take (i := 0) (oi := ⟨some 11,_,_,_,_,_⟩) (v := _) rfl (by kernel_rfl) (by kernel_rfl) (by kernel_rfl) (fun _ _ _ h => h) (yieldsIf_load_mid (by rfl) _ _ rfl _ _ rfl _ _ (fun w h => h.1) Try.underlying66 rfl (by rw [lenm']; exact sizeModel)) hHeld ?_
    simp only [putS]
    refine wpAnyH_ready (rs := [1]) (by kernel_rfl) (by simp) ?_
    refine AllReadyH.cons (o := ⟨some 12, _, _, _, _, _⟩) rfl (fun K hK => ?_) AllReadyH.nil
    clear hHeld
    go_simp
    refine (K1.out _ (Below.refl wb.heap.size wb).drew).mono ?_
    rintro e w1 ⟨rfl, hb1⟩
    have hC1 : Below wb.heap.size wb w1 := ((Below.refl wb.heap.size wb).drew.trans (hb1.mono (by simp)))
    go_wp2_with fail
    refine hK.out _ _ (HSS.out _ hC1) (fun hHeld => ?_)
    clear hK K
    try simp only [putS]
    refine tka 2 (some 13) hHeld ?_; try simp only [putS]
    refine tka 3 (some 14) hHeld ?_; try simp only [putS]
    refine tka 4 (some 15) hHeld ?_; try simp only [putS]
    refine wpAnyH_ready (rs := [5]) (by kernel_rfl) (by simp) ?_
    refine AllReadyH.cons (o := ⟨some 16, _, _, _, _, _⟩) rfl (fun K hK => ?_) AllReadyH.nil
    clear hHeld
    go_simp
    refine (K2.out _ hC1).mono ?_
    rintro e w2 ⟨rfl, hb2⟩
    have hC2 := hC1.trans (hb2.mono hC1.size)
    go_wp2_with fail
    refine hK.out _ _ (HSS.out _ hC2) (fun hHeld => ?_)
    clear hK K
    try simp only [putS]
    refine tka 6 (some 17) hHeld ?_; try simp only [putS]
    refine tka 7 (some 18) hHeld ?_; try simp only [putS]
    refine tka 8 (some 19) hHeld ?_; try simp only [putS]
    refine tks 9 (some 20) hHeld ?_; try simp only [putS]
    refine tks 10 (some 21) hHeld ?_; try simp only [putS]
    refine tks 11 (some 22) hHeld ?_; try simp only [putS]
    refine tks 12 (some 23) hHeld ?_; try simp only [putS]
    refine tks 13 (some 24) hHeld ?_; try simp only [putS]
    refine tks 14 (some 25) hHeld ?_; try simp only [putS]
    refine tks 15 (some 26) hHeld ?_; try simp only [putS]
    refine tka 16 (some 27) hHeld ?_; try simp only [putS]
    refine tka 17 (some 28) hHeld ?_; try simp only [putS]
    refine tks 18 (some 29) hHeld ?_; try simp only [putS]
    refine tks 19 (some 30) hHeld ?_; try simp only [putS]
    refine tks 20 (some 31) hHeld ?_; try simp only [putS]
    refine tks 21 (some 32) hHeld ?_; try simp only [putS]
    refine tka 22 (some 33) hHeld ?_; try simp only [putS]
    refine wpAnyH_done (by kernel_rfl) ?_ _
    clear hHeld
    go_wp2
    go_ret
    exact ⟨ret_bool (a := false) HN.out.symm, hB.trans (hC2.mono hB.size)⟩
  have H2 := Lib.hid e1
  rw [e1] at K2
  clear e1
  cases e3 : ((nbLow : Int) != fullMask q + 1)
  rotate_left
  · have HN := Lib.hid (can_2 (m := m) (p := p) (u := u) (boxOk_2 (v := false) H2.out HL.out (by simpa using e3)))
    refine wp_region_held_drew (S := fun w' => w'.rangeAt w.heap.size 0 csm ∧ w'.cell? ⟨w.heap.size + 1, 0, none⟩ = some (.int .i64 q.fVariableCount) ∧ w'.cell? ⟨w.heap.size + 1, 1, none⟩ = some (.slice AqAtoms nqAtoms cqAtoms) ∧ w'.cell? ⟨w.heap.size + 1 + 1, 0, none⟩ = some (.slice ApSteps npSteps cpSteps) ∧ w'.cell? ⟨w.heap.size + 1 + 1 + 1, 0, none⟩ = some (.slice AbLow nbLow cbLow) ∧ w'.cell? ⟨w.heap.size + 1 + 1 + 1, 1, none⟩ = some (.slice AbHigh nbHigh cbHigh)) (by kernel_rfl) ?_ (fun hHeld => ?_)
    · exact HSS.out _ (Below.refl _ _).drew
    refine' wpAnyH_take (i := 0) (oi := ⟨some 11,_,_,_,_,_⟩) (v := _) rfl (by kernel_rfl) (by kernel_rfl) (by kernel_rfl) (fun _ _ _ h => h) (yieldsIf_load_mid (by rfl) _ _ rfl _ _ rfl _ _ (fun w h => h.1) Try.underlying66 rfl (by rw [lenm']; exact sizeModel)) hHeld ?_
    simp only [putS]
    refine wpAnyH_ready (rs := [1]) (by kernel_rfl) (by simp) ?_
    refine AllReadyH.cons (o := ⟨some 12, _, _, _, _, _⟩) rfl (fun K hK => ?_) AllReadyH.nil
    clear hHeld
    go_simp
    refine (K1.out _ (Below.refl wb.heap.size wb).drew).mono ?_
    rintro e w1 ⟨rfl, hb1⟩
    have hC1 : Below wb.heap.size wb w1 := ((Below.refl wb.heap.size wb).drew.trans (hb1.mono (by simp)))
    go_wp2_with fail
    refine hK.out _ _ (HSS.out _ hC1) (fun hHeld => ?_)
    clear hK K
    try simp only [putS]
    refine tka 2 (some 13) hHeld ?_; try simp only [putS]
    refine tka 3 (some 14) hHeld ?_; try simp only [putS]
    refine tka 4 (some 15) hHeld ?_; try simp only [putS]
    refine wpAnyH_ready (rs := [5]) (by kernel_rfl) (by simp) ?_
    refine AllReadyH.cons (o := ⟨some 16, _, _, _, _, _⟩) rfl (fun K hK => ?_) AllReadyH.nil
    clear hHeld
    go_simp
    refine (K2.out _ hC1).mono ?_
    rintro e w2 ⟨rfl, hb2⟩
    have hC2 := hC1.trans (hb2.mono hC1.size)
    go_wp2_with fail
    refine hK.out _ _ (HSS.out _ hC2) (fun hHeld => ?_)
    clear hK K
    try simp only [putS]
    refine tka 6 (some 17) hHeld ?_; try simp only [putS]
    refine tka 7 (some 18) hHeld ?_; try simp only [putS]
    refine tka 8 (some 19) hHeld ?_; try simp only [putS]
    refine tka 9 (some 20) hHeld ?_; try simp only [putS]
    refine tka 10 (some 21) hHeld ?_; try simp only [putS]
    refine tka 11 (some 22) hHeld ?_; try simp only [putS]
    refine tka 12 (some 23) hHeld ?_; try simp only [putS]
    refine wpAnyH_ready (rs := [13]) (by kernel_rfl) (by simp) ?_
    refine AllReadyH.cons (o := ⟨some 24, _, _, _, _, _⟩) rfl (fun K hK => ?_) AllReadyH.nil
    clear hHeld
    go_simp
    refine (K3.out _ hC2).mono ?_
    rintro e w3 ⟨rfl, hb3⟩
    have hC3 := hC2.trans (hb3.mono hC2.size)
    go_wp2_with fail
    refine hK.out _ _ (HSS.out _ hC3) (fun hHeld => ?_)
    clear hK K
    try simp only [putS]
    refine tka 14 (some 25) hHeld ?_; try simp only [putS]
    refine tka 15 (some 26) hHeld ?_; try simp only [putS]
    refine tka 16 (some 27) hHeld ?_; try simp only [putS]
    refine tka 17 (some 28) hHeld ?_; try simp only [putS]
    refine tks 18 (some 29) hHeld ?_; try simp only [putS]
    refine tks 19 (some 30) hHeld ?_; try simp only [putS]
    refine tks 20 (some 31) hHeld ?_; try simp only [putS]
    refine tks 21 (some 32) hHeld ?_; try simp only [putS]
    refine tka 22 (some 33) hHeld ?_; try simp only [putS]
    refine wpAnyH_done (by kernel_rfl) ?_ _
    clear hHeld
    go_wp2
    go_ret
    exact ⟨ret_bool (a := false) HN.out.symm, hB.trans (hC3.mono hB.size)⟩
  have HBK := Lib.hid (boxOk_2 (q := q) (v := true) H2.out HL.out (by simpa using e3))
  cases e1 : validPlan q p
  · have HN := Lib.hid (can_3 (m := m) (b := b) (u := u) e1)
    rw [e1] at K4
    clear e1
    refine wp_region_held_drew (S := fun w' => w'.rangeAt w.heap.size 0 csm ∧ w'.cell? ⟨w.heap.size + 1, 0, none⟩ = some (.int .i64 q.fVariableCount) ∧ w'.cell? ⟨w.heap.size + 1, 1, none⟩ = some (.slice AqAtoms nqAtoms cqAtoms) ∧ w'.cell? ⟨w.heap.size + 1 + 1, 0, none⟩ = some (.slice ApSteps npSteps cpSteps) ∧ w'.cell? ⟨w.heap.size + 1 + 1 + 1, 0, none⟩ = some (.slice AbLow nbLow cbLow) ∧ w'.cell? ⟨w.heap.size + 1 + 1 + 1, 1, none⟩ = some (.slice AbHigh nbHigh cbHigh)) (by kernel_rfl) ?_ (fun hHeld => ?_)
    · exact HSS.out _ (Below.refl _ _).drew
    refine' wpAnyH_take (i := 0) (oi := ⟨some 11,_,_,_,_,_⟩) (v := _) rfl (by kernel_rfl) (by kernel_rfl) (by kernel_rfl) (fun _ _ _ h => h) (yieldsIf_load_mid (by rfl) _ _ rfl _ _ rfl _ _ (fun w h => h.1) Try.underlying66 rfl (by rw [lenm']; exact sizeModel)) hHeld ?_
    simp only [putS]
    refine wpAnyH_ready (rs := [1]) (by kernel_rfl) (by simp) ?_
    refine AllReadyH.cons (o := ⟨some 12, _, _, _, _, _⟩) rfl (fun K hK => ?_) AllReadyH.nil
    clear hHeld
    go_simp
    refine (K1.out _ (Below.refl wb.heap.size wb).drew).mono ?_
    rintro e w1 ⟨rfl, hb1⟩
    have hC1 : Below wb.heap.size wb w1 := ((Below.refl wb.heap.size wb).drew.trans (hb1.mono (by simp)))
    go_wp2_with fail
    refine hK.out _ _ (HSS.out _ hC1) (fun hHeld => ?_)
    clear hK K
    try simp only [putS]
    refine tka 2 (some 13) hHeld ?_; try simp only [putS]
    refine tka 3 (some 14) hHeld ?_; try simp only [putS]
    refine tka 4 (some 15) hHeld ?_; try simp only [putS]
    refine wpAnyH_ready (rs := [5]) (by kernel_rfl) (by simp) ?_
    refine AllReadyH.cons (o := ⟨some 16, _, _, _, _, _⟩) rfl (fun K hK => ?_) AllReadyH.nil
    clear hHeld
    go_simp
    refine (K2.out _ hC1).mono ?_
    rintro e w2 ⟨rfl, hb2⟩
    have hC2 := hC1.trans (hb2.mono hC1.size)
    go_wp2_with fail
    refine hK.out _ _ (HSS.out _ hC2) (fun hHeld => ?_)
    clear hK K
    try simp only [putS]
    refine tka 6 (some 17) hHeld ?_; try simp only [putS]
    refine tka 7 (some 18) hHeld ?_; try simp only [putS]
    refine tka 8 (some 19) hHeld ?_; try simp only [putS]
    refine tka 9 (some 20) hHeld ?_; try simp only [putS]
    refine tka 10 (some 21) hHeld ?_; try simp only [putS]
    refine tka 11 (some 22) hHeld ?_; try simp only [putS]
    refine tka 12 (some 23) hHeld ?_; try simp only [putS]
    refine wpAnyH_ready (rs := [13]) (by kernel_rfl) (by simp) ?_
    refine AllReadyH.cons (o := ⟨some 24, _, _, _, _, _⟩) rfl (fun K hK => ?_) AllReadyH.nil
    clear hHeld
    go_simp
    refine (K3.out _ hC2).mono ?_
    rintro e w3 ⟨rfl, hb3⟩
    have hC3 := hC2.trans (hb3.mono hC2.size)
    go_wp2_with fail
    refine hK.out _ _ (HSS.out _ hC3) (fun hHeld => ?_)
    clear hK K
    try simp only [putS]
    refine tka 14 (some 25) hHeld ?_; try simp only [putS]
    refine tka 15 (some 26) hHeld ?_; try simp only [putS]
    refine tka 16 (some 27) hHeld ?_; try simp only [putS]
    refine tka 17 (some 28) hHeld ?_; try simp only [putS]
    refine tka 18 (some 29) hHeld ?_; try simp only [putS]
    refine tka 19 (some 30) hHeld ?_; try simp only [putS]
    refine wpAnyH_ready (rs := [20]) (by kernel_rfl) (by simp) ?_
    refine AllReadyH.cons (o := ⟨some 31, _, _, _, _, _⟩) rfl (fun K hK => ?_) AllReadyH.nil
    clear hHeld
    go_simp
    refine (K4.out _ hC3).mono ?_
    rintro e w4 ⟨rfl, hb4⟩
    have hC4 := hC3.trans (hb4.mono hC3.size)
    go_wp2_with fail
    refine hK.out _ _ (HSS.out _ hC4) (fun hHeld => ?_)
    clear hK K
    try simp only [putS]
    refine tka 21 (some 32) hHeld ?_; try simp only [putS]
    refine tka 22 (some 33) hHeld ?_; try simp only [putS]
    refine wpAnyH_done (by kernel_rfl) ?_ _
    clear hHeld
    go_wp2
    go_ret
    exact ⟨ret_bool (a := false) HN.out.symm, hB.trans (hC4.mono hB.size)⟩
  have HN := Lib.hid (can_4 (u := u) H1.out HBK.out e1)
  rw [e1] at K4
  clear e1
  refine wp_region_held_drew (S := fun w' => w'.rangeAt w.heap.size 0 csm ∧ w'.cell? ⟨w.heap.size + 1, 0, none⟩ = some (.int .i64 q.fVariableCount) ∧ w'.cell? ⟨w.heap.size + 1, 1, none⟩ = some (.slice AqAtoms nqAtoms cqAtoms) ∧ w'.cell? ⟨w.heap.size + 1 + 1, 0, none⟩ = some (.slice ApSteps npSteps cpSteps) ∧ w'.cell? ⟨w.heap.size + 1 + 1 + 1, 0, none⟩ = some (.slice AbLow nbLow cbLow) ∧ w'.cell? ⟨w.heap.size + 1 + 1 + 1, 1, none⟩ = some (.slice AbHigh nbHigh cbHigh)) (by kernel_rfl) ?_ (fun hHeld => ?_)
  · exact HSS.out _ (Below.refl _ _).drew
  refine' wpAnyH_take (i := 0) (oi := ⟨some 11,_,_,_,_,_⟩) (v := _) rfl (by kernel_rfl) (by kernel_rfl) (by kernel_rfl) (fun _ _ _ h => h) (yieldsIf_load_mid (by rfl) _ _ rfl _ _ rfl _ _ (fun w h => h.1) Try.underlying66 rfl (by rw [lenm']; exact sizeModel)) hHeld ?_
  simp only [putS]
  refine wpAnyH_ready (rs := [1]) (by kernel_rfl) (by simp) ?_
  refine AllReadyH.cons (o := ⟨some 12, _, _, _, _, _⟩) rfl (fun K hK => ?_) AllReadyH.nil
  clear hHeld
  go_simp
  refine (K1.out _ (Below.refl wb.heap.size wb).drew).mono ?_
  rintro e w1 ⟨rfl, hb1⟩
  have hC1 : Below wb.heap.size wb w1 := ((Below.refl wb.heap.size wb).drew.trans (hb1.mono (by simp)))
  go_wp2_with fail
  refine hK.out _ _ (HSS.out _ hC1) (fun hHeld => ?_)
  clear hK K
  try simp only [putS]
  refine tka 2 (some 13) hHeld ?_; try simp only [putS]
  refine tka 3 (some 14) hHeld ?_; try simp only [putS]
  refine tka 4 (some 15) hHeld ?_; try simp only [putS]
  refine wpAnyH_ready (rs := [5]) (by kernel_rfl) (by simp) ?_
  refine AllReadyH.cons (o := ⟨some 16, _, _, _, _, _⟩) rfl (fun K hK => ?_) AllReadyH.nil
  clear hHeld
  go_simp
  refine (K2.out _ hC1).mono ?_
  rintro e w2 ⟨rfl, hb2⟩
  have hC2 := hC1.trans (hb2.mono hC1.size)
  go_wp2_with fail
  refine hK.out _ _ (HSS.out _ hC2) (fun hHeld => ?_)
  clear hK K
  try simp only [putS]
  refine tka 6 (some 17) hHeld ?_; try simp only [putS]
  refine tka 7 (some 18) hHeld ?_; try simp only [putS]
  refine tka 8 (some 19) hHeld ?_; try simp only [putS]
  refine tka 9 (some 20) hHeld ?_; try simp only [putS]
  refine tka 10 (some 21) hHeld ?_; try simp only [putS]
  refine tka 11 (some 22) hHeld ?_; try simp only [putS]
  refine tka 12 (some 23) hHeld ?_; try simp only [putS]
  refine wpAnyH_ready (rs := [13]) (by kernel_rfl) (by simp) ?_
  refine AllReadyH.cons (o := ⟨some 24, _, _, _, _, _⟩) rfl (fun K hK => ?_) AllReadyH.nil
  clear hHeld
  go_simp
  refine (K3.out _ hC2).mono ?_
  rintro e w3 ⟨rfl, hb3⟩
  have hC3 := hC2.trans (hb3.mono hC2.size)
  go_wp2_with fail
  refine hK.out _ _ (HSS.out _ hC3) (fun hHeld => ?_)
  clear hK K
  try simp only [putS]
  refine tka 14 (some 25) hHeld ?_; try simp only [putS]
  refine tka 15 (some 26) hHeld ?_; try simp only [putS]
  refine tka 16 (some 27) hHeld ?_; try simp only [putS]
  refine tka 17 (some 28) hHeld ?_; try simp only [putS]
  refine tka 18 (some 29) hHeld ?_; try simp only [putS]
  refine tka 19 (some 30) hHeld ?_; try simp only [putS]
  refine wpAnyH_ready (rs := [20]) (by kernel_rfl) (by simp) ?_
  refine AllReadyH.cons (o := ⟨some 31, _, _, _, _, _⟩) rfl (fun K hK => ?_) AllReadyH.nil
  clear hHeld
  go_simp
  refine (K4.out _ hC3).mono ?_
  rintro e w4 ⟨rfl, hb4⟩
  have hC4 := hC3.trans (hb4.mono hC3.size)
  go_wp2_with fail
  refine hK.out _ _ (HSS.out _ hC4) (fun hHeld => ?_)
  clear hK K
  try simp only [putS]
  refine tka 21 (some 32) hHeld ?_; try simp only [putS]
  refine tka 22 (some 33) hHeld ?_; try simp only [putS]
  refine wpAnyH_done (by kernel_rfl) ?_ _
  clear hHeld
  have hB4 := hB.trans (hC4.mono hB.size)
  replace bxm := bxm.below hC4
  have kq_0 := (bxq.below hC4) 0 _ rfl
  have kq_1 := (bxq.below hC4) 1 _ rfl
  have kp_0 := (bxp.below hC4) 0 _ rfl
  have kb_0 := (bxb.below hC4) 0 _ rfl
  clear e3 K1 K2 K3 K4 HSS
  go_wp2_with (refine wpList_load_mid rfl 66 _ rfl w.heap.size 0 rfl csm _ bxm.range Try.underlying66 rfl (by rw [lenm']; exact sizeModel) ?_)
  refine (sPlanCostAt_c _ m _ q _ p _ _ _ b.fLow _ ((rModel_ok NB).keep rm (cells_below hB4)) ((rQuery_ok NB).keep rq (cells_below hB4)) ((rPlan_ok NB).keep rp (cells_below hB4)) (hbLow.below rInt_ok hB4)).mono ?_
  rintro e w5 ⟨rfl, hb5⟩
  generalize planCostAt m q p b.fLow = c at HN ⊢
  go_wp2
  go_ret
  exact ⟨ret_bool HN.out.symm, hB4.trans (hb5.mono hB4.size)⟩
end Go.Proofs.Ytpdccgnapgneaaa
