/-
  The laws' own marks: markX and heldX of every type. Printed by genmark.py.
-/
import Derived.Test.YtbipbinbehkjhaaMarkB
namespace Go.Proofs.Ytbipbinbehkjhaa
open Go.RowKit
set_option linter.unusedVariables false
set_option linter.unusedSimpArgs false

















































def cnt_Box (x : BoxD) : Nat := (cnt_IntS x.fLow) + (cnt_IntS x.fHigh)
def mk_Box (x : BoxD) (k : Int) : BoxD := ⟨(mk_IntS x.fLow k), (mk_IntS x.fHigh (k + ((cnt_IntS x.fLow) : Nat)))⟩
set_option maxRecDepth 100000 in
set_option maxHeartbeats 1600000 in
theorem markBox_m (cs : List Value) (x : BoxD) (k : Int) (w : World) (fp : List Nat) (h : (rBox NB).own w fp cs x) (nd : fp.Nodup) (h0 : 0 ≤ k) (h1 : k + (cnt_Box x : Nat) ≤ 4611686018427387904) :
    Calls Try.prog 25 #[.agg cs.toArray, .int .i64 k] w fun e w' => e = .returned (.int .i64 (k + (cnt_Box x : Nat))) ∧ (rBox NB).own w' fp cs (mk_Box x k) ∧ Chg fp w w' := by
  obtain ⟨ALow, nLow, cLow, AHigh, nHigh, cHigh, fLow, fHigh, rfl, hfp, hLow, hHigh⟩ := rBox_own.1 h
  clear h
  subst hfp
  unfold cnt_Box at h1 ⊢
  have hb0 := (Below.refl w.heap.size w).alloc (Nat.le_refl _) (.cells #[.slice ALow nLow cLow, .slice AHigh nHigh cHigh] 38)
  have bx := Bx.new w [.slice ALow nLow cLow, .slice AHigh nHigh cHigh] 38
  have hC : Chg (fLow ++ (fHigh)) w _ := Chg.ofBelow hb0 _
  have ltLow := hLow.lt rInt_ok
  have ltHigh := hHigh.lt rInt_ok
  replace hLow := hLow.belowS rInt_ok hb0
  replace hHigh := hHigh.belowS rInt_ok hb0
  have hbn : ∀ q ∈ (fLow ++ (fHigh)), q ≠ w.heap.size := by
    intro q hq
    try simp only [List.mem_append, List.append_nil] at hq
    have : q < w.heap.size := by grind
    omega
  have HN := Lib.hid hbn; clear hbn hb0 ltLow ltHigh
  have ND := Lib.hid nd; clear nd
  go_enter Try.func25, Try.ntmps25
  go_wp2_with fail
  have nd1 : fLow.Nodup := by have := ND.out; (try simp only [List.nodup_append, List.append_nil, List.nil_append] at this); grind
  refine (markIntS_m _ _ _ _ k _ _ hLow nd1 (by omega) (by omega)).mono ?_
  rintro e w1 ⟨rfl, o1, hc1⟩
  replace hHigh := hHigh.chg rInt_ok hc1 (fun q hq hq' => by have := ND.out; simp only [List.nodup_append, List.mem_append, List.append_nil, List.nil_append] at this hq'; grind)
  have hLow := o1
  replace bx := bx.chg hc1 (fun hq => HN.out _ (by (try simp only [List.mem_append, List.append_nil, List.nil_append] at hq ⊢); grind) rfl)
  replace hC := hC.trans (hc1.mono (by intro q hq; (try simp only [List.mem_append, List.append_nil, List.nil_append] at hq ⊢); grind))
  clear hc1 nd1
  obtain ⟨kk1, hkk1⟩ : ∃ q : Int, q = k + ((cnt_IntS x.fLow) : Nat) := ⟨_, rfl⟩
  rw [← hkk1]
  have HK1 := Lib.hid hkk1
  have bk1 : 0 ≤ kk1 := by omega
  have br1 : kk1 + ((0 + (cnt_IntS x.fHigh) : Nat) : Int) ≤ 4611686018427387904 := by omega
  clear hkk1
  clear h1
  have c2_0 := bx 0 _ rfl
  have c2_1 := bx 1 _ rfl
  go_wp2_with fail
  have nd2 : fHigh.Nodup := by have := ND.out; (try simp only [List.nodup_append, List.append_nil, List.nil_append] at this); grind
  refine (markIntS_m _ _ _ _ kk1 _ _ hHigh nd2 (by omega) (by omega)).mono ?_
  rintro e w2 ⟨rfl, o2, hc2⟩
  replace hLow := hLow.chg rInt_ok hc2 (fun q hq hq' => by have := ND.out; simp only [List.nodup_append, List.mem_append, List.append_nil, List.nil_append] at this hq'; grind)
  have hHigh := o2
  replace bx := bx.chg hc2 (fun hq => HN.out _ (by (try simp only [List.mem_append, List.append_nil, List.nil_append] at hq ⊢); grind) rfl)
  replace hC := hC.trans (hc2.mono (by intro q hq; (try simp only [List.mem_append, List.append_nil, List.nil_append] at hq ⊢); grind))
  clear hc2 nd2 c2_0 c2_1
  obtain ⟨kk2, hkk2⟩ : ∃ q : Int, q = kk1 + ((cnt_IntS x.fHigh) : Nat) := ⟨_, rfl⟩
  rw [← hkk2]
  have HK2 := Lib.hid hkk2
  have bk2 : 0 ≤ kk2 := by omega
  have br2 : kk2 + ((0 : Nat) : Int) ≤ 4611686018427387904 := by omega
  clear hkk2
  go_wp2
  go_ret
  refine ⟨ret_int (by have := HK1.out; have := HK2.out; omega), ?_, hC⟩
  have hm : mk_Box x k = ⟨(mk_IntS x.fLow k), (mk_IntS x.fHigh kk1)⟩ := by first | (unfold mk_Box; rw [HK1.out]; rfl) | (unfold mk_Box; rw [HK1.out]; done)
  rw [hm]
  exact ⟨fLow, _, [.slice ALow nLow cLow], _, rfl, rfl, ⟨ALow, nLow, cLow, rfl, hLow⟩, ⟨AHigh, nHigh, cHigh, rfl, hHigh⟩⟩

set_option maxRecDepth 100000 in
set_option maxHeartbeats 1600000 in
theorem heldBox_m (cs : List Value) (x : BoxD) (k : Int) (w : World) (h : (rBox NB).rep w cs (mk_Box x k)) (h0 : 0 ≤ k) (h1 : k + (cnt_Box x : Nat) ≤ 4611686018427387904) :
    Calls Try.prog 26 #[.agg cs.toArray, .int .i64 k] w fun e w' => e = .returned (.int .i64 (k + (cnt_Box x : Nat))) ∧ Below w.heap.size w w' := by
  obtain ⟨y, hy⟩ : ∃ y, y = mk_Box x k := ⟨_, rfl⟩
  rw [← hy] at h
  obtain ⟨ALow, nLow, cLow, AHigh, nHigh, cHigh, rfl, hLow, hHigh⟩ := rBox_rep.1 h
  have eyLow : y.fLow = (mk_IntS x.fLow k) := by rw [hy]; rfl
  rw [eyLow] at hLow
  have eyHigh : y.fHigh = (mk_IntS x.fHigh (k + ((cnt_IntS x.fLow) : Nat))) := by rw [hy]; rfl
  rw [eyHigh] at hHigh
  unfold cnt_Box at h1 ⊢
  have hB := (Below.refl w.heap.size w).alloc (Nat.le_refl _) (.cells #[.slice ALow nLow cLow, .slice AHigh nHigh cHigh] 38)
  have bx := Bx.new w [.slice ALow nLow cLow, .slice AHigh nHigh cHigh] 38
  have HY := Lib.hid hy; clear hy h
  go_enter Try.func26, Try.ntmps26
  go_wp2_with fail
  refine (heldIntS_m _ _ _ x.fLow k _ (hLow.below rInt_ok hB) (by omega) (by omega)).mono ?_
  rintro e w1 ⟨rfl, hb1⟩
  replace hB := hB.trans (hb1.mono hB.size)
  replace bx := bx.below hb1
  clear hb1
  obtain ⟨kk1, hkk1⟩ : ∃ q : Int, q = k + ((cnt_IntS x.fLow) : Nat) := ⟨_, rfl⟩
  rw [← hkk1]
  rw [← hkk1] at eyHigh
  rw [← hkk1] at hHigh
  have HK1 := Lib.hid hkk1
  have bk1 : 0 ≤ kk1 := by omega
  have br1 : kk1 + ((0 + (cnt_IntS x.fHigh) : Nat) : Int) ≤ 4611686018427387904 := by omega
  clear hkk1
  clear h1
  have c2_0 := bx 0 _ rfl
  have c2_1 := bx 1 _ rfl
  go_wp2_with fail
  refine (heldIntS_m _ _ _ x.fHigh kk1 _ (hHigh.below rInt_ok hB) (by omega) (by omega)).mono ?_
  rintro e w2 ⟨rfl, hb2⟩
  replace hB := hB.trans (hb2.mono hB.size)
  replace bx := bx.below hb2
  clear hb2 c2_0 c2_1
  obtain ⟨kk2, hkk2⟩ : ∃ q : Int, q = kk1 + ((cnt_IntS x.fHigh) : Nat) := ⟨_, rfl⟩
  rw [← hkk2]
  have HK2 := Lib.hid hkk2
  have bk2 : 0 ≤ kk2 := by omega
  have br2 : kk2 + ((0 : Nat) : Int) ≤ 4611686018427387904 := by omega
  clear hkk2
  go_wp2
  go_ret
  exact ⟨ret_int (by have := HK1.out; have := HK2.out; omega), hB⟩







def cntE_PlanStep (x : PlanStepD) : Nat := 1 + 1 + 1
def mkE_PlanStep (x : PlanStepD) (k : Int) : PlanStepD := ⟨k, (k + 1), ((k + 1) + 1)⟩
def cnt_PlanStepS (l : List PlanStepD) : Nat := cntS cntE_PlanStep l
def mk_PlanStepS (l : List PlanStepD) (k : Int) : List PlanStepD := mkS mkE_PlanStep cntE_PlanStep l k
set_option maxRecDepth 100000 in
set_option maxHeartbeats 1600000 in
theorem markPlanStepS_m (A : Option Addr) (n cap : Nat) (l : List PlanStepD) (k : Int) (w : World) (fp : List Nat) (h : OS NB 158 (rPlanStep NB) w fp A n cap l) (nd : fp.Nodup) (h0 : 0 ≤ k) (h1 : k + (cnt_PlanStepS l : Nat) ≤ 4611686018427387904) :
    Calls Try.prog 104 #[.slice A n cap, .int .i64 k] w fun e w' => e = .returned (.int .i64 (k + (cnt_PlanStepS l : Nat))) ∧ OS NB 158 (rPlanStep NB) w' fp A n cap (mk_PlanStepS l k) ∧ Chg fp w w' := by
  have hn : n ≤ 4294967296 := h.nb
  have HL := Lib.hid h.len
  have H1 : Hid (k + (cntS cntE_PlanStep l : Nat) ≤ 4611686018427387904) := h1
  clear h1
  go_enter Try.func104, Try.ntmps104
  go_wp2
  go_loopw [1, 5] (fun kv iv wr => ∃ (j : Nat) (kk : Int), j ≤ n ∧ iv = .int .i64 j ∧ kv = .int .i64 kk ∧ kk = k + (cntS cntE_PlanStep (l.take j) : Nat) ∧ OS NB 158 (rPlanStep NB) wr fp A n cap (mkP mkE_PlanStep cntE_PlanStep l k j) ∧ Chg fp w wr) (fun _ iv _ => n - (intOf iv).toNat)
  case atStart => exact ⟨0, k, Nat.zero_le _, rfl, rfl, by simp [cntS], by rw [mkP_zero]; exact h, Chg.refl _ _⟩
  case round =>
    clear h
    obtain ⟨j, kk, hj, rfl, rfl, hkk, hO, hC⟩ := hrel
    have HK := Lib.hid hkk; clear hkk
    by_cases hlt : j < n
    · obtain ⟨g, f, c, x, xs, rfl, hx, ho, hfnd, hgf, hgfp, hsub, hE, hput⟩ := hO.elem (rPlanStep_ok NB) nd hlt
      have HX : Hid (l[j]? = some x) := by have := hx.out; rwa [mkP_at] at this
      clear hx
      have hb1 : cntS cntE_PlanStep (l.take j) + cntE_PlanStep x ≤ cntS cntE_PlanStep l := by rw [← cntS_snoc _ HX.out]; exact cntS_take_le _ _ _
      have b0 : 0 ≤ kk := by have := HK.out; omega
      have b1 : kk + (cntE_PlanStep x : Nat) ≤ 4611686018427387904 := by have := HK.out; have := H1.out; omega
      clear hb1
      obtain ⟨rfl, hfp, hKind, hAtom, hOrder⟩ := rPlanStep_own.1 ho
      subst hfp
      unfold cntE_PlanStep at b1
      clear hO
      have qa0 : wr.cell? ⟨g, j * 3, none⟩ = some (.int .i64 x.fKind) := by simpa [rPlanStep_size] using hE.cell hlt (t := 0) rfl
      have qa1 : wr.cell? ⟨g, j * 3 + 1, none⟩ = some (.int .i64 x.fAtom) := by simpa [rPlanStep_size] using hE.cell hlt (t := 1) rfl
      have qa2 : wr.cell? ⟨g, j * 3 + 2, none⟩ = some (.int .i64 x.fOrder) := by simpa [rPlanStep_size] using hE.cell hlt (t := 2) rfl
      have qfa := hE.frozen
      have qga := hE.lt
      go_wp2
      go_roundw
      case rel =>
        refine ⟨j + 1, (((kk + 1) + 1) + 1), by omega, by go_num, by go_num, ?_, ?_, ?_⟩
        · rw [cntS_snoc _ HX.out]; have := HK.out; have : cntE_PlanStep x = 1 + 1 + 1 := rfl; omega
        · rw [← mkP_set mkE_PlanStep cntE_PlanStep k HX.out, ← HK.out]
          have hm : mkE_PlanStep x kk = ⟨kk, (kk + 1), ((kk + 1) + 1)⟩ := by first | (unfold mkE_PlanStep; rfl) | (unfold mkE_PlanStep; rfl) | (unfold mkE_PlanStep; done)
          rw [hm]
          exact hput.out _ _ _ (Chg.trans (Chg.refl (g :: _) wr) (Chg.mono (fp := [g]) (by repeat' (first | with_reducible exact Chg.refl _ _ | with_reducible refine Chg.setCell ?_ ?_ _ _ | with_reducible refine Chg.alloc ?_ _ | (simp; done))) (by simp))) (((hE.store 0 (by decide) (.int .i64 kk)).store 1 (by decide) (.int .i64 (kk + 1))).store 2 (by decide) (.int .i64 ((kk + 1) + 1))) (rPlanStep_own.2 ⟨rfl, (by simp), ⟨by dsimp only; omega, by dsimp only; omega⟩, ⟨by dsimp only; omega, by dsimp only; omega⟩, ⟨by dsimp only; omega, by dsimp only; omega⟩⟩)
        · exact hC.trans (Chg.mono (fp := g :: ([])) (Chg.trans (Chg.refl (g :: _) wr) (Chg.mono (fp := [g]) (by repeat' (first | with_reducible exact Chg.refl _ _ | with_reducible refine Chg.setCell ?_ ?_ _ _ | with_reducible refine Chg.alloc ?_ _ | (simp; done))) (by simp))) (by intro k hk; rcases List.mem_cons.1 hk with rfl | hk; exact hgfp; exact hsub k hk))
      case measure => simp [intOf]; omega
    · go_wp2
      go_ret
      have hl : ¬ j < l.length := by rw [HL.out]; exact hlt
      exact ⟨ret_int (by rw [HK.out, List.take_of_length_le (by omega)]; rfl), by rw [mkP_all mkE_PlanStep cntE_PlanStep l k hl] at hO; exact hO, hC⟩

set_option maxRecDepth 100000 in
set_option maxHeartbeats 1600000 in
theorem heldPlanStepS_m (A : Option Addr) (n cap : Nat) (l : List PlanStepD) (k : Int) (w : World) (hr : RS NB (rPlanStep NB) w A n cap (mk_PlanStepS l k)) (h0 : 0 ≤ k) (h1 : k + (cnt_PlanStepS l : Nat) ≤ 4611686018427387904) :
    Calls Try.prog 105 #[.slice A n cap, .int .i64 k] w fun e w' => e = .returned (.int .i64 (k + (cnt_PlanStepS l : Nat))) ∧ Below w.heap.size w w' := by
  have hn := hr.bound
  have HL : Hid (l.length = n) := by have := hr.len; rwa [mk_PlanStepS, mkS_length] at this
  have H1 : Hid (k + (cntS cntE_PlanStep l : Nat) ≤ 4611686018427387904) := h1
  clear h1
  go_enter Try.func105, Try.ntmps105
  go_wp2
  go_loopw [1, 5] (fun kv iv wr => ∃ (j : Nat) (kk : Int), j ≤ n ∧ iv = .int .i64 j ∧ kv = .int .i64 kk ∧ kk = k + (cntS cntE_PlanStep (l.take j) : Nat) ∧ Below w.heap.size w wr) (fun _ iv _ => n - (intOf iv).toNat)
  case atStart => exact ⟨0, k, Nat.zero_le _, rfl, rfl, by simp [cntS], Below.refl _ _⟩
  case round =>
    obtain ⟨j, kk, hj, rfl, rfl, hkk, hB⟩ := hrel
    have HK := Lib.hid hkk; clear hkk
    by_cases hlt : j < n
    · have hx0 : l[j]? = some (l[j]'(by rw [HL.out]; exact hlt)) := List.getElem?_eq_getElem (by rw [HL.out]; exact hlt)
      obtain ⟨x, hx⟩ : ∃ x, l[j]? = some x := ⟨_, hx0⟩
      clear hx0
      have HX := Lib.hid hx; clear hx
      have hb1 : cntS cntE_PlanStep (l.take j) + cntE_PlanStep x ≤ cntS cntE_PlanStep l := by rw [← cntS_snoc _ HX.out]; exact cntS_take_le _ _ _
      have b0 : 0 ≤ kk := by have := HK.out; omega
      have b1 : kk + (cntE_PlanStep x : Nat) ≤ 4611686018427387904 := by have := HK.out; have := H1.out; omega
      clear hb1
      obtain ⟨b, off, y, cs, rfl, hrep, hcell, hy⟩ := (hr.below (rPlanStep_ok NB) hB).at_ hlt
      obtain rfl : y = mkE_PlanStep x kk := by have h2 := hy.out; rw [mk_PlanStepS, mkS_at _ _ _ HX.out, ← HK.out] at h2; injection h2 with h2; exact h2.symm
      clear hy
      obtain ⟨y, hy⟩ : ∃ y, y = mkE_PlanStep x kk := ⟨_, rfl⟩
      rw [← hy] at hrep
      obtain ⟨rfl, hKind, hAtom, hOrder⟩ := rPlanStep_rep.1 hrep
      have ey0 : y.fKind = kk := by rw [hy]; rfl
      have ey1 : y.fAtom = (kk + 1) := by rw [hy]; rfl
      have ey2 : y.fOrder = ((kk + 1) + 1) := by rw [hy]; rfl
      unfold cntE_PlanStep at b1
      clear hy hrep
      have q0 : wr.cell? ⟨b, off + j * 3, none⟩ = some (.int .i64 y.fKind) := by simpa [rPlanStep_size] using hcell 0 _ rfl
      have q1 : wr.cell? ⟨b, off + j * 3 + 1, none⟩ = some (.int .i64 y.fAtom) := by simpa [rPlanStep_size] using hcell 1 _ rfl
      have q2 : wr.cell? ⟨b, off + j * 3 + 2, none⟩ = some (.int .i64 y.fOrder) := by simpa [rPlanStep_size] using hcell 2 _ rfl
      rw [ey0] at q0
      rw [ey1] at q1
      rw [ey2] at q2
      clear hcell ey0 ey1 ey2
      have hB0 := hB
      have d0 : ((kk) != (kk)) = false := by simp
      have d1 : (((kk + 1)) != ((kk + 1))) = false := by simp
      have d2 : ((((kk + 1) + 1)) != (((kk + 1) + 1))) = false := by simp
      go_wp2
      go_roundw
      case rel => exact ⟨j + 1, (((kk + 1) + 1) + 1), by omega, by go_num, by go_num, by rw [cntS_snoc _ HX.out]; have := HK.out; have : cntE_PlanStep x = 1 + 1 + 1 := rfl; omega, hB0⟩
      case measure => simp [intOf]; omega
    · go_wp2
      go_ret
      have hl : ¬ j < l.length := by rw [HL.out]; exact hlt
      exact ⟨ret_int (by rw [HK.out, List.take_of_length_le (by omega)]; rfl), hB⟩

def cnt_Plan (x : PlanD) : Nat := (cnt_PlanStepS x.fSteps)
def mk_Plan (x : PlanD) (k : Int) : PlanD := ⟨(mk_PlanStepS x.fSteps k)⟩
set_option maxRecDepth 100000 in
set_option maxHeartbeats 1600000 in
theorem markPlan_m (cs : List Value) (x : PlanD) (k : Int) (w : World) (fp : List Nat) (h : (rPlan NB).own w fp cs x) (nd : fp.Nodup) (h0 : 0 ≤ k) (h1 : k + (cnt_Plan x : Nat) ≤ 4611686018427387904) :
    Calls Try.prog 57 #[.agg cs.toArray, .int .i64 k] w fun e w' => e = .returned (.int .i64 (k + (cnt_Plan x : Nat))) ∧ (rPlan NB).own w' fp cs (mk_Plan x k) ∧ Chg fp w w' := by
  obtain ⟨ASteps, nSteps, cSteps, fSteps, rfl, hfp, hSteps⟩ := rPlan_own.1 h
  clear h
  replace hfp := hfp.symm; subst hfp
  unfold cnt_Plan at h1 ⊢
  have hb0 := (Below.refl w.heap.size w).alloc (Nat.le_refl _) (.cells #[.slice ASteps nSteps cSteps] 87)
  have bx := Bx.new w [.slice ASteps nSteps cSteps] 87
  have hC : Chg (fSteps) w _ := Chg.ofBelow hb0 _
  have ltSteps := hSteps.lt (rPlanStep_ok NB)
  replace hSteps := hSteps.belowS (rPlanStep_ok NB) hb0
  have hbn : ∀ q ∈ (fSteps), q ≠ w.heap.size := by
    intro q hq
    try simp only [List.mem_append, List.append_nil] at hq
    have : q < w.heap.size := by grind
    omega
  have HN := Lib.hid hbn; clear hbn hb0 ltSteps
  have ND := Lib.hid nd; clear nd
  go_enter Try.func57, Try.ntmps57
  go_wp2_with fail
  have nd1 : fSteps.Nodup := by have := ND.out; (try simp only [List.nodup_append, List.append_nil, List.nil_append] at this); grind
  refine (markPlanStepS_m _ _ _ _ k _ _ hSteps nd1 (by omega) (by omega)).mono ?_
  rintro e w1 ⟨rfl, o1, hc1⟩
  have hSteps := o1
  replace bx := bx.chg hc1 (fun hq => HN.out _ (by (try simp only [List.mem_append, List.append_nil, List.nil_append] at hq ⊢); grind) rfl)
  replace hC := hC.trans (hc1.mono (by intro q hq; (try simp only [List.mem_append, List.append_nil, List.nil_append] at hq ⊢); grind))
  clear hc1 nd1
  obtain ⟨kk1, hkk1⟩ : ∃ q : Int, q = k + ((cnt_PlanStepS x.fSteps) : Nat) := ⟨_, rfl⟩
  rw [← hkk1]
  have HK1 := Lib.hid hkk1
  have bk1 : 0 ≤ kk1 := by omega
  have br1 : kk1 + ((0 : Nat) : Int) ≤ 4611686018427387904 := by omega
  clear hkk1
  clear h1
  go_wp2
  go_ret
  refine ⟨ret_int (by have := HK1.out; omega), ?_, hC⟩
  have hm : mk_Plan x k = ⟨(mk_PlanStepS x.fSteps k)⟩ := by first | (unfold mk_Plan; rfl) | (unfold mk_Plan; done)
  rw [hm]
  exact ⟨ASteps, nSteps, cSteps, rfl, hSteps⟩

set_option maxRecDepth 100000 in
set_option maxHeartbeats 1600000 in
theorem heldPlan_m (cs : List Value) (x : PlanD) (k : Int) (w : World) (h : (rPlan NB).rep w cs (mk_Plan x k)) (h0 : 0 ≤ k) (h1 : k + (cnt_Plan x : Nat) ≤ 4611686018427387904) :
    Calls Try.prog 58 #[.agg cs.toArray, .int .i64 k] w fun e w' => e = .returned (.int .i64 (k + (cnt_Plan x : Nat))) ∧ Below w.heap.size w w' := by
  obtain ⟨y, hy⟩ : ∃ y, y = mk_Plan x k := ⟨_, rfl⟩
  rw [← hy] at h
  obtain ⟨ASteps, nSteps, cSteps, rfl, hSteps⟩ := rPlan_rep.1 h
  have eySteps : y.fSteps = (mk_PlanStepS x.fSteps k) := by rw [hy]; rfl
  rw [eySteps] at hSteps
  unfold cnt_Plan at h1 ⊢
  have hB := (Below.refl w.heap.size w).alloc (Nat.le_refl _) (.cells #[.slice ASteps nSteps cSteps] 87)
  have bx := Bx.new w [.slice ASteps nSteps cSteps] 87
  have HY := Lib.hid hy; clear hy h
  go_enter Try.func58, Try.ntmps58
  go_wp2_with fail
  refine (heldPlanStepS_m _ _ _ x.fSteps k _ (hSteps.below (rPlanStep_ok NB) hB) (by omega) (by omega)).mono ?_
  rintro e w1 ⟨rfl, hb1⟩
  replace hB := hB.trans (hb1.mono hB.size)
  replace bx := bx.below hb1
  clear hb1
  obtain ⟨kk1, hkk1⟩ : ∃ q : Int, q = k + ((cnt_PlanStepS x.fSteps) : Nat) := ⟨_, rfl⟩
  rw [← hkk1]
  have HK1 := Lib.hid hkk1
  have bk1 : 0 ≤ kk1 := by omega
  have br1 : kk1 + ((0 : Nat) : Int) ≤ 4611686018427387904 := by omega
  clear hkk1
  clear h1
  go_wp2
  go_ret
  exact ⟨ret_int (by have := HK1.out; omega), hB⟩

def cntE_Plan (x : PlanD) : Nat := (cnt_PlanStepS x.fSteps)
def mkE_Plan (x : PlanD) (k : Int) : PlanD := ⟨(mk_PlanStepS x.fSteps k)⟩
def cnt_PlanS (l : List PlanD) : Nat := cntS cntE_Plan l
def mk_PlanS (l : List PlanD) (k : Int) : List PlanD := mkS mkE_Plan cntE_Plan l k
set_option maxRecDepth 100000 in
set_option maxHeartbeats 1600000 in
theorem markPlanS_m (A : Option Addr) (n cap : Nat) (l : List PlanD) (k : Int) (w : World) (fp : List Nat) (h : OS NB 87 (rPlan NB) w fp A n cap l) (nd : fp.Nodup) (h0 : 0 ≤ k) (h1 : k + (cnt_PlanS l : Nat) ≤ 4611686018427387904) :
    Calls Try.prog 103 #[.slice A n cap, .int .i64 k] w fun e w' => e = .returned (.int .i64 (k + (cnt_PlanS l : Nat))) ∧ OS NB 87 (rPlan NB) w' fp A n cap (mk_PlanS l k) ∧ Chg fp w w' := by
  have hn : n ≤ 4294967296 := h.nb
  have HL := Lib.hid h.len
  have H1 : Hid (k + (cntS cntE_Plan l : Nat) ≤ 4611686018427387904) := h1
  clear h1
  go_enter Try.func103, Try.ntmps103
  go_wp2
  go_loopw [1, 5] (fun kv iv wr => ∃ (j : Nat) (kk : Int), j ≤ n ∧ iv = .int .i64 j ∧ kv = .int .i64 kk ∧ kk = k + (cntS cntE_Plan (l.take j) : Nat) ∧ OS NB 87 (rPlan NB) wr fp A n cap (mkP mkE_Plan cntE_Plan l k j) ∧ Chg fp w wr) (fun _ iv _ => n - (intOf iv).toNat)
  case atStart => exact ⟨0, k, Nat.zero_le _, rfl, rfl, by simp [cntS], by rw [mkP_zero]; exact h, Chg.refl _ _⟩
  case round =>
    clear h
    obtain ⟨j, kk, hj, rfl, rfl, hkk, hO, hC⟩ := hrel
    have HK := Lib.hid hkk; clear hkk
    by_cases hlt : j < n
    · obtain ⟨g, f, c, x, xs, rfl, hx, ho, hfnd, hgf, hgfp, hsub, hE, hput⟩ := hO.elem (rPlan_ok NB) nd hlt
      have HX : Hid (l[j]? = some x) := by have := hx.out; rwa [mkP_at] at this
      clear hx
      have hb1 : cntS cntE_Plan (l.take j) + cntE_Plan x ≤ cntS cntE_Plan l := by rw [← cntS_snoc _ HX.out]; exact cntS_take_le _ _ _
      have b0 : 0 ≤ kk := by have := HK.out; omega
      have b1 : kk + (cntE_Plan x : Nat) ≤ 4611686018427387904 := by have := HK.out; have := H1.out; omega
      clear hb1
      obtain ⟨ASteps, nSteps, cSteps, fSteps, rfl, hfp, hSteps⟩ := rPlan_own.1 ho
      try simp only [List.append_nil, List.nil_append] at hfp
      replace hfp := hfp.symm; subst hfp
      unfold cntE_Plan at b1
      clear hO
      have qa0 : wr.cell? ⟨g, j, none⟩ = some (.slice ASteps nSteps cSteps) := by simpa [rPlan_size] using hE.cell hlt (t := 0) rfl
      have qfa := hE.frozen
      have qga := hE.lt
      go_wp2_with fail
      have hs1 := hSteps
      have nd1 : fSteps.Nodup := hfnd
      refine (markPlanStepS_m _ _ _ _ kk _ _ hs1 nd1 (by omega) (by omega)).mono ?_
      rintro e w1 ⟨rfl, ho1, hcc1⟩
      have hgn1 : g ∉ fSteps := fun hk => hgf (by simp [hk])
      have hE1 := ElemAt.keep hE (hcc1.block g hE.lt hgn1)
      have hG1 : Chg (g :: (fSteps)) wr w1 := Chg.trans (Chg.refl (g :: _) wr) (Chg.trans (Chg.refl _ _) (hcc1.mono (by intro k hk; simp [hk])))
      clear qa0 qfa qga hcc1
      have q10 : w1.cell? ⟨g, j, none⟩ = some (.slice ASteps nSteps cSteps) := by simpa [rPlan_size] using hE1.cell hlt (t := 0) rfl
      have qf1 := hE1.frozen
      have qg1 := hE1.lt
      obtain ⟨kk1, hkk1⟩ : ∃ q : Int, q = kk + ((cnt_PlanStepS x.fSteps) : Nat) := ⟨_, rfl⟩
      rw [← hkk1]
      have HK1 := Lib.hid hkk1
      have bk1 : 0 ≤ kk1 := by omega
      have bb1 : kk1 ≤ 4611686018427387904 := by omega
      have br1 : kk1 + ((0 : Nat) : Int) ≤ 4611686018427387904 := by omega
      clear hkk1
      clear b1
      go_wp2
      go_roundw
      case rel =>
        refine ⟨j + 1, kk1, by omega, by go_num, by go_num, ?_, ?_, ?_⟩
        · rw [cntS_snoc _ HX.out]; have := HK.out; have := HK1.out; have : cntE_Plan x = (cnt_PlanStepS x.fSteps) := rfl; omega
        · rw [← mkP_set mkE_Plan cntE_Plan k HX.out, ← HK.out]
          have hm : mkE_Plan x kk = ⟨(mk_PlanStepS x.fSteps kk)⟩ := by first | (unfold mkE_Plan; rfl) | (unfold mkE_Plan; rw [HK1.out]; rfl) | (unfold mkE_Plan; rw [HK1.out]; done)
          rw [hm]
          exact hput.out _ _ _ (hG1) hE1 (rPlan_own.2 ⟨ASteps, nSteps, cSteps, fSteps, rfl, (by simp), ho1⟩)
        · exact hC.trans (Chg.mono (fp := g :: (fSteps)) (hG1) (by intro k hk; rcases List.mem_cons.1 hk with rfl | hk; exact hgfp; exact hsub k hk))
      case measure => simp [intOf]; omega
    · go_wp2
      go_ret
      have hl : ¬ j < l.length := by rw [HL.out]; exact hlt
      exact ⟨ret_int (by rw [HK.out, List.take_of_length_le (by omega)]; rfl), by rw [mkP_all mkE_Plan cntE_Plan l k hl] at hO; exact hO, hC⟩












def cnt_Space (x : SpaceD) : Nat := (cnt_Box x.fBox) + (cnt_IntS x.fCosts) + (cnt_IntS x.fChoices) + (cnt_PlanS x.fPlans)
def mk_Space (x : SpaceD) (k : Int) : SpaceD := ⟨(mk_Box x.fBox k), (mk_IntS x.fCosts (k + ((cnt_Box x.fBox) : Nat))), (mk_IntS x.fChoices ((k + ((cnt_Box x.fBox) : Nat)) + ((cnt_IntS x.fCosts) : Nat))), (mk_PlanS x.fPlans (((k + ((cnt_Box x.fBox) : Nat)) + ((cnt_IntS x.fCosts) : Nat)) + ((cnt_IntS x.fChoices) : Nat)))⟩
set_option maxRecDepth 100000 in
set_option maxHeartbeats 1600000 in
theorem markSpace_m (cs : List Value) (x : SpaceD) (k : Int) (w : World) (fp : List Nat) (h : (rSpace NB).own w fp cs x) (nd : fp.Nodup) (h0 : 0 ≤ k) (h1 : k + (cnt_Space x : Nat) ≤ 4611686018427387904) :
    Calls Try.prog 55 #[.agg cs.toArray, .int .i64 k] w fun e w' => e = .returned (.int .i64 (k + (cnt_Space x : Nat))) ∧ (rSpace NB).own w' fp cs (mk_Space x k) ∧ Chg fp w w' := by
  obtain ⟨ABoxLow, nBoxLow, cBoxLow, ABoxHigh, nBoxHigh, cBoxHigh, ACosts, nCosts, cCosts, AChoices, nChoices, cChoices, APlans, nPlans, cPlans, fBoxLow, fBoxHigh, fCosts, fChoices, fPlans, rfl, hfp, hBoxLow, hBoxHigh, hCosts, hChoices, hPlans⟩ := rSpace_own.1 h
  clear h
  subst hfp
  unfold cnt_Space at h1 ⊢
  have hb0 := (Below.refl w.heap.size w).alloc (Nat.le_refl _) (.cells #[.slice ABoxLow nBoxLow cBoxLow, .slice ABoxHigh nBoxHigh cBoxHigh, .slice ACosts nCosts cCosts, .slice AChoices nChoices cChoices, .slice APlans nPlans cPlans] 81)
  have bx := Bx.new w [.slice ABoxLow nBoxLow cBoxLow, .slice ABoxHigh nBoxHigh cBoxHigh, .slice ACosts nCosts cCosts, .slice AChoices nChoices cChoices, .slice APlans nPlans cPlans] 81
  have hC : Chg ((fBoxLow ++ (fBoxHigh)) ++ (fCosts ++ (fChoices ++ (fPlans)))) w _ := Chg.ofBelow hb0 _
  have ltBoxLow := hBoxLow.lt rInt_ok
  have ltBoxHigh := hBoxHigh.lt rInt_ok
  have ltCosts := hCosts.lt rInt_ok
  have ltChoices := hChoices.lt rInt_ok
  have ltPlans := hPlans.lt (rPlan_ok NB)
  replace hBoxLow := hBoxLow.belowS rInt_ok hb0
  replace hBoxHigh := hBoxHigh.belowS rInt_ok hb0
  replace hCosts := hCosts.belowS rInt_ok hb0
  replace hChoices := hChoices.belowS rInt_ok hb0
  replace hPlans := hPlans.belowS (rPlan_ok NB) hb0
  have hbn : ∀ q ∈ ((fBoxLow ++ (fBoxHigh)) ++ (fCosts ++ (fChoices ++ (fPlans)))), q ≠ w.heap.size := by
    intro q hq
    try simp only [List.mem_append, List.append_nil] at hq
    have : q < w.heap.size := by grind
    omega
  have HN := Lib.hid hbn; clear hbn hb0 ltBoxLow ltBoxHigh ltCosts ltChoices ltPlans
  have ND := Lib.hid nd; clear nd
  go_enter Try.func55, Try.ntmps55
  go_wp2_with fail
  have nd1 : (fBoxLow ++ (fBoxHigh)).Nodup := by have := ND.out; simp only [List.nodup_append, List.mem_append, List.append_nil, List.nil_append] at this ⊢; grind
  refine (markBox_m _ x.fBox k _ (fBoxLow ++ (fBoxHigh)) (rBox_own.2 ⟨ABoxLow, nBoxLow, cBoxLow, ABoxHigh, nBoxHigh, cBoxHigh, fBoxLow, fBoxHigh, rfl, rfl, hBoxLow, hBoxHigh⟩) nd1 (by omega) (by omega)).mono ?_
  rintro e w1 ⟨rfl, o1, hc1⟩
  replace hCosts := hCosts.chg rInt_ok hc1 (fun q hq hq' => by have := ND.out; simp only [List.nodup_append, List.mem_append, List.append_nil, List.nil_append] at this hq'; grind)
  replace hChoices := hChoices.chg rInt_ok hc1 (fun q hq hq' => by have := ND.out; simp only [List.nodup_append, List.mem_append, List.append_nil, List.nil_append] at this hq'; grind)
  replace hPlans := hPlans.chg (rPlan_ok NB) hc1 (fun q hq hq' => by have := ND.out; simp only [List.nodup_append, List.mem_append, List.append_nil, List.nil_append] at this hq'; grind)
  replace bx := bx.chg hc1 (fun hq => HN.out _ (by (try simp only [List.mem_append, List.append_nil, List.nil_append] at hq ⊢); grind) rfl)
  replace hC := hC.trans (hc1.mono (by intro q hq; (try simp only [List.mem_append, List.append_nil, List.nil_append] at hq ⊢); grind))
  clear hc1 nd1
  obtain ⟨kk1, hkk1⟩ : ∃ q : Int, q = k + ((cnt_Box x.fBox) : Nat) := ⟨_, rfl⟩
  rw [← hkk1]
  have HK1 := Lib.hid hkk1
  have bk1 : 0 ≤ kk1 := by omega
  have br1 : kk1 + ((0 + (cnt_IntS x.fCosts) + (cnt_IntS x.fChoices) + (cnt_PlanS x.fPlans) : Nat) : Int) ≤ 4611686018427387904 := by omega
  clear hkk1
  clear h1
  have c2_0 := bx 0 _ rfl
  have c2_1 := bx 1 _ rfl
  have c2_2 := bx 2 _ rfl
  have c2_3 := bx 3 _ rfl
  have c2_4 := bx 4 _ rfl
  go_wp2_with fail
  have nd2 : fCosts.Nodup := by have := ND.out; (try simp only [List.nodup_append, List.append_nil, List.nil_append] at this); grind
  refine (markIntS_m _ _ _ _ kk1 _ _ hCosts nd2 (by omega) (by omega)).mono ?_
  rintro e w2 ⟨rfl, o2, hc2⟩
  replace o1 := (rBox_ok NB).ownC o1 hc2 (fun q hq hq' => by have := ND.out; simp only [List.nodup_append, List.mem_append, List.append_nil, List.nil_append] at this hq hq'; grind)
  replace hChoices := hChoices.chg rInt_ok hc2 (fun q hq hq' => by have := ND.out; simp only [List.nodup_append, List.mem_append, List.append_nil, List.nil_append] at this hq'; grind)
  replace hPlans := hPlans.chg (rPlan_ok NB) hc2 (fun q hq hq' => by have := ND.out; simp only [List.nodup_append, List.mem_append, List.append_nil, List.nil_append] at this hq'; grind)
  have hCosts := o2
  replace bx := bx.chg hc2 (fun hq => HN.out _ (by (try simp only [List.mem_append, List.append_nil, List.nil_append] at hq ⊢); grind) rfl)
  replace hC := hC.trans (hc2.mono (by intro q hq; (try simp only [List.mem_append, List.append_nil, List.nil_append] at hq ⊢); grind))
  clear hc2 nd2 c2_0 c2_1 c2_2 c2_3 c2_4
  obtain ⟨kk2, hkk2⟩ : ∃ q : Int, q = kk1 + ((cnt_IntS x.fCosts) : Nat) := ⟨_, rfl⟩
  rw [← hkk2]
  have HK2 := Lib.hid hkk2
  have bk2 : 0 ≤ kk2 := by omega
  have br2 : kk2 + ((0 + (cnt_IntS x.fChoices) + (cnt_PlanS x.fPlans) : Nat) : Int) ≤ 4611686018427387904 := by omega
  clear hkk2
  have c3_0 := bx 0 _ rfl
  have c3_1 := bx 1 _ rfl
  have c3_2 := bx 2 _ rfl
  have c3_3 := bx 3 _ rfl
  have c3_4 := bx 4 _ rfl
  go_wp2_with fail
  have nd3 : fChoices.Nodup := by have := ND.out; (try simp only [List.nodup_append, List.append_nil, List.nil_append] at this); grind
  refine (markIntS_m _ _ _ _ kk2 _ _ hChoices nd3 (by omega) (by omega)).mono ?_
  rintro e w3 ⟨rfl, o3, hc3⟩
  replace o1 := (rBox_ok NB).ownC o1 hc3 (fun q hq hq' => by have := ND.out; simp only [List.nodup_append, List.mem_append, List.append_nil, List.nil_append] at this hq hq'; grind)
  replace hCosts := hCosts.chg rInt_ok hc3 (fun q hq hq' => by have := ND.out; simp only [List.nodup_append, List.mem_append, List.append_nil, List.nil_append] at this hq'; grind)
  replace hPlans := hPlans.chg (rPlan_ok NB) hc3 (fun q hq hq' => by have := ND.out; simp only [List.nodup_append, List.mem_append, List.append_nil, List.nil_append] at this hq'; grind)
  have hChoices := o3
  replace bx := bx.chg hc3 (fun hq => HN.out _ (by (try simp only [List.mem_append, List.append_nil, List.nil_append] at hq ⊢); grind) rfl)
  replace hC := hC.trans (hc3.mono (by intro q hq; (try simp only [List.mem_append, List.append_nil, List.nil_append] at hq ⊢); grind))
  clear hc3 nd3 c3_0 c3_1 c3_2 c3_3 c3_4
  obtain ⟨kk3, hkk3⟩ : ∃ q : Int, q = kk2 + ((cnt_IntS x.fChoices) : Nat) := ⟨_, rfl⟩
  rw [← hkk3]
  have HK3 := Lib.hid hkk3
  have bk3 : 0 ≤ kk3 := by omega
  have br3 : kk3 + ((0 + (cnt_PlanS x.fPlans) : Nat) : Int) ≤ 4611686018427387904 := by omega
  clear hkk3
  have c4_0 := bx 0 _ rfl
  have c4_1 := bx 1 _ rfl
  have c4_2 := bx 2 _ rfl
  have c4_3 := bx 3 _ rfl
  have c4_4 := bx 4 _ rfl
  go_wp2_with fail
  have nd4 : fPlans.Nodup := by have := ND.out; (try simp only [List.nodup_append, List.append_nil, List.nil_append] at this); grind
  refine (markPlanS_m _ _ _ _ kk3 _ _ hPlans nd4 (by omega) (by omega)).mono ?_
  rintro e w4 ⟨rfl, o4, hc4⟩
  replace o1 := (rBox_ok NB).ownC o1 hc4 (fun q hq hq' => by have := ND.out; simp only [List.nodup_append, List.mem_append, List.append_nil, List.nil_append] at this hq hq'; grind)
  replace hCosts := hCosts.chg rInt_ok hc4 (fun q hq hq' => by have := ND.out; simp only [List.nodup_append, List.mem_append, List.append_nil, List.nil_append] at this hq'; grind)
  replace hChoices := hChoices.chg rInt_ok hc4 (fun q hq hq' => by have := ND.out; simp only [List.nodup_append, List.mem_append, List.append_nil, List.nil_append] at this hq'; grind)
  have hPlans := o4
  replace bx := bx.chg hc4 (fun hq => HN.out _ (by (try simp only [List.mem_append, List.append_nil, List.nil_append] at hq ⊢); grind) rfl)
  replace hC := hC.trans (hc4.mono (by intro q hq; (try simp only [List.mem_append, List.append_nil, List.nil_append] at hq ⊢); grind))
  clear hc4 nd4 c4_0 c4_1 c4_2 c4_3 c4_4
  obtain ⟨kk4, hkk4⟩ : ∃ q : Int, q = kk3 + ((cnt_PlanS x.fPlans) : Nat) := ⟨_, rfl⟩
  rw [← hkk4]
  have HK4 := Lib.hid hkk4
  have bk4 : 0 ≤ kk4 := by omega
  have br4 : kk4 + ((0 : Nat) : Int) ≤ 4611686018427387904 := by omega
  clear hkk4
  go_wp2
  go_ret
  refine ⟨ret_int (by have := HK1.out; have := HK2.out; have := HK3.out; have := HK4.out; omega), ?_, hC⟩
  have hm : mk_Space x k = ⟨(mk_Box x.fBox k), (mk_IntS x.fCosts kk1), (mk_IntS x.fChoices kk2), (mk_PlanS x.fPlans kk3)⟩ := by first | (unfold mk_Space; rw [HK3.out, HK2.out, HK1.out]; rfl) | (unfold mk_Space; rw [HK3.out, HK2.out, HK1.out]; done)
  rw [hm]
  exact ⟨(fBoxLow ++ (fBoxHigh)), _, [.slice ABoxLow nBoxLow cBoxLow, .slice ABoxHigh nBoxHigh cBoxHigh], _, rfl, rfl, o1, ⟨fCosts, _, [.slice ACosts nCosts cCosts], _, rfl, rfl, ⟨ACosts, nCosts, cCosts, rfl, hCosts⟩, ⟨fChoices, _, [.slice AChoices nChoices cChoices], _, rfl, rfl, ⟨AChoices, nChoices, cChoices, rfl, hChoices⟩, ⟨APlans, nPlans, cPlans, rfl, hPlans⟩⟩⟩⟩




















end Go.Proofs.Ytbipbinbehkjhaa
