/-
  Qt
-/
import Derived.Test.YtbmaigkgjmkihaaGreatKeep
import Derived.Test.YtbmaigkgjmkihaaGreatQs
import Derived.Test.YtbmaigkgjmkihaaGreatMarkB
namespace Go.Proofs.YtbmaigkgjmkihaaGreat
open Go.RowKit
set_option linter.unusedVariables false
set_option linter.unusedSimpArgs false
theorem bkChg {w w' : World} {g : Nat} {t : TypeId} {cs : List Value} {fp : List Nat} (h : Bk w g t cs) (hc : Chg fp w w') (hd : g ∉ fp) : Bk w' g t cs := (hc.block g h.lt hd).trans h
/-- what the program hands back for a step: its info, if it is fine -/
def StepI (s : Option (StepInfoD × Nat)) (w : World) (e : Ending) (w' : World) : Prop := ∃ (y : StepInfoD) (ok : Bool), e = .returned (.tuple #[.agg #[.int .i64 y.fMask, .int .i64 y.fOrder, .int .i64 y.fLeft, .int .i64 y.fRight], .bool ok]) ∧ ok = s.isSome ∧ (∀ z k, s = some (z, k) → y = z ∧ I64 z.fOrder) ∧ Below w.heap.size w w'
theorem StepI.no {s : Option (StepInfoD × Nat)} {w w' : World} {a b c d : Int} (h : s = none) (hb : Below w.heap.size w w') : StepI s w (.returned (.tuple #[.agg #[.int .i64 a, .int .i64 b, .int .i64 c, .int .i64 d], .bool false])) w' :=
 ⟨⟨a, b, c, d⟩, false, rfl, by rw [h]; rfl, fun z k hz => by rw [h] at hz; (cases hz), hb⟩
theorem StepI.yes {s : Option (StepInfoD × Nat)} {w w' : World} {a b c d : Int} {k : Nat} (h : s = some (⟨a, b, c, d⟩, k)) (hi : I64 b) (hb : Below w.heap.size w w') : StepI s w (.returned (.tuple #[.agg #[.int .i64 a, .int .i64 b, .int .i64 c, .int .i64 d], .bool true])) w' :=
 ⟨⟨a, b, c, d⟩, true, rfl, by rw [h]; rfl, fun z k hz => by rw [h] at hz; injection hz with hz; injection hz with hz _; exact ⟨hz, hz ▸ hi⟩, hb⟩
theorem MS.setNe {α : Type} {r : Rp α} {B M : Nat} {e : TypeId} {w : World} {A : Option Addr} {n cap : Nat} {l : List α} (hr : r.Ok) (h : MS B M e r w A n cap l) {k j : Nat} {v : Value} (hk : k < B) : MS B M e r (w.setCell ⟨k, j, none⟩ v) A n cap l := by
 obtain ⟨fp, o, f⟩ := h
 exact ⟨fp, o.okeep hr (fun z hz => heap_setCell_other w ⟨k, j, none⟩ z v (fun e => by have := f.ge z hz; have e : z = k := e; omega)), f⟩
theorem chgCell {fp : List Nat} {w w' : World} (h : Chg fp w w') {p : Addr} (hp : p.block < w.heap.size) (hf : p.block ∉ fp) : w'.cell? p = w.cell? p := by
 unfold World.cell?; rw [h.block p.block hp hf]
theorem stepPops {q : QueryD} {x : PlanStepD} {l : List StepInfoD} {st : List Int} {y : StepInfoD} {k n : Nat} (hR : Run n l st) (h : stepInfo q x l st = some (y, k)) : k = if 0 ≤ y.fRight then 2 else if 0 ≤ y.fLeft then 1 else 0 := by
 unfold stepInfo at h
 split at h
 ·split at h
  ·injection h with h; injection h with h1 h2; subst h1; subst h2; rfl
  ·cases h
 split at h
 ·cases h
 split at h
 ·split at h
  ·rename_i hc
   simp only [Bool.and_eq_true, decide_eq_true_eq] at hc
   obtain ⟨j, e1, _, _⟩ := hR.top (k := 1) (by omega) hc.1.1
   injection h with h; injection h with h1 h2; subst h1; subst h2
   simp only [e1]
   rw [if_neg (by omega), if_pos (by omega)]
  ·cases h
 split at h
 ·rename_i hc
  simp only [Bool.and_eq_true, decide_eq_true_eq] at hc
  obtain ⟨j, e1, _, _⟩ := hR.top (k := 1) (by omega) (by omega)
  simp only at h
  split at h
  ·split at h
   ·injection h with h; injection h with h1 h2; subst h1; subst h2
    simp only [e1]; rw [if_pos (by omega)]
   ·cases h
  ·split at h
   ·injection h with h; injection h with h1 h2; subst h1; subst h2
    simp only [e1]; rw [if_pos (by omega)]
   ·cases h
 ·cases h
set_option maxRecDepth 100000 in
set_option maxHeartbeats 1600000 in
theorem iStepScan_c (csq : List Value) (q : QueryD) (csx : List Value) (x : PlanStepD) (Al : Option Addr) (nl cl : Nat) (l : List StepInfoD) (Ast : Option Addr) (nst cst : Nat) (st : List Int) (w : World) (hq : (rQuery NB).rep w csq q) (hx : (rPlanStep NB).rep w csx x) (hl : RS NB (rStepInfo NB) w Al nl cl l) (hst : RS NB rInt w Ast nst cst st) (hv : validQ q = true) (hR : Run q.fAtoms.length l st) (hn14 : l.length ≤ 14) (k1 : x.fKind = 1) :
  Calls Tryz.prog 181 #[.agg csq.toArray, .agg csx.toArray, .slice Al nl cl, .slice Ast nst cst] w (StepI (stepInfo q x l st) w) := by
 have rq := hq
 obtain ⟨AqAtoms, nqAtoms, cqAtoms, rfl, hqVariableCount, hqAtoms⟩ := rQuery_rep.1 hq
 clear hq
 have rx := hx
 obtain ⟨rfl, hxKind, hxAtom, hxOrder⟩ := rPlanStep_rep.1 hx
 clear hx
 have hB : Below w.heap.size w w := Below.refl _ _
 have hAq := (Below.refl (World.heap (w)).size (w)).alloc (Nat.le_refl _) (.cells #[.int .i64 q.fVariableCount, .slice AqAtoms nqAtoms cqAtoms] 48)
 replace hB := hB.trans (hAq.mono hB.size)
 have bxq := Bx.new (w) [.int .i64 q.fVariableCount, .slice AqAtoms nqAtoms cqAtoms] 48
 clear hAq
 have hAx := (Below.refl (World.heap ((w).alloc (.cells #[.int .i64 q.fVariableCount, .slice AqAtoms nqAtoms cqAtoms] 48))).size ((w).alloc (.cells #[.int .i64 q.fVariableCount, .slice AqAtoms nqAtoms cqAtoms] 48))).alloc (Nat.le_refl _) (.cells #[.int .i64 x.fKind, .int .i64 x.fAtom, .int .i64 x.fOrder] 170)
 replace hB := hB.trans (hAx.mono hB.size)
 replace bxq := bxq.below hAx
 have bxx := Bx.new ((w).alloc (.cells #[.int .i64 q.fVariableCount, .slice AqAtoms nqAtoms cqAtoms] 48)) [.int .i64 x.fKind, .int .i64 x.fAtom, .int .i64 x.fOrder] 170
 simp only [World.size_alloc] at bxx
 clear hAx
 have K1 := Lib.hid k1; clear k1
 have hnA := hqAtoms.bound
 have HL := Lib.hid hqAtoms.len
 have HV := Lib.hid hv; clear hv
 have hn4 : nqAtoms ≤ 4 := by have := HL.out; have := validQ_parts HV.out; omega
 have hnst : nst ≤ 14 := by have := hst.len; have := hR.len; omega
 have hnl : nl ≤ 14 := by have := hl.len; omega
 have HN16 : Hid (((2 ^ q.fAtoms.length : Nat) : Int) ≤ 16) := by
  show _ ≤ _
  have := pow_le16 (n := q.fAtoms.length) (by rw [HL.out]; exact hn4)
  omega
 have HR := Lib.hid hR; clear hR
 clear hn14
 obtain ⟨wa, hwa⟩ : ∃ wa, wa = (w.alloc (.cells #[.int .i64 q.fVariableCount, .slice AqAtoms nqAtoms cqAtoms] 48)).alloc (.cells #[.int .i64 x.fKind, .int .i64 x.fAtom, .int .i64 x.fOrder] 170) := ⟨_, rfl⟩
 rw [← hwa] at hB bxq bxx
 have hsa : wa.heap.size = w.heap.size + 1 + 1 := by rw [hwa]; simp
 have hBA := (Below.refl wa.heap.size wa).alloc (Nat.le_refl _) (.cells #[.int .i64 0, .int .i64 0, .int .i64 0, .int .i64 0] 182)
 have bkR := Bk.new wa [.int .i64 0, .int .i64 0, .int .i64 0, .int .i64 0] 182
 replace hB := hB.trans (hBA.mono hB.size)
 replace bxq := bxq.below hBA
 replace bxx := bxx.below hBA
 clear hBA
 rw [hsa] at bkR
 obtain ⟨wr, hwr⟩ : ∃ W, W = wa.alloc (.cells #[.int .i64 0, .int .i64 0, .int .i64 0, .int .i64 0] 182) := ⟨_, rfl⟩
 have hsr : wr.heap.size = w.heap.size + 1 + 1 + 1 := by rw [hwr]; simp [hsa]
 rw [← hwr] at hB bxq bxx bkR
 have hBN := (Below.refl wr.heap.size wr).alloc (Nat.le_refl _) (.cells #[.int .i64 0, .int .i64 (-1), .int .i64 (-1), .int .i64 (-1)] 182)
 have bkN := Bk.new wr [.int .i64 0, .int .i64 (-1), .int .i64 (-1), .int .i64 (-1)] 182
 replace hB := hB.trans (hBN.mono hB.size)
 replace bxq := bxq.below hBN
 replace bxx := bxx.below hBN
 replace bkR := bkR.below hBN
 clear hBN
 rw [hsr] at bkN
 obtain ⟨wb, hwb⟩ : ∃ W, W = wr.alloc (.cells #[.int .i64 0, .int .i64 (-1), .int .i64 (-1), .int .i64 (-1)] 182) := ⟨_, rfl⟩
 rw [← hwb] at hB bxq bxx bkR bkN
 clear hsa hsr
 go_enter Tryz.func181, Tryz.ntmps181
 go_upto_region 2 with fail
 rw [← hwa, ← hwr, ← hwb]
 clear hwa hwr hwb
 have hbsz : w.heap.size + 1 + 1 + 1 < wb.heap.size := bkN.lt
 have kq_0 := bxq 0 _ rfl
 have kq_1 := bxq 1 _ rfl
 have kx_0 := bxx 0 _ rfl
 have kx_1 := bxx 1 _ rfl
 have kx_2 := bxx 2 _ rfl
 have HRS := Lib.hid hst; clear hst
 have HRL := Lib.hid hl; clear hl
 have kb1 : (x.fKind == 1) = true := by simp [K1.out]
 cases c1 : inR x.fAtom 0 ((nqAtoms : Int) - 1)
 ·have C1 := Lib.hid (fun W => within_v c1 W)
  have HS : Hid (stepInfo q x l st = none) := by show _ = _; unfold stepInfo; rw [if_pos K1.out, HL.out, c1]; rfl
  clear c1
  go_upto_region 4 with (go_at_call 70; refine (C1.out _).mono ?_; rintro e w' ⟨rfl, hww⟩; replace hww := hww.symm; subst hww)
  have n0 := bkN.bx 0 _ rfl
  have n1 := bkN.bx 1 _ rfl
  have n2 := bkN.bx 2 _ rfl
  have n3 := bkN.bx 3 _ rfl
  have r0 := bkR.bx 0 _ rfl
  have fr0 := bkR.frozen 0
  have r1 := bkR.bx 1 _ rfl
  have fr1 := bkR.frozen 1
  have r2 := bkR.bx 2 _ rfl
  have fr2 := bkR.frozen 2
  have r3 := bkR.bx 3 _ rfl
  have fr3 := bkR.frozen 3
  go_wp2
  have bk3 := ((((bkR.set 0 (.int .i64 0)).set 1 (.int .i64 (-1))).set 2 (.int .i64 (-1))).set 3 (.int .i64 (-1)))
  have q0 := bk3.bx 0 _ rfl
  have q1 := bk3.bx 1 _ rfl
  have q2 := bk3.bx 2 _ rfl
  have q3 := bk3.bx 3 _ rfl
  refine bodyPost_ret (v := .tuple #[.agg #[.int .i64 0, .int .i64 (-1), .int .i64 (-1), .int .i64 (-1)], .bool false]) (by simp [results, Tryz.results181, go_sem, q0, q1, q2, q3]) rfl ?_
  exact StepI.no HS.out ((((hB.setCell (p := ⟨w.heap.size + 1 + 1, 0, none⟩) (Nat.le_trans (Nat.le_succ _) (Nat.le_succ _)) (.int .i64 0)).setCell (p := ⟨w.heap.size + 1 + 1, 1, none⟩) (Nat.le_trans (Nat.le_succ _) (Nat.le_succ _)) (.int .i64 (-1))).setCell (p := ⟨w.heap.size + 1 + 1, 2, none⟩) (Nat.le_trans (Nat.le_succ _) (Nat.le_succ _)) (.int .i64 (-1))).setCell (p := ⟨w.heap.size + 1 + 1, 3, none⟩) (Nat.le_trans (Nat.le_succ _) (Nat.le_succ _)) (.int .i64 (-1)))
 have C1 := Lib.hid (fun W => within_v c1 W)
 have ha0 := (inR_t.1 c1).1
 have ha1 := (inR_t.1 c1).2
 have D1 := Lib.hid c1; clear c1
 by_cases o1 : x.fOrder = 0
 rotate_left
 ·have ob1 : (x.fOrder != 0) = true := by simp [o1]
  have HS : Hid (stepInfo q x l st = none) := by show _ = _; unfold stepInfo; rw [if_pos K1.out, HL.out, D1.out, decide_eq_false o1]; rfl
  clear o1
  go_upto_region 4 with (go_at_call 70; refine (C1.out _).mono ?_; rintro e w' ⟨rfl, hww⟩; replace hww := hww.symm; subst hww)
  have n0 := bkN.bx 0 _ rfl
  have n1 := bkN.bx 1 _ rfl
  have n2 := bkN.bx 2 _ rfl
  have n3 := bkN.bx 3 _ rfl
  have r0 := bkR.bx 0 _ rfl
  have fr0 := bkR.frozen 0
  have r1 := bkR.bx 1 _ rfl
  have fr1 := bkR.frozen 1
  have r2 := bkR.bx 2 _ rfl
  have fr2 := bkR.frozen 2
  have r3 := bkR.bx 3 _ rfl
  have fr3 := bkR.frozen 3
  go_wp2
  have bk3 := ((((bkR.set 0 (.int .i64 0)).set 1 (.int .i64 (-1))).set 2 (.int .i64 (-1))).set 3 (.int .i64 (-1)))
  have q0 := bk3.bx 0 _ rfl
  have q1 := bk3.bx 1 _ rfl
  have q2 := bk3.bx 2 _ rfl
  have q3 := bk3.bx 3 _ rfl
  refine bodyPost_ret (v := .tuple #[.agg #[.int .i64 0, .int .i64 (-1), .int .i64 (-1), .int .i64 (-1)], .bool false]) (by simp [results, Tryz.results181, go_sem, q0, q1, q2, q3]) rfl ?_
  exact StepI.no HS.out ((((hB.setCell (p := ⟨w.heap.size + 1 + 1, 0, none⟩) (Nat.le_trans (Nat.le_succ _) (Nat.le_succ _)) (.int .i64 0)).setCell (p := ⟨w.heap.size + 1 + 1, 1, none⟩) (Nat.le_trans (Nat.le_succ _) (Nat.le_succ _)) (.int .i64 (-1))).setCell (p := ⟨w.heap.size + 1 + 1, 2, none⟩) (Nat.le_trans (Nat.le_succ _) (Nat.le_succ _)) (.int .i64 (-1))).setCell (p := ⟨w.heap.size + 1 + 1, 3, none⟩) (Nat.le_trans (Nat.le_succ _) (Nat.le_succ _)) (.int .i64 (-1)))
 have ob1 : (x.fOrder != 0) = false := by simp [o1]
 obtain ⟨ai, hai⟩ : ∃ ai : Nat, x.fAtom = (ai : Int) := ⟨x.fAtom.toNat, by omega⟩
 have hain : ai < nqAtoms := by omega
 obtain ⟨b, off, a, AV, nV, cV, rfl, hc0, hc1, hsz, hRV, ha⟩ := hqAtoms.eAtom hain
 clear hc0
 have hnV : 0 < nV := by
  have h1 := validQ_parts HV.out
  have h2 := (atomOk_parts (h1.2.2.2.2.1 a (mem_of_at ha.out))).2.1
  have := hRV.len; omega
 obtain ⟨b2, off2, v, rfl, hcv, hI, hvv⟩ := hRV.ati hnV
 rw [Nat.add_zero] at hcv
 have HS : Hid (stepInfo q x l st = some (⟨pow2 ai, v, -1, -1⟩, 0)) := by
  have hfv : firstVar q x.fAtom = v := by unfold firstVar; rw [hai, Int.toNat_natCast, ha.out]; simp [hvv.out]
  show _ = _; unfold stepInfo; rw [if_pos K1.out, HL.out, D1.out, decide_eq_true o1, hfv, hai]; rfl
 clear o1
 have p1 := pow2_wrap (v := x.fAtom) (by omega) (by omega)
 rw [hai] at kx_1
 rw [hai] at bxx
 rw [hai, Int.toNat_natCast] at p1
 have HAI := Lib.hid hai; clear hai
 rw [HAI.out] at ha0 ha1
 have C2 : Hid (∀ W, Calls Tryz.prog 70 #[.int .i64 (ai : Int), .int .i64 0, .int .i64 ((nqAtoms : Int) - 1)] W fun e w' => e = .returned (.bool true) ∧ w' = W) := by
  have := C1.out; rw [HAI.out] at this; exact this
 clear C1
 have n0 := bkN.bx 0 _ rfl
 have fn0 := bkN.frozen 0
 have n1 := bkN.bx 1 _ rfl
 have fn1 := bkN.frozen 1
 have n2 := bkN.bx 2 _ rfl
 have fn2 := bkN.frozen 2
 have n3 := bkN.bx 3 _ rfl
 have fn3 := bkN.frozen 3
 go_upto_region 5 with (go_at_call 70; refine (C2.out _).mono ?_; rintro e w' ⟨rfl, hww⟩; replace hww := hww.symm; subst hww)
 go_upto_region 6 with fail
 obtain ⟨wc, hw1⟩ : ∃ W, W = wb.setCell ⟨w.heap.size + 1 + 1 + 1, 0, none⟩ (.int .i64 (pow2 ai)) := ⟨_, rfl⟩
 replace bkN := bkN.set 0 (.int .i64 (pow2 ai))
 replace bkR := bkR.setNe (k := w.heap.size + 1 + 1 + 1) (j := 0) (v := .int .i64 (pow2 ai)) (by omega)
 replace bxq := bxq.setNe (k := w.heap.size + 1 + 1 + 1) (j := 0) (v := .int .i64 (pow2 ai)) (by omega)
 replace bxx := bxx.setNe (k := w.heap.size + 1 + 1 + 1) (j := 0) (v := .int .i64 (pow2 ai)) (by omega)
 replace hB := hB.setCell (p := ⟨w.heap.size + 1 + 1 + 1, 0, none⟩) (by show w.heap.size ≤ w.heap.size + 1 + 1 + 1; omega) (.int .i64 (pow2 ai))
 rw [← hw1] at bkN bkR bxq bxx hB ⊢
 clear hw1 n0 n1 n2 n3 fn0 fn1 fn2 fn3
 clear kx_0 kx_1 kx_2 kq_0 kq_1 p1
 have kx_1 := bxx 1 _ rfl
 have kq_1 := bxq 1 _ rfl
 have hc1' := cells_below hB _ _ hc1
 have hcv' := cells_below hB _ _ hcv
 have n0 := bkN.bx 0 _ rfl
 have fn0 := bkN.frozen 0
 have n1 := bkN.bx 1 _ rfl
 have fn1 := bkN.frozen 1
 have n2 := bkN.bx 2 _ rfl
 have fn2 := bkN.frozen 2
 have n3 := bkN.bx 3 _ rfl
 have fn3 := bkN.frozen 3
 go_upto_region 7 with fail
 obtain ⟨wd, hw1⟩ : ∃ W, W = wc.setCell ⟨w.heap.size + 1 + 1 + 1, 1, none⟩ (.int .i64 v) := ⟨_, rfl⟩
 replace bkN := bkN.set 1 (.int .i64 v)
 replace bkR := bkR.setNe (k := w.heap.size + 1 + 1 + 1) (j := 1) (v := .int .i64 v) (by omega)
 replace bxq := bxq.setNe (k := w.heap.size + 1 + 1 + 1) (j := 1) (v := .int .i64 v) (by omega)
 replace bxx := bxx.setNe (k := w.heap.size + 1 + 1 + 1) (j := 1) (v := .int .i64 v) (by omega)
 replace hB := hB.setCell (p := ⟨w.heap.size + 1 + 1 + 1, 1, none⟩) (by show w.heap.size ≤ w.heap.size + 1 + 1 + 1; omega) (.int .i64 v)
 rw [← hw1] at bkN bkR bxq bxx hB ⊢
 clear hw1 n0 n1 n2 n3 fn0 fn1 fn2 fn3
 clear kx_1 kq_1 hc1' hcv'
 have n0 := bkN.bx 0 _ rfl
 have n1 := bkN.bx 1 _ rfl
 have n2 := bkN.bx 2 _ rfl
 have n3 := bkN.bx 3 _ rfl
 have r0 := bkR.bx 0 _ rfl
 have fr0 := bkR.frozen 0
 have r1 := bkR.bx 1 _ rfl
 have fr1 := bkR.frozen 1
 have r2 := bkR.bx 2 _ rfl
 have fr2 := bkR.frozen 2
 have r3 := bkR.bx 3 _ rfl
 have fr3 := bkR.frozen 3
 go_wp2
 have bk3 := ((((bkR.set 0 (.int .i64 (pow2 ai))).set 1 (.int .i64 v)).set 2 (.int .i64 (-1))).set 3 (.int .i64 (-1)))
 have q0 := bk3.bx 0 _ rfl
 have q1 := bk3.bx 1 _ rfl
 have q2 := bk3.bx 2 _ rfl
 have q3 := bk3.bx 3 _ rfl
 refine bodyPost_ret (v := .tuple #[.agg #[.int .i64 (pow2 ai), .int .i64 v, .int .i64 (-1), .int .i64 (-1)], .bool true]) (by simp [results, Tryz.results181, go_sem, q0, q1, q2, q3]) rfl ?_
 exact StepI.yes HS.out hI ((((hB.setCell (p := ⟨w.heap.size + 1 + 1, 0, none⟩) (Nat.le_trans (Nat.le_succ _) (Nat.le_succ _)) (.int .i64 (pow2 ai))).setCell (p := ⟨w.heap.size + 1 + 1, 1, none⟩) (Nat.le_trans (Nat.le_succ _) (Nat.le_succ _)) (.int .i64 v)).setCell (p := ⟨w.heap.size + 1 + 1, 2, none⟩) (Nat.le_trans (Nat.le_succ _) (Nat.le_succ _)) (.int .i64 (-1))).setCell (p := ⟨w.heap.size + 1 + 1, 3, none⟩) (Nat.le_trans (Nat.le_succ _) (Nat.le_succ _)) (.int .i64 (-1)))
set_option maxRecDepth 100000 in
set_option maxHeartbeats 1600000 in
theorem iStepSort_c (csq : List Value) (q : QueryD) (csx : List Value) (x : PlanStepD) (Al : Option Addr) (nl cl : Nat) (l : List StepInfoD) (Ast : Option Addr) (nst cst : Nat) (st : List Int) (w : World) (hq : (rQuery NB).rep w csq q) (hx : (rPlanStep NB).rep w csx x) (hl : RS NB (rStepInfo NB) w Al nl cl l) (hst : RS NB rInt w Ast nst cst st) (hv : validQ q = true) (hR : Run q.fAtoms.length l st) (hn14 : l.length ≤ 14) (k1 : ¬ x.fKind = 1) (k2 : x.fKind = 2) :
  Calls Tryz.prog 181 #[.agg csq.toArray, .agg csx.toArray, .slice Al nl cl, .slice Ast nst cst] w (StepI (stepInfo q x l st) w) := by
 have rq := hq
 obtain ⟨AqAtoms, nqAtoms, cqAtoms, rfl, hqVariableCount, hqAtoms⟩ := rQuery_rep.1 hq
 clear hq
 have rx := hx
 obtain ⟨rfl, hxKind, hxAtom, hxOrder⟩ := rPlanStep_rep.1 hx
 clear hx
 have hB : Below w.heap.size w w := Below.refl _ _
 have hAq := (Below.refl (World.heap (w)).size (w)).alloc (Nat.le_refl _) (.cells #[.int .i64 q.fVariableCount, .slice AqAtoms nqAtoms cqAtoms] 48)
 replace hB := hB.trans (hAq.mono hB.size)
 have bxq := Bx.new (w) [.int .i64 q.fVariableCount, .slice AqAtoms nqAtoms cqAtoms] 48
 clear hAq
 have hAx := (Below.refl (World.heap ((w).alloc (.cells #[.int .i64 q.fVariableCount, .slice AqAtoms nqAtoms cqAtoms] 48))).size ((w).alloc (.cells #[.int .i64 q.fVariableCount, .slice AqAtoms nqAtoms cqAtoms] 48))).alloc (Nat.le_refl _) (.cells #[.int .i64 x.fKind, .int .i64 x.fAtom, .int .i64 x.fOrder] 170)
 replace hB := hB.trans (hAx.mono hB.size)
 replace bxq := bxq.below hAx
 have bxx := Bx.new ((w).alloc (.cells #[.int .i64 q.fVariableCount, .slice AqAtoms nqAtoms cqAtoms] 48)) [.int .i64 x.fKind, .int .i64 x.fAtom, .int .i64 x.fOrder] 170
 simp only [World.size_alloc] at bxx
 clear hAx
 have K1 := Lib.hid k1; clear k1
 have K2 := Lib.hid k2; clear k2
 have hnA := hqAtoms.bound
 have HL := Lib.hid hqAtoms.len
 have HV := Lib.hid hv; clear hv
 have hn4 : nqAtoms ≤ 4 := by have := HL.out; have := validQ_parts HV.out; omega
 have hnst : nst ≤ 14 := by have := hst.len; have := hR.len; omega
 have hnl : nl ≤ 14 := by have := hl.len; omega
 have HN16 : Hid (((2 ^ q.fAtoms.length : Nat) : Int) ≤ 16) := by
  show _ ≤ _
  have := pow_le16 (n := q.fAtoms.length) (by rw [HL.out]; exact hn4)
  omega
 have HR := Lib.hid hR; clear hR
 clear hn14
 obtain ⟨wa, hwa⟩ : ∃ wa, wa = (w.alloc (.cells #[.int .i64 q.fVariableCount, .slice AqAtoms nqAtoms cqAtoms] 48)).alloc (.cells #[.int .i64 x.fKind, .int .i64 x.fAtom, .int .i64 x.fOrder] 170) := ⟨_, rfl⟩
 rw [← hwa] at hB bxq bxx
 have hsa : wa.heap.size = w.heap.size + 1 + 1 := by rw [hwa]; simp
 have hBA := (Below.refl wa.heap.size wa).alloc (Nat.le_refl _) (.cells #[.int .i64 0, .int .i64 0, .int .i64 0, .int .i64 0] 182)
 have bkR := Bk.new wa [.int .i64 0, .int .i64 0, .int .i64 0, .int .i64 0] 182
 replace hB := hB.trans (hBA.mono hB.size)
 replace bxq := bxq.below hBA
 replace bxx := bxx.below hBA
 clear hBA
 rw [hsa] at bkR
 obtain ⟨wr, hwr⟩ : ∃ W, W = wa.alloc (.cells #[.int .i64 0, .int .i64 0, .int .i64 0, .int .i64 0] 182) := ⟨_, rfl⟩
 have hsr : wr.heap.size = w.heap.size + 1 + 1 + 1 := by rw [hwr]; simp [hsa]
 rw [← hwr] at hB bxq bxx bkR
 have hBN := (Below.refl wr.heap.size wr).alloc (Nat.le_refl _) (.cells #[.int .i64 0, .int .i64 (-1), .int .i64 (-1), .int .i64 (-1)] 182)
 have bkN := Bk.new wr [.int .i64 0, .int .i64 (-1), .int .i64 (-1), .int .i64 (-1)] 182
 replace hB := hB.trans (hBN.mono hB.size)
 replace bxq := bxq.below hBN
 replace bxx := bxx.below hBN
 replace bkR := bkR.below hBN
 clear hBN
 rw [hsr] at bkN
 obtain ⟨wb, hwb⟩ : ∃ W, W = wr.alloc (.cells #[.int .i64 0, .int .i64 (-1), .int .i64 (-1), .int .i64 (-1)] 182) := ⟨_, rfl⟩
 rw [← hwb] at hB bxq bxx bkR bkN
 clear hsa hsr
 go_enter Tryz.func181, Tryz.ntmps181
 go_upto_region 2 with fail
 rw [← hwa, ← hwr, ← hwb]
 clear hwa hwr hwb
 have hbsz : w.heap.size + 1 + 1 + 1 < wb.heap.size := bkN.lt
 have kq_0 := bxq 0 _ rfl
 have kq_1 := bxq 1 _ rfl
 have kx_0 := bxx 0 _ rfl
 have kx_1 := bxx 1 _ rfl
 have kx_2 := bxx 2 _ rfl
 have HRS := Lib.hid hst; clear hst
 have HRL := Lib.hid hl; clear hl
 have kb1 : (x.fKind == 1) = false := by simp [K1.out]
 have kb2 : (x.fKind == 2) = true := by simp [K2.out]
 by_cases a0 : x.fAtom = 0
 rotate_left
 ·have ab : (x.fAtom != 0) = true := by simp [a0]
  have HS : Hid (stepInfo q x l st = none) := by show _ = _; unfold stepInfo; rw [if_neg K1.out, if_pos a0]
  clear a0
  have n0 := bkN.bx 0 _ rfl
  have n1 := bkN.bx 1 _ rfl
  have n2 := bkN.bx 2 _ rfl
  have n3 := bkN.bx 3 _ rfl
  have r0 := bkR.bx 0 _ rfl
  have fr0 := bkR.frozen 0
  have r1 := bkR.bx 1 _ rfl
  have fr1 := bkR.frozen 1
  have r2 := bkR.bx 2 _ rfl
  have fr2 := bkR.frozen 2
  have r3 := bkR.bx 3 _ rfl
  have fr3 := bkR.frozen 3
  go_wp2
  have bk3 := ((((bkR.set 0 (.int .i64 0)).set 1 (.int .i64 (-1))).set 2 (.int .i64 (-1))).set 3 (.int .i64 (-1)))
  have q0 := bk3.bx 0 _ rfl
  have q1 := bk3.bx 1 _ rfl
  have q2 := bk3.bx 2 _ rfl
  have q3 := bk3.bx 3 _ rfl
  refine bodyPost_ret (v := .tuple #[.agg #[.int .i64 0, .int .i64 (-1), .int .i64 (-1), .int .i64 (-1)], .bool false]) (by simp [results, Tryz.results181, go_sem, q0, q1, q2, q3]) rfl ?_
  exact StepI.no HS.out ((((hB.setCell (p := ⟨w.heap.size + 1 + 1, 0, none⟩) (Nat.le_trans (Nat.le_succ _) (Nat.le_succ _)) (.int .i64 0)).setCell (p := ⟨w.heap.size + 1 + 1, 1, none⟩) (Nat.le_trans (Nat.le_succ _) (Nat.le_succ _)) (.int .i64 (-1))).setCell (p := ⟨w.heap.size + 1 + 1, 2, none⟩) (Nat.le_trans (Nat.le_succ _) (Nat.le_succ _)) (.int .i64 (-1))).setCell (p := ⟨w.heap.size + 1 + 1, 3, none⟩) (Nat.le_trans (Nat.le_succ _) (Nat.le_succ _)) (.int .i64 (-1)))
 have ab : (x.fAtom != 0) = false := by simp [a0]
 have A0 := Lib.hid a0; clear a0
 by_cases hn1 : nst < 1
 ·have d1 : decide ((nst : Int) < 1) = true := decide_eq_true (by omega)
  have HS : Hid (stepInfo q x l st = none) := by show _ = _; unfold stepInfo; rw [if_neg K1.out, if_neg (fun h => h A0.out), if_pos K2.out, decide_eq_false (by rw [HRS.out.len]; omega)]; rfl
  have HSS : Hid (∀ w', Below wb.heap.size wb w' → True) := by show ∀ w', _ → _; exact fun _ _ => trivial
  go_wp2
  refine hbg HSS.out (Below.refl _ _).drew (fun hHeld => ?_)
  refine tka 0 57 hHeld ?_; simp only [putS]
  refine tka 1 58 hHeld ?_; simp only [putS]
  refine tka 2 59 hHeld ?_; simp only [putS]
  refine tks 3 60 hHeld ?_; simp only [putS]
  refine tks 4 61 hHeld ?_; simp only [putS]
  refine tks 5 62 hHeld ?_; simp only [putS]
  refine tks 6 63 hHeld ?_; simp only [putS]
  refine tks 7 64 hHeld ?_; simp only [putS]
  refine tks 8 65 hHeld ?_; simp only [putS]
  refine tks 9 66 hHeld ?_; simp only [putS]
  refine tks 10 67 hHeld ?_; simp only [putS]
  refine tks 11 68 hHeld ?_; simp only [putS]
  refine tks 12 69 hHeld ?_; simp only [putS]
  refine tks 13 70 hHeld ?_; simp only [putS]
  refine tks 14 71 hHeld ?_; simp only [putS]
  refine tks 15 72 hHeld ?_; simp only [putS]
  refine tks 16 73 hHeld ?_; simp only [putS]
  refine tks 17 74 hHeld ?_; simp only [putS]
  refine tka 18 75 hHeld ?_; simp only [putS]
  refine tka 19 76 hHeld ?_; simp only [putS]
  refine tks 20 77 hHeld ?_; simp only [putS]
  refine tks 21 78 hHeld ?_; simp only [putS]
  refine tks 22 79 hHeld ?_; simp only [putS]
  refine tks 23 80 hHeld ?_; simp only [putS]
  refine tks 24 81 hHeld ?_; simp only [putS]
  refine tks 25 82 hHeld ?_; simp only [putS]
  refine tks 26 83 hHeld ?_; simp only [putS]
  refine tks 27 84 hHeld ?_; simp only [putS]
  refine tks 28 85 hHeld ?_; simp only [putS]
  refine tks 29 86 hHeld ?_; simp only [putS]
  refine tks 30 87 hHeld ?_; simp only [putS]
  refine tks 31 88 hHeld ?_; simp only [putS]
  refine tka 32 89 hHeld ?_; simp only [putS]
  refine wpAnyH_done (by kernel_rfl) ?_ _
  clear hHeld
  have n0 := bkN.bx 0 _ rfl
  have n1 := bkN.bx 1 _ rfl
  have n2 := bkN.bx 2 _ rfl
  have n3 := bkN.bx 3 _ rfl
  have r0 := bkR.bx 0 _ rfl
  have fr0 := bkR.frozen 0
  have r1 := bkR.bx 1 _ rfl
  have fr1 := bkR.frozen 1
  have r2 := bkR.bx 2 _ rfl
  have fr2 := bkR.frozen 2
  have r3 := bkR.bx 3 _ rfl
  have fr3 := bkR.frozen 3
  go_wp2
  have bk3 := ((((bkR.set 0 (.int .i64 0)).set 1 (.int .i64 (-1))).set 2 (.int .i64 (-1))).set 3 (.int .i64 (-1)))
  have q0 := bk3.bx 0 _ rfl
  have q1 := bk3.bx 1 _ rfl
  have q2 := bk3.bx 2 _ rfl
  have q3 := bk3.bx 3 _ rfl
  refine bodyPost_ret (v := .tuple #[.agg #[.int .i64 0, .int .i64 (-1), .int .i64 (-1), .int .i64 (-1)], .bool false]) (by simp [results, Tryz.results181, go_sem, q0, q1, q2, q3]) rfl ?_
  exact StepI.no HS.out ((((hB.setCell (p := ⟨w.heap.size + 1 + 1, 0, none⟩) (Nat.le_trans (Nat.le_succ _) (Nat.le_succ _)) (.int .i64 0)).setCell (p := ⟨w.heap.size + 1 + 1, 1, none⟩) (Nat.le_trans (Nat.le_succ _) (Nat.le_succ _)) (.int .i64 (-1))).setCell (p := ⟨w.heap.size + 1 + 1, 2, none⟩) (Nat.le_trans (Nat.le_succ _) (Nat.le_succ _)) (.int .i64 (-1))).setCell (p := ⟨w.heap.size + 1 + 1, 3, none⟩) (Nat.le_trans (Nat.le_succ _) (Nat.le_succ _)) (.int .i64 (-1))).drew
 have d1 : decide ((nst : Int) < 1) = false := decide_eq_false (by omega)
 obtain ⟨t, ht⟩ : ∃ t, t + 1 = nst := ⟨nst - 1, by omega⟩
 obtain ⟨j, y, bS, oS, bI, oI, tr⟩ := topRead HR.out HRS.out HRL.out (t := t) (k := 1) ht (by omega)
 have hj := tr.hj
 have m0 := tr.m0
 have m16 : y.fMask < 65536 := by have := tr.m1; have := HN16.out; omega
 have mj : IntKind.i64.wrap ((nst : Int) - 1) = (t : Int) := by rw [IntWalk.i64_in _ (by omega)]; omega
 have htn : t < nst := by omega
 have hn1' : 1 ≤ st.length := by rw [HRS.out.len]; omega
 have eS := tr.eS
 have eI := tr.eI
 subst eS
 subst eI
 have HN1 := Lib.hid hn1'; clear hn1' ht
 have HSS : Hid (∀ w', Below wb.heap.size wb w' → (w'.cell? ⟨w.heap.size, 0, none⟩ = some (.int .i64 q.fVariableCount) ∧ w'.cell? ⟨w.heap.size, 1, none⟩ = some (.slice AqAtoms nqAtoms cqAtoms) ∧ w'.cell? ⟨w.heap.size + 1, 2, none⟩ = some (.int .i64 x.fOrder) ∧ w'.cell? ⟨bS, oS + t, none⟩ = some (.int .i64 j) ∧ w'.cell? ⟨bI, oI + j * 4, none⟩ = some (.int .i64 y.fMask) ∧ w'.cell? ⟨bI, oI + j * 4 + 1, none⟩ = some (.int .i64 y.fOrder))) := by
  show ∀ w', _ → _
  intro w' hb
  have hz := tr.below (hB.trans (hb.mono hB.size))
  exact ⟨(bxq.below hb) 0 _ rfl, (bxq.below hb) 1 _ rfl, (bxx.below hb) 2 _ rfl, hz.cS, hz.c0, hz.c1⟩
 have HV2 := Lib.hid (varsOf_contains HV.out y.fMask x.fOrder)
 have RV : Hid (∀ W, Below w.heap.size w W → (rQuery NB).rep W [.int .i64 q.fVariableCount, .slice AqAtoms nqAtoms cqAtoms] q) := by
  show ∀ W, _ → _
  intro W hW
  exact ((rQuery_ok NB).keep rq (cells_below hW))
 cases hh : hasV q.fAtoms y.fMask x.fOrder
 ·have HS : Hid (stepInfo q x l st = none) := by show _ = _; unfold stepInfo; rw [if_neg K1.out, if_neg (fun h => h A0.out), if_pos K2.out, tr.yj, hh, Bool.and_false, Bool.false_and]; rfl
  have KI : Hid (hasI (varsOf q y.fMask) x.fOrder = false) := by show _ = _; rw [hasI_contains, HV2.out, hh]
  clear hh kx_0 kx_1 kx_2 kq_0 kq_1
  have kx_0 := bxx 0 _ rfl
  have kx_1 := bxx 1 _ rfl
  have HBd := Lib.hid hB
  go_wp2
  refine hbg HSS.out (Below.refl _ _).drew (fun hHeld => ?_)
  refine tka 0 57 hHeld ?_; simp only [putS]
  refine tka 1 58 hHeld ?_; simp only [putS]
  refine tka 2 59 hHeld ?_; simp only [putS]
  refine tka 3 60 hHeld ?_; simp only [putS]
  refine tka 4 61 hHeld ?_; simp only [putS]
  refine tka 5 62 hHeld ?_; simp only [putS]
  refine tka 6 63 hHeld ?_; simp only [putS]
  refine tka 7 64 hHeld ?_; simp only [putS]
  refine tka 8 65 hHeld ?_; simp only [putS]
  refine tka 9 66 hHeld ?_; simp only [putS]
  refine tka 10 67 hHeld ?_; simp only [putS]
  refine tka 11 68 hHeld ?_; simp only [putS]
  refine tka 12 69 hHeld ?_; simp only [putS]
  refine tka 14 71 hHeld ?_; simp only [putS]
  refine tka 15 72 hHeld ?_; simp only [putS]
  refine wpAnyH_ready (rs := [13]) (by kernel_rfl) (by simp) ?_
  refine AllReadyH.cons (o := ⟨some 70, _, _, _, _, _⟩) rfl (fun K hK => ?_) AllReadyH.nil
  clear hHeld
  go_simp
  refine (iVariables_c _ q y.fMask _ (RV.out _ HBd.out.drew) HV.out (by omega) m16).mono ?_
  rintro e we ⟨AV, nV, cV, rfl, hMV, hbe⟩
  have hC : Below wb.heap.size wb we := (Below.refl _ wb).drew.trans hbe
  go_wp2_with fail
  refine hK.out _ _ (HSS.out _ hC) (fun hHeld => ?_)
  clear hK K
  try simp only [putS]
  refine wpAnyH_ready (rs := [16]) (by kernel_rfl) (by simp) ?_
  refine AllReadyH.cons (o := ⟨some 73, _, _, _, _, _⟩) rfl (fun K hK => ?_) AllReadyH.nil
  clear hHeld
  go_simp
  refine (slicesContains_v KI.out (hMV.rs rInt_ok)).mono ?_
  rintro e w' ⟨rfl, hww⟩; replace hww := hww.symm; subst hww
  go_wp2_with fail
  refine hK.out _ _ (HSS.out _ hC) (fun hHeld => ?_)
  clear hK K
  try simp only [putS]
  refine tka 17 74 hHeld ?_; simp only [putS]
  refine tka 18 75 hHeld ?_; simp only [putS]
  refine tka 19 76 hHeld ?_; simp only [putS]
  refine tks 20 77 hHeld ?_; simp only [putS]
  refine tks 21 78 hHeld ?_; simp only [putS]
  refine tks 22 79 hHeld ?_; simp only [putS]
  refine tks 23 80 hHeld ?_; simp only [putS]
  refine tks 24 81 hHeld ?_; simp only [putS]
  refine tks 25 82 hHeld ?_; simp only [putS]
  refine tks 26 83 hHeld ?_; simp only [putS]
  refine tks 27 84 hHeld ?_; simp only [putS]
  refine tks 28 85 hHeld ?_; simp only [putS]
  refine tks 29 86 hHeld ?_; simp only [putS]
  refine tks 30 87 hHeld ?_; simp only [putS]
  refine tks 31 88 hHeld ?_; simp only [putS]
  refine tka 32 89 hHeld ?_; simp only [putS]
  refine wpAnyH_done (by kernel_rfl) ?_ _
  clear hHeld
  clear mj hbe hMV kx_0 kx_1
  replace hB := hB.trans (hC.mono hB.size)
  replace bkN := bkN.below hC
  replace bkR := bkR.below hC
  have n0 := bkN.bx 0 _ rfl
  have n1 := bkN.bx 1 _ rfl
  have n2 := bkN.bx 2 _ rfl
  have n3 := bkN.bx 3 _ rfl
  have r0 := bkR.bx 0 _ rfl
  have fr0 := bkR.frozen 0
  have r1 := bkR.bx 1 _ rfl
  have fr1 := bkR.frozen 1
  have r2 := bkR.bx 2 _ rfl
  have fr2 := bkR.frozen 2
  have r3 := bkR.bx 3 _ rfl
  have fr3 := bkR.frozen 3
  go_wp2
  have bk3 := ((((bkR.set 0 (.int .i64 0)).set 1 (.int .i64 (-1))).set 2 (.int .i64 (-1))).set 3 (.int .i64 (-1)))
  have q0 := bk3.bx 0 _ rfl
  have q1 := bk3.bx 1 _ rfl
  have q2 := bk3.bx 2 _ rfl
  have q3 := bk3.bx 3 _ rfl
  refine bodyPost_ret (v := .tuple #[.agg #[.int .i64 0, .int .i64 (-1), .int .i64 (-1), .int .i64 (-1)], .bool false]) (by simp [results, Tryz.results181, go_sem, q0, q1, q2, q3]) rfl ?_
  exact StepI.no HS.out ((((hB.setCell (p := ⟨w.heap.size + 1 + 1, 0, none⟩) (Nat.le_trans (Nat.le_succ _) (Nat.le_succ _)) (.int .i64 0)).setCell (p := ⟨w.heap.size + 1 + 1, 1, none⟩) (Nat.le_trans (Nat.le_succ _) (Nat.le_succ _)) (.int .i64 (-1))).setCell (p := ⟨w.heap.size + 1 + 1, 2, none⟩) (Nat.le_trans (Nat.le_succ _) (Nat.le_succ _)) (.int .i64 (-1))).setCell (p := ⟨w.heap.size + 1 + 1, 3, none⟩) (Nat.le_trans (Nat.le_succ _) (Nat.le_succ _)) (.int .i64 (-1)))
 have KI : Hid (hasI (varsOf q y.fMask) x.fOrder = true) := by show _ = _; rw [hasI_contains, HV2.out, hh]
 by_cases o1 : y.fOrder = x.fOrder
 ·have ob1 : (y.fOrder == x.fOrder) = true := by simp [o1]
  have HS : Hid (stepInfo q x l st = none) := by show _ = _; unfold stepInfo; rw [if_neg K1.out, if_neg (fun h => h A0.out), if_pos K2.out, tr.yj, decide_eq_false (show ¬ ¬ y.fOrder = x.fOrder from fun h => h o1), Bool.and_false]; rfl
  clear hh o1 kx_0 kx_1 kx_2 kq_0 kq_1
  have kx_0 := bxx 0 _ rfl
  have kx_1 := bxx 1 _ rfl
  have HBd := Lib.hid hB
  go_wp2
  refine hbg HSS.out (Below.refl _ _).drew (fun hHeld => ?_)
  refine tka 0 57 hHeld ?_; simp only [putS]
  refine tka 1 58 hHeld ?_; simp only [putS]
  refine tka 2 59 hHeld ?_; simp only [putS]
  refine tka 3 60 hHeld ?_; simp only [putS]
  refine tka 4 61 hHeld ?_; simp only [putS]
  refine tka 5 62 hHeld ?_; simp only [putS]
  refine tka 6 63 hHeld ?_; simp only [putS]
  refine tka 7 64 hHeld ?_; simp only [putS]
  refine tka 8 65 hHeld ?_; simp only [putS]
  refine tka 9 66 hHeld ?_; simp only [putS]
  refine tka 10 67 hHeld ?_; simp only [putS]
  refine tka 11 68 hHeld ?_; simp only [putS]
  refine tka 12 69 hHeld ?_; simp only [putS]
  refine tka 14 71 hHeld ?_; simp only [putS]
  refine tka 15 72 hHeld ?_; simp only [putS]
  refine wpAnyH_ready (rs := [13]) (by kernel_rfl) (by simp) ?_
  refine AllReadyH.cons (o := ⟨some 70, _, _, _, _, _⟩) rfl (fun K hK => ?_) AllReadyH.nil
  clear hHeld
  go_simp
  refine (iVariables_c _ q y.fMask _ (RV.out _ HBd.out.drew) HV.out (by omega) m16).mono ?_
  rintro e we ⟨AV, nV, cV, rfl, hMV, hbe⟩
  have hC : Below wb.heap.size wb we := (Below.refl _ wb).drew.trans hbe
  go_wp2_with fail
  refine hK.out _ _ (HSS.out _ hC) (fun hHeld => ?_)
  clear hK K
  try simp only [putS]
  refine wpAnyH_ready (rs := [16]) (by kernel_rfl) (by simp) ?_
  refine AllReadyH.cons (o := ⟨some 73, _, _, _, _, _⟩) rfl (fun K hK => ?_) AllReadyH.nil
  clear hHeld
  go_simp
  refine (slicesContains_v KI.out (hMV.rs rInt_ok)).mono ?_
  rintro e w' ⟨rfl, hww⟩; replace hww := hww.symm; subst hww
  go_wp2_with fail
  refine hK.out _ _ (HSS.out _ hC) (fun hHeld => ?_)
  clear hK K
  try simp only [putS]
  refine tka 17 74 hHeld ?_; simp only [putS]
  refine tka 18 75 hHeld ?_; simp only [putS]
  refine tka 19 76 hHeld ?_; simp only [putS]
  refine tka 20 77 hHeld ?_; simp only [putS]
  refine tka 21 78 hHeld ?_; simp only [putS]
  refine tka 22 79 hHeld ?_; simp only [putS]
  refine tka 23 80 hHeld ?_; simp only [putS]
  refine tka 24 81 hHeld ?_; simp only [putS]
  refine tka 25 82 hHeld ?_; simp only [putS]
  refine tka 26 83 hHeld ?_; simp only [putS]
  refine tka 27 84 hHeld ?_; simp only [putS]
  refine tka 28 85 hHeld ?_; simp only [putS]
  refine tka 29 86 hHeld ?_; simp only [putS]
  refine tka 30 87 hHeld ?_; simp only [putS]
  refine tka 31 88 hHeld ?_; simp only [putS]
  refine tka 32 89 hHeld ?_; simp only [putS]
  refine wpAnyH_done (by kernel_rfl) ?_ _
  clear hHeld
  clear mj hbe hMV kx_0 kx_1
  replace hB := hB.trans (hC.mono hB.size)
  replace bkN := bkN.below hC
  replace bkR := bkR.below hC
  have n0 := bkN.bx 0 _ rfl
  have n1 := bkN.bx 1 _ rfl
  have n2 := bkN.bx 2 _ rfl
  have n3 := bkN.bx 3 _ rfl
  have r0 := bkR.bx 0 _ rfl
  have fr0 := bkR.frozen 0
  have r1 := bkR.bx 1 _ rfl
  have fr1 := bkR.frozen 1
  have r2 := bkR.bx 2 _ rfl
  have fr2 := bkR.frozen 2
  have r3 := bkR.bx 3 _ rfl
  have fr3 := bkR.frozen 3
  go_wp2
  have bk3 := ((((bkR.set 0 (.int .i64 0)).set 1 (.int .i64 (-1))).set 2 (.int .i64 (-1))).set 3 (.int .i64 (-1)))
  have q0 := bk3.bx 0 _ rfl
  have q1 := bk3.bx 1 _ rfl
  have q2 := bk3.bx 2 _ rfl
  have q3 := bk3.bx 3 _ rfl
  refine bodyPost_ret (v := .tuple #[.agg #[.int .i64 0, .int .i64 (-1), .int .i64 (-1), .int .i64 (-1)], .bool false]) (by simp [results, Tryz.results181, go_sem, q0, q1, q2, q3]) rfl ?_
  exact StepI.no HS.out ((((hB.setCell (p := ⟨w.heap.size + 1 + 1, 0, none⟩) (Nat.le_trans (Nat.le_succ _) (Nat.le_succ _)) (.int .i64 0)).setCell (p := ⟨w.heap.size + 1 + 1, 1, none⟩) (Nat.le_trans (Nat.le_succ _) (Nat.le_succ _)) (.int .i64 (-1))).setCell (p := ⟨w.heap.size + 1 + 1, 2, none⟩) (Nat.le_trans (Nat.le_succ _) (Nat.le_succ _)) (.int .i64 (-1))).setCell (p := ⟨w.heap.size + 1 + 1, 3, none⟩) (Nat.le_trans (Nat.le_succ _) (Nat.le_succ _)) (.int .i64 (-1)))
 have ob1 : (y.fOrder == x.fOrder) = false := by simp [o1]
 have HS : Hid (stepInfo q x l st = some (⟨y.fMask, x.fOrder, (j : Int), -1⟩, 1)) := by
  show _ = _
  unfold stepInfo
  rw [if_neg K1.out, if_neg (fun h => h A0.out), if_pos K2.out, tr.yj, hh, tr.tj, decide_eq_true (show ¬ y.fOrder = x.fOrder from o1), decide_eq_true HN1.out]; rfl
 clear hh o1 kx_0 kx_1 kx_2 kq_0 kq_1
 have kx_0 := bxx 0 _ rfl
 have kx_1 := bxx 1 _ rfl
 have HBd := Lib.hid hB
 go_wp2
 refine hbg HSS.out (Below.refl _ _).drew (fun hHeld => ?_)
 refine tka 0 57 hHeld ?_; simp only [putS]
 refine tka 1 58 hHeld ?_; simp only [putS]
 refine tka 2 59 hHeld ?_; simp only [putS]
 refine tka 3 60 hHeld ?_; simp only [putS]
 refine tka 4 61 hHeld ?_; simp only [putS]
 refine tka 5 62 hHeld ?_; simp only [putS]
 refine tka 6 63 hHeld ?_; simp only [putS]
 refine tka 7 64 hHeld ?_; simp only [putS]
 refine tka 8 65 hHeld ?_; simp only [putS]
 refine tka 9 66 hHeld ?_; simp only [putS]
 refine tka 10 67 hHeld ?_; simp only [putS]
 refine tka 11 68 hHeld ?_; simp only [putS]
 refine tka 12 69 hHeld ?_; simp only [putS]
 refine tka 14 71 hHeld ?_; simp only [putS]
 refine tka 15 72 hHeld ?_; simp only [putS]
 refine wpAnyH_ready (rs := [13]) (by kernel_rfl) (by simp) ?_
 refine AllReadyH.cons (o := ⟨some 70, _, _, _, _, _⟩) rfl (fun K hK => ?_) AllReadyH.nil
 clear hHeld
 go_simp
 refine (iVariables_c _ q y.fMask _ (RV.out _ HBd.out.drew) HV.out (by omega) m16).mono ?_
 rintro e we ⟨AV, nV, cV, rfl, hMV, hbe⟩
 have hC : Below wb.heap.size wb we := (Below.refl _ wb).drew.trans hbe
 go_wp2_with fail
 refine hK.out _ _ (HSS.out _ hC) (fun hHeld => ?_)
 clear hK K
 try simp only [putS]
 refine wpAnyH_ready (rs := [16]) (by kernel_rfl) (by simp) ?_
 refine AllReadyH.cons (o := ⟨some 73, _, _, _, _, _⟩) rfl (fun K hK => ?_) AllReadyH.nil
 clear hHeld
 go_simp
 refine (slicesContains_v KI.out (hMV.rs rInt_ok)).mono ?_
 rintro e w' ⟨rfl, hww⟩; replace hww := hww.symm; subst hww
 go_wp2_with fail
 refine hK.out _ _ (HSS.out _ hC) (fun hHeld => ?_)
 clear hK K
 try simp only [putS]
 refine tka 17 74 hHeld ?_; simp only [putS]
 refine tka 18 75 hHeld ?_; simp only [putS]
 refine tka 19 76 hHeld ?_; simp only [putS]
 refine tka 20 77 hHeld ?_; simp only [putS]
 refine tka 21 78 hHeld ?_; simp only [putS]
 refine tka 22 79 hHeld ?_; simp only [putS]
 refine tka 23 80 hHeld ?_; simp only [putS]
 refine tka 24 81 hHeld ?_; simp only [putS]
 refine tka 25 82 hHeld ?_; simp only [putS]
 refine tka 26 83 hHeld ?_; simp only [putS]
 refine tka 27 84 hHeld ?_; simp only [putS]
 refine tka 28 85 hHeld ?_; simp only [putS]
 refine tka 29 86 hHeld ?_; simp only [putS]
 refine tka 30 87 hHeld ?_; simp only [putS]
 refine tka 31 88 hHeld ?_; simp only [putS]
 refine tka 32 89 hHeld ?_; simp only [putS]
 refine wpAnyH_done (by kernel_rfl) ?_ _
 clear hHeld
 clear hbe hMV kx_0 kx_1 RV
 have hcs := ((tr.below hB).below hC).cS
 replace hB := hB.trans (hC.mono hB.size)
 replace bkN := bkN.below hC
 replace bkR := bkR.below hC
 replace bxq := bxq.below hC
 replace bxx := bxx.below hC
 have n0 := bkN.bx 0 _ rfl
 have fn0 := bkN.frozen 0
 have n1 := bkN.bx 1 _ rfl
 have fn1 := bkN.frozen 1
 have n2 := bkN.bx 2 _ rfl
 have fn2 := bkN.frozen 2
 have n3 := bkN.bx 3 _ rfl
 have fn3 := bkN.frozen 3
 go_upto_region 15 with fail
 obtain ⟨wf, hw1⟩ : ∃ W, W = we.setCell ⟨w.heap.size + 1 + 1 + 1, 2, none⟩ (.int .i64 j) := ⟨_, rfl⟩
 replace bkN := bkN.set 2 (.int .i64 j)
 replace bkR := bkR.setNe (k := w.heap.size + 1 + 1 + 1) (j := 2) (v := .int .i64 j) (by omega)
 replace bxq := bxq.setNe (k := w.heap.size + 1 + 1 + 1) (j := 2) (v := .int .i64 j) (by omega)
 replace bxx := bxx.setNe (k := w.heap.size + 1 + 1 + 1) (j := 2) (v := .int .i64 j) (by omega)
 replace hB := hB.setCell (p := ⟨w.heap.size + 1 + 1 + 1, 2, none⟩) (by show w.heap.size ≤ w.heap.size + 1 + 1 + 1; omega) (.int .i64 j)
 rw [← hw1] at bkN bkR bxq bxx hB ⊢
 clear hw1 n0 n1 n2 n3 fn0 fn1 fn2 fn3
 clear mj hcs
 have hc0 := (tr.below hB).c0
 have gn2 := bkN.bx 2 _ rfl
 have n0 := bkN.bx 0 _ rfl
 have fn0 := bkN.frozen 0
 have n1 := bkN.bx 1 _ rfl
 have fn1 := bkN.frozen 1
 have n2 := bkN.bx 2 _ rfl
 have fn2 := bkN.frozen 2
 have n3 := bkN.bx 3 _ rfl
 have fn3 := bkN.frozen 3
 go_upto_region 16 with fail
 obtain ⟨wg, hw1⟩ : ∃ W, W = wf.setCell ⟨w.heap.size + 1 + 1 + 1, 0, none⟩ (.int .i64 y.fMask) := ⟨_, rfl⟩
 replace bkN := bkN.set 0 (.int .i64 y.fMask)
 replace bkR := bkR.setNe (k := w.heap.size + 1 + 1 + 1) (j := 0) (v := .int .i64 y.fMask) (by omega)
 replace bxq := bxq.setNe (k := w.heap.size + 1 + 1 + 1) (j := 0) (v := .int .i64 y.fMask) (by omega)
 replace bxx := bxx.setNe (k := w.heap.size + 1 + 1 + 1) (j := 0) (v := .int .i64 y.fMask) (by omega)
 replace hB := hB.setCell (p := ⟨w.heap.size + 1 + 1 + 1, 0, none⟩) (by show w.heap.size ≤ w.heap.size + 1 + 1 + 1; omega) (.int .i64 y.fMask)
 rw [← hw1] at bkN bkR bxq bxx hB ⊢
 clear hw1 n0 n1 n2 n3 fn0 fn1 fn2 fn3
 clear hc0 gn2
 have kx_2 := bxx 2 _ rfl
 have n0 := bkN.bx 0 _ rfl
 have fn0 := bkN.frozen 0
 have n1 := bkN.bx 1 _ rfl
 have fn1 := bkN.frozen 1
 have n2 := bkN.bx 2 _ rfl
 have fn2 := bkN.frozen 2
 have n3 := bkN.bx 3 _ rfl
 have fn3 := bkN.frozen 3
 go_upto_region 17 with fail
 obtain ⟨wh, hw1⟩ : ∃ W, W = wg.setCell ⟨w.heap.size + 1 + 1 + 1, 1, none⟩ (.int .i64 x.fOrder) := ⟨_, rfl⟩
 replace bkN := bkN.set 1 (.int .i64 x.fOrder)
 replace bkR := bkR.setNe (k := w.heap.size + 1 + 1 + 1) (j := 1) (v := .int .i64 x.fOrder) (by omega)
 replace bxq := bxq.setNe (k := w.heap.size + 1 + 1 + 1) (j := 1) (v := .int .i64 x.fOrder) (by omega)
 replace bxx := bxx.setNe (k := w.heap.size + 1 + 1 + 1) (j := 1) (v := .int .i64 x.fOrder) (by omega)
 replace hB := hB.setCell (p := ⟨w.heap.size + 1 + 1 + 1, 1, none⟩) (by show w.heap.size ≤ w.heap.size + 1 + 1 + 1; omega) (.int .i64 x.fOrder)
 rw [← hw1] at bkN bkR bxq bxx hB ⊢
 clear hw1 n0 n1 n2 n3 fn0 fn1 fn2 fn3
 clear kx_2
 have n0 := bkN.bx 0 _ rfl
 have n1 := bkN.bx 1 _ rfl
 have n2 := bkN.bx 2 _ rfl
 have n3 := bkN.bx 3 _ rfl
 have r0 := bkR.bx 0 _ rfl
 have fr0 := bkR.frozen 0
 have r1 := bkR.bx 1 _ rfl
 have fr1 := bkR.frozen 1
 have r2 := bkR.bx 2 _ rfl
 have fr2 := bkR.frozen 2
 have r3 := bkR.bx 3 _ rfl
 have fr3 := bkR.frozen 3
 go_wp2
 have bk3 := ((((bkR.set 0 (.int .i64 y.fMask)).set 1 (.int .i64 x.fOrder)).set 2 (.int .i64 j)).set 3 (.int .i64 (-1)))
 have q0 := bk3.bx 0 _ rfl
 have q1 := bk3.bx 1 _ rfl
 have q2 := bk3.bx 2 _ rfl
 have q3 := bk3.bx 3 _ rfl
 refine bodyPost_ret (v := .tuple #[.agg #[.int .i64 y.fMask, .int .i64 x.fOrder, .int .i64 j, .int .i64 (-1)], .bool true]) (by simp [results, Tryz.results181, go_sem, q0, q1, q2, q3]) rfl ?_
 exact StepI.yes HS.out hxOrder ((((hB.setCell (p := ⟨w.heap.size + 1 + 1, 0, none⟩) (Nat.le_trans (Nat.le_succ _) (Nat.le_succ _)) (.int .i64 y.fMask)).setCell (p := ⟨w.heap.size + 1 + 1, 1, none⟩) (Nat.le_trans (Nat.le_succ _) (Nat.le_succ _)) (.int .i64 x.fOrder)).setCell (p := ⟨w.heap.size + 1 + 1, 2, none⟩) (Nat.le_trans (Nat.le_succ _) (Nat.le_succ _)) (.int .i64 j)).setCell (p := ⟨w.heap.size + 1 + 1, 3, none⟩) (Nat.le_trans (Nat.le_succ _) (Nat.le_succ _)) (.int .i64 (-1)))
set_option maxRecDepth 100000 in
set_option maxHeartbeats 1600000 in
theorem iStepOther_c (csq : List Value) (q : QueryD) (csx : List Value) (x : PlanStepD) (Al : Option Addr) (nl cl : Nat) (l : List StepInfoD) (Ast : Option Addr) (nst cst : Nat) (st : List Int) (w : World) (hq : (rQuery NB).rep w csq q) (hx : (rPlanStep NB).rep w csx x) (hl : RS NB (rStepInfo NB) w Al nl cl l) (hst : RS NB rInt w Ast nst cst st) (hv : validQ q = true) (hR : Run q.fAtoms.length l st) (hn14 : l.length ≤ 14) (kk : inR x.fKind 1 5 = false) :
  Calls Tryz.prog 181 #[.agg csq.toArray, .agg csx.toArray, .slice Al nl cl, .slice Ast nst cst] w (StepI (stepInfo q x l st) w) := by
 have rq := hq
 obtain ⟨AqAtoms, nqAtoms, cqAtoms, rfl, hqVariableCount, hqAtoms⟩ := rQuery_rep.1 hq
 clear hq
 have rx := hx
 obtain ⟨rfl, hxKind, hxAtom, hxOrder⟩ := rPlanStep_rep.1 hx
 clear hx
 have hB : Below w.heap.size w w := Below.refl _ _
 have hAq := (Below.refl (World.heap (w)).size (w)).alloc (Nat.le_refl _) (.cells #[.int .i64 q.fVariableCount, .slice AqAtoms nqAtoms cqAtoms] 48)
 replace hB := hB.trans (hAq.mono hB.size)
 have bxq := Bx.new (w) [.int .i64 q.fVariableCount, .slice AqAtoms nqAtoms cqAtoms] 48
 clear hAq
 have hAx := (Below.refl (World.heap ((w).alloc (.cells #[.int .i64 q.fVariableCount, .slice AqAtoms nqAtoms cqAtoms] 48))).size ((w).alloc (.cells #[.int .i64 q.fVariableCount, .slice AqAtoms nqAtoms cqAtoms] 48))).alloc (Nat.le_refl _) (.cells #[.int .i64 x.fKind, .int .i64 x.fAtom, .int .i64 x.fOrder] 170)
 replace hB := hB.trans (hAx.mono hB.size)
 replace bxq := bxq.below hAx
 have bxx := Bx.new ((w).alloc (.cells #[.int .i64 q.fVariableCount, .slice AqAtoms nqAtoms cqAtoms] 48)) [.int .i64 x.fKind, .int .i64 x.fAtom, .int .i64 x.fOrder] 170
 simp only [World.size_alloc] at bxx
 clear hAx
 have KK := Lib.hid kk; clear kk
 have hnA := hqAtoms.bound
 have HL := Lib.hid hqAtoms.len
 have HV := Lib.hid hv; clear hv
 have hn4 : nqAtoms ≤ 4 := by have := HL.out; have := validQ_parts HV.out; omega
 have hnst : nst ≤ 14 := by have := hst.len; have := hR.len; omega
 have hnl : nl ≤ 14 := by have := hl.len; omega
 have HN16 : Hid (((2 ^ q.fAtoms.length : Nat) : Int) ≤ 16) := by
  show _ ≤ _
  have := pow_le16 (n := q.fAtoms.length) (by rw [HL.out]; exact hn4)
  omega
 have HR := Lib.hid hR; clear hR
 clear hn14
 obtain ⟨wa, hwa⟩ : ∃ wa, wa = (w.alloc (.cells #[.int .i64 q.fVariableCount, .slice AqAtoms nqAtoms cqAtoms] 48)).alloc (.cells #[.int .i64 x.fKind, .int .i64 x.fAtom, .int .i64 x.fOrder] 170) := ⟨_, rfl⟩
 rw [← hwa] at hB bxq bxx
 have hsa : wa.heap.size = w.heap.size + 1 + 1 := by rw [hwa]; simp
 have hBA := (Below.refl wa.heap.size wa).alloc (Nat.le_refl _) (.cells #[.int .i64 0, .int .i64 0, .int .i64 0, .int .i64 0] 182)
 have bkR := Bk.new wa [.int .i64 0, .int .i64 0, .int .i64 0, .int .i64 0] 182
 replace hB := hB.trans (hBA.mono hB.size)
 replace bxq := bxq.below hBA
 replace bxx := bxx.below hBA
 clear hBA
 rw [hsa] at bkR
 obtain ⟨wr, hwr⟩ : ∃ W, W = wa.alloc (.cells #[.int .i64 0, .int .i64 0, .int .i64 0, .int .i64 0] 182) := ⟨_, rfl⟩
 have hsr : wr.heap.size = w.heap.size + 1 + 1 + 1 := by rw [hwr]; simp [hsa]
 rw [← hwr] at hB bxq bxx bkR
 have hBN := (Below.refl wr.heap.size wr).alloc (Nat.le_refl _) (.cells #[.int .i64 0, .int .i64 (-1), .int .i64 (-1), .int .i64 (-1)] 182)
 have bkN := Bk.new wr [.int .i64 0, .int .i64 (-1), .int .i64 (-1), .int .i64 (-1)] 182
 replace hB := hB.trans (hBN.mono hB.size)
 replace bxq := bxq.below hBN
 replace bxx := bxx.below hBN
 replace bkR := bkR.below hBN
 clear hBN
 rw [hsr] at bkN
 obtain ⟨wb, hwb⟩ : ∃ W, W = wr.alloc (.cells #[.int .i64 0, .int .i64 (-1), .int .i64 (-1), .int .i64 (-1)] 182) := ⟨_, rfl⟩
 rw [← hwb] at hB bxq bxx bkR bkN
 clear hsa hsr
 go_enter Tryz.func181, Tryz.ntmps181
 go_upto_region 2 with fail
 rw [← hwa, ← hwr, ← hwb]
 clear hwa hwr hwb
 have hbsz : w.heap.size + 1 + 1 + 1 < wb.heap.size := bkN.lt
 have kq_0 := bxq 0 _ rfl
 have kq_1 := bxq 1 _ rfl
 have kx_0 := bxx 0 _ rfl
 have kx_1 := bxx 1 _ rfl
 have kx_2 := bxx 2 _ rfl
 have HRS := Lib.hid hst; clear hst
 have HRL := Lib.hid hl; clear hl
 have kb1 : (x.fKind == 1) = false := by have h := inR_f.1 KK.out; simp; omega
 have kb2 : (x.fKind == 2) = false := by have h := inR_f.1 KK.out; simp; omega
 have kb3 : (x.fKind == 3) = false := by have h := inR_f.1 KK.out; simp; omega
 have kb4 : (x.fKind == 4) = false := by have h := inR_f.1 KK.out; simp; omega
 have kb5 : (x.fKind == 5) = false := by have h := inR_f.1 KK.out; simp; omega
 have HS : Hid (stepInfo q x l st = none) := by
  have h := inR_f.1 KK.out
  show _ = _
  unfold stepInfo
  rw [if_neg (by omega)]
  by_cases a0 : x.fAtom = 0
  ·rw [if_neg (fun h => h a0), if_neg (by omega), show inR x.fKind 3 5 = false from inR_f.2 (by omega)]; rfl
  ·rw [if_pos a0]
 by_cases a0 : x.fAtom = 0
 rotate_left
 ·have ab : (x.fAtom != 0) = true := by simp [a0]
  skip
  clear a0
  have n0 := bkN.bx 0 _ rfl
  have n1 := bkN.bx 1 _ rfl
  have n2 := bkN.bx 2 _ rfl
  have n3 := bkN.bx 3 _ rfl
  have r0 := bkR.bx 0 _ rfl
  have fr0 := bkR.frozen 0
  have r1 := bkR.bx 1 _ rfl
  have fr1 := bkR.frozen 1
  have r2 := bkR.bx 2 _ rfl
  have fr2 := bkR.frozen 2
  have r3 := bkR.bx 3 _ rfl
  have fr3 := bkR.frozen 3
  go_wp2
  have bk3 := ((((bkR.set 0 (.int .i64 0)).set 1 (.int .i64 (-1))).set 2 (.int .i64 (-1))).set 3 (.int .i64 (-1)))
  have q0 := bk3.bx 0 _ rfl
  have q1 := bk3.bx 1 _ rfl
  have q2 := bk3.bx 2 _ rfl
  have q3 := bk3.bx 3 _ rfl
  refine bodyPost_ret (v := .tuple #[.agg #[.int .i64 0, .int .i64 (-1), .int .i64 (-1), .int .i64 (-1)], .bool false]) (by simp [results, Tryz.results181, go_sem, q0, q1, q2, q3]) rfl ?_
  exact StepI.no HS.out ((((hB.setCell (p := ⟨w.heap.size + 1 + 1, 0, none⟩) (Nat.le_trans (Nat.le_succ _) (Nat.le_succ _)) (.int .i64 0)).setCell (p := ⟨w.heap.size + 1 + 1, 1, none⟩) (Nat.le_trans (Nat.le_succ _) (Nat.le_succ _)) (.int .i64 (-1))).setCell (p := ⟨w.heap.size + 1 + 1, 2, none⟩) (Nat.le_trans (Nat.le_succ _) (Nat.le_succ _)) (.int .i64 (-1))).setCell (p := ⟨w.heap.size + 1 + 1, 3, none⟩) (Nat.le_trans (Nat.le_succ _) (Nat.le_succ _)) (.int .i64 (-1)))
 have ab : (x.fAtom != 0) = false := by simp [a0]
 have A0 := Lib.hid a0; clear a0
 by_cases hn1 : nst < 2
 ·have d1 : decide ((nst : Int) < 2) = true := decide_eq_true (by omega)
  skip
  have n0 := bkN.bx 0 _ rfl
  have n1 := bkN.bx 1 _ rfl
  have n2 := bkN.bx 2 _ rfl
  have n3 := bkN.bx 3 _ rfl
  have r0 := bkR.bx 0 _ rfl
  have fr0 := bkR.frozen 0
  have r1 := bkR.bx 1 _ rfl
  have fr1 := bkR.frozen 1
  have r2 := bkR.bx 2 _ rfl
  have fr2 := bkR.frozen 2
  have r3 := bkR.bx 3 _ rfl
  have fr3 := bkR.frozen 3
  go_wp2
  have bk3 := ((((bkR.set 0 (.int .i64 0)).set 1 (.int .i64 (-1))).set 2 (.int .i64 (-1))).set 3 (.int .i64 (-1)))
  have q0 := bk3.bx 0 _ rfl
  have q1 := bk3.bx 1 _ rfl
  have q2 := bk3.bx 2 _ rfl
  have q3 := bk3.bx 3 _ rfl
  refine bodyPost_ret (v := .tuple #[.agg #[.int .i64 0, .int .i64 (-1), .int .i64 (-1), .int .i64 (-1)], .bool false]) (by simp [results, Tryz.results181, go_sem, q0, q1, q2, q3]) rfl ?_
  exact StepI.no HS.out ((((hB.setCell (p := ⟨w.heap.size + 1 + 1, 0, none⟩) (Nat.le_trans (Nat.le_succ _) (Nat.le_succ _)) (.int .i64 0)).setCell (p := ⟨w.heap.size + 1 + 1, 1, none⟩) (Nat.le_trans (Nat.le_succ _) (Nat.le_succ _)) (.int .i64 (-1))).setCell (p := ⟨w.heap.size + 1 + 1, 2, none⟩) (Nat.le_trans (Nat.le_succ _) (Nat.le_succ _)) (.int .i64 (-1))).setCell (p := ⟨w.heap.size + 1 + 1, 3, none⟩) (Nat.le_trans (Nat.le_succ _) (Nat.le_succ _)) (.int .i64 (-1)))
 have d1 : decide ((nst : Int) < 2) = false := decide_eq_false (by omega)
 obtain ⟨t, ht⟩ : ∃ t, t + 2 = nst := ⟨nst - 2, by omega⟩
 obtain ⟨u, hu⟩ : ∃ u, u + 1 = nst := ⟨nst - 1, by omega⟩
 obtain ⟨j, y, bS, oS, bI, oI, tr⟩ := topRead HR.out HRS.out HRL.out (t := t) (k := 2) ht (by omega)
 obtain ⟨i, z, bS', oS', bI', oI', tz⟩ := topRead HR.out HRS.out HRL.out (t := u) (k := 1) hu (by omega)
 have eq1 := tr.eS.symm.trans tz.eS
 have eq2 := tr.eI.symm.trans tz.eI
 injection eq1 with eq1; injection eq1 with eq1 eq3; subst eq1; subst eq3
 injection eq2 with eq2; injection eq2 with eq2 eq4; subst eq2; subst eq4
 have hj := tr.hj
 have hi := tz.hj
 have m0 := tr.m0
 have m16 : y.fMask < 16 := by have := tr.m1; have := HN16.out; omega
 have n0' := tz.m0
 have n16 : z.fMask < 16 := by have := tz.m1; have := HN16.out; omega
 have mj : IntKind.i64.wrap ((nst : Int) - 2) = (t : Int) := by rw [IntWalk.i64_in _ (by omega)]; omega
 have mi : IntKind.i64.wrap ((nst : Int) - 1) = (u : Int) := by rw [IntWalk.i64_in _ (by omega)]; omega
 have htn : t < nst := by omega
 have hun : u < nst := by omega
 have hn1' : 2 ≤ st.length := by rw [HRS.out.len]; omega
 have eS := tr.eS
 have eI := tr.eI
 subst eS
 subst eI
 have HN1 := Lib.hid hn1'; clear hn1' ht hu
 have HS20 : Hid (∀ w', Below w.heap.size w w' → (w'.cell? ⟨bS, oS + t, none⟩ = some (.int .i64 j) ∧ w'.cell? ⟨bS, oS + u, none⟩ = some (.int .i64 i))) := by
  show ∀ w', _ → _
  intro w' hb
  exact ⟨(tr.below hb).cS, (tz.below hb).cS⟩
 clear kx_0 kx_2 kq_0 kq_1
 have kx_0 := bxx 0 _ rfl
 have n0 := bkN.bx 0 _ rfl
 have fn0 := bkN.frozen 0
 have n1 := bkN.bx 1 _ rfl
 have fn1 := bkN.frozen 1
 have n2 := bkN.bx 2 _ rfl
 have fn2 := bkN.frozen 2
 have n3 := bkN.bx 3 _ rfl
 have fn3 := bkN.frozen 3
 go_wp2
 refine hbg HS20.out hB.drew (fun hHeld => ?_)
 refine tka 0 111 hHeld ?_; simp only [putS]
 refine tka 1 112 hHeld ?_; simp only [putS]
 refine tka 2 113 hHeld ?_; simp only [putS]
 refine tka 3 114 hHeld ?_; simp only [putS]
 refine tka 4 115 hHeld ?_; simp only [putS]
 refine tka 5 116 hHeld ?_; simp only [putS]
 refine tka 6 117 hHeld ?_; simp only [putS]
 refine tka 7 118 hHeld ?_; simp only [putS]
 refine tka 8 119 hHeld ?_; simp only [putS]
 refine tka 9 120 hHeld ?_; simp only [putS]
 refine tka 10 121 hHeld ?_; simp only [putS]
 refine wpAnyH_ready (rs := [11]) (by kernel_rfl) (by simp) ?_
 refine AllReadyH.cons (o := ⟨none, _, _, _, _, _⟩) rfl (fun K hK => ?_) AllReadyH.nil
 clear hHeld
 go_simp
 refine hK.out _ _ (HS20.out _ (hB.setCell (p := ⟨w.heap.size + 1 + 1 + 1, 2, none⟩) (by show w.heap.size ≤ w.heap.size + 1 + 1 + 1; omega) _).drew) (fun hHeld => ?_)
 clear hK K
 try simp only [putS]
 refine tka 12 122 hHeld ?_; simp only [putS]
 refine wpAnyH_ready (rs := [13]) (by kernel_rfl) (by simp) ?_
 refine AllReadyH.cons (o := ⟨none, _, _, _, _, _⟩) rfl (fun K hK => ?_) AllReadyH.nil
 clear hHeld
 go_simp
 refine hK.out _ _ (HS20.out _ ((hB.setCell (p := ⟨w.heap.size + 1 + 1 + 1, 2, none⟩) (by show w.heap.size ≤ w.heap.size + 1 + 1 + 1; omega) _).setCell (p := ⟨w.heap.size + 1 + 1 + 1, 3, none⟩) (by show w.heap.size ≤ w.heap.size + 1 + 1 + 1; omega) _).drew) (fun hHeld => ?_)
 clear hK K
 try simp only [putS]
 refine wpAnyH_done (by kernel_rfl) ?_ _
 clear hHeld
 obtain ⟨wc, hwc⟩ : ∃ W, W = ((wb.setCell ⟨w.heap.size + 1 + 1 + 1, 2, none⟩ (.int .i64 j)).setCell ⟨w.heap.size + 1 + 1 + 1, 3, none⟩ (.int .i64 i)).drew := ⟨_, rfl⟩
 replace bkN : Bk wc (w.heap.size + 1 + 1 + 1) 182 [.int .i64 0, .int .i64 (-1), .int .i64 j, .int .i64 i] := by rw [hwc]; exact (bkN.set 2 (.int .i64 j)).set 3 (.int .i64 i)
 replace bkR : Bk wc (w.heap.size + 1 + 1) 182 [.int .i64 0, .int .i64 0, .int .i64 0, .int .i64 0] := by rw [hwc]; exact (bkR.setNe (k := w.heap.size + 1 + 1 + 1) (j := 2) (v := .int .i64 j) (by omega)).setNe (k := w.heap.size + 1 + 1 + 1) (j := 3) (v := .int .i64 i) (by omega)
 replace bxq : Bx wc w.heap.size [.int .i64 q.fVariableCount, .slice AqAtoms nqAtoms cqAtoms] := by rw [hwc]; exact (bxq.setNe (k := w.heap.size + 1 + 1 + 1) (j := 2) (v := .int .i64 j) (by omega)).setNe (k := w.heap.size + 1 + 1 + 1) (j := 3) (v := .int .i64 i) (by omega)
 replace bxx : Bx wc (w.heap.size + 1) [.int .i64 x.fKind, .int .i64 x.fAtom, .int .i64 x.fOrder] := by rw [hwc]; exact (bxx.setNe (k := w.heap.size + 1 + 1 + 1) (j := 2) (v := .int .i64 j) (by omega)).setNe (k := w.heap.size + 1 + 1 + 1) (j := 3) (v := .int .i64 i) (by omega)
 replace hB : Below w.heap.size w wc := by rw [hwc]; exact ((hB.setCell (p := ⟨w.heap.size + 1 + 1 + 1, 2, none⟩) (by show w.heap.size ≤ w.heap.size + 1 + 1 + 1; omega) _).setCell (p := ⟨w.heap.size + 1 + 1 + 1, 3, none⟩) (by show w.heap.size ≤ w.heap.size + 1 + 1 + 1; omega) _).drew
 rw [← hwc]
 clear hwc mj mi kx_0 n0 n1 n2 n3 fn0 fn1 fn2 fn3 HS20
 have tyc := tr.below hB
 have tzc := tz.below hB
 have HS21 : Hid (∀ w', Below wc.heap.size wc w' → (w'.cell? ⟨w.heap.size + 1 + 1 + 1, 2, none⟩ = some (.int .i64 j) ∧ w'.cell? ⟨w.heap.size + 1 + 1 + 1, 3, none⟩ = some (.int .i64 i) ∧ w'.cell? ⟨bI, oI + j * 4, none⟩ = some (.int .i64 y.fMask) ∧ w'.cell? ⟨bI, oI + j * 4 + 1, none⟩ = some (.int .i64 y.fOrder) ∧ w'.cell? ⟨bI, oI + j * 4 + 2, none⟩ = some (.int .i64 y.fLeft) ∧ w'.cell? ⟨bI, oI + j * 4 + 3, none⟩ = some (.int .i64 y.fRight) ∧ w'.cell? ⟨bI, oI + i * 4, none⟩ = some (.int .i64 z.fMask) ∧ w'.cell? ⟨bI, oI + i * 4 + 1, none⟩ = some (.int .i64 z.fOrder) ∧ w'.cell? ⟨bI, oI + i * 4 + 2, none⟩ = some (.int .i64 z.fLeft) ∧ w'.cell? ⟨bI, oI + i * 4 + 3, none⟩ = some (.int .i64 z.fRight))) := by
  show ∀ w', _ → _
  intro w' hb
  exact ⟨(bkN.below hb).bx 2 _ rfl, (bkN.below hb).bx 3 _ rfl, cells_below hb _ _ tyc.c0, cells_below hb _ _ tyc.c1, cells_below hb _ _ tyc.c2, cells_below hb _ _ tyc.c3, cells_below hb _ _ tzc.c0, cells_below hb _ _ tzc.c1, cells_below hb _ _ tzc.c2, cells_below hb _ _ tzc.c3⟩
 go_wp2
 refine hbg HS21.out (Below.refl _ _).drew (fun hHeld => ?_)
 refine tka 0 123 hHeld ?_; simp only [putS]
 refine tka 1 124 hHeld ?_; simp only [putS]
 refine tka 2 125 hHeld ?_; simp only [putS]
 refine tka 3 126 hHeld ?_; simp only [putS]
 refine tka 4 127 hHeld ?_; simp only [putS]
 refine tka 5 128 hHeld ?_; simp only [putS]
 refine tka 6 129 hHeld ?_; simp only [putS]
 refine tka 7 130 hHeld ?_; simp only [putS]
 refine tka 8 131 hHeld ?_; simp only [putS]
 refine tka 9 132 hHeld ?_; simp only [putS]
 refine wpAnyH_ready (rs := [10, 11]) (by kernel_rfl) (by simp) ?_
 refine (AllReadyH.cons (o := ⟨some 12, _, _, _, _, _⟩) rfl (fun K hK => ?_) (AllReadyH.cons (o := ⟨some 13, _, _, _, _, _⟩) rfl (fun K hK => ?_) AllReadyH.nil))
 all_goals clear hHeld
 ·go_simp
  refine hK.out _ _ (HS21.out _ ((Below.refl wc.heap.size wc).alloc (Nat.le_refl _) _).drew) (fun hHeld => ?_)
  clear hK K
  try simp only [putS]
  refine wpAnyH_ready (rs := [11]) (by kernel_rfl) (by simp) ?_
  refine AllReadyH.cons (o := ⟨some 13, _, _, _, _, _⟩) rfl (fun K hK => ?_) AllReadyH.nil
  clear hHeld
  go_simp
  refine hK.out _ _ (HS21.out _ (((Below.refl wc.heap.size wc).alloc (Nat.le_refl _) _).alloc (by simp) _).drew) (fun hHeld => ?_)
  clear hK K
  try simp only [putS]
  refine wpAnyH_ready (rs := [12]) (by kernel_rfl) (by simp) ?_
  refine AllReadyH.cons (o := ⟨none, _, _, _, _, _⟩) rfl (fun K hK => ?_) AllReadyH.nil
  clear hHeld
  go_simp
  refine hK.out _ _ (HS21.out _ (((Below.refl wc.heap.size wc).alloc (Nat.le_refl _) _).alloc (by simp) _).drew) (fun hHeld => ?_)
  clear hK K
  try simp only [putS]
  refine wpAnyH_ready (rs := [13]) (by kernel_rfl) (by simp) ?_
  refine AllReadyH.cons (o := ⟨none, _, _, _, _, _⟩) rfl (fun K hK => ?_) AllReadyH.nil
  clear hHeld
  go_simp
  refine hK.out _ _ (HS21.out _ (((Below.refl wc.heap.size wc).alloc (Nat.le_refl _) _).alloc (by simp) _).drew) (fun hHeld => ?_)
  clear hK K
  try simp only [putS]
  refine wpAnyH_done (by kernel_rfl) ?_ _
  clear hHeld
  obtain ⟨wd, hwd⟩ : ∃ W, W = ((wc.alloc (.cells #[.int .i64 y.fMask, .int .i64 y.fOrder, .int .i64 y.fLeft, .int .i64 y.fRight] 182)).alloc (.cells #[.int .i64 z.fMask, .int .i64 z.fOrder, .int .i64 z.fLeft, .int .i64 z.fRight] 182)).drew := ⟨_, rfl⟩
  have bkY : Bk wd (wc.heap.size) 182 [.int .i64 y.fMask, .int .i64 y.fOrder, .int .i64 y.fLeft, .int .i64 y.fRight] := by rw [hwd]; exact (Bk.new wc _ _).below ((Below.refl _ _).alloc (Nat.le_refl _) _).drew
  have bkZ : Bk wd (wc.heap.size + 1) 182 [.int .i64 z.fMask, .int .i64 z.fOrder, .int .i64 z.fLeft, .int .i64 z.fRight] := by rw [hwd]; have h := Bk.new (wc.alloc (.cells #[.int .i64 y.fMask, .int .i64 y.fOrder, .int .i64 y.fLeft, .int .i64 y.fRight] 182)) [.int .i64 z.fMask, .int .i64 z.fOrder, .int .i64 z.fLeft, .int .i64 z.fRight] 182; simp only [World.size_alloc] at h; exact h
  have hcd : Below wc.heap.size wc wd := by rw [hwd]; exact (((Below.refl wc.heap.size wc).alloc (Nat.le_refl _) _).alloc (by simp) _).drew
  rw [← hwd]
  clear hwd HS21 tyc tzc
  have hgN : w.heap.size + 1 + 1 + 1 < wc.heap.size := bkN.lt
  have hB0 := hB
  replace hB := hB.trans (hcd.mono hB.size)
  replace bkN := bkN.below hcd
  replace bkR := bkR.below hcd
  replace bxq := bxq.below hcd
  replace bxx := bxx.below hcd
  have HS21 : Hid (∀ w', Below wd.heap.size wd w' → (w'.cell? ⟨w.heap.size, 0, none⟩ = some (.int .i64 q.fVariableCount) ∧ w'.cell? ⟨w.heap.size, 1, none⟩ = some (.slice AqAtoms nqAtoms cqAtoms) ∧ w'.cell? ⟨wc.heap.size, 0, none⟩ = some (.int .i64 y.fMask) ∧ w'.cell? ⟨wc.heap.size + 1, 0, none⟩ = some (.int .i64 z.fMask))) := by
   show ∀ w', _ → _
   intro w' hb
   exact ⟨(bxq.below hb) 0 _ rfl, (bxq.below hb) 1 _ rfl, (bkY.below hb).bx 0 _ rfl, (bkZ.below hb).bx 0 _ rfl⟩
  have RV : Hid (∀ W, Below w.heap.size w W → (rQuery NB).rep W [.int .i64 q.fVariableCount, .slice AqAtoms nqAtoms cqAtoms] q) := by
   show ∀ W, _ → _
   intro W hW
   exact ((rQuery_ok NB).keep rq (cells_below hW))
  have HBd := Lib.hid hB
  clear hcd
  go_wp2
  refine hbg HS21.out (Below.refl _ _).drew (fun hHeld => ?_)
  refine tka 0 133 hHeld ?_; simp only [putS]
  refine tka 1 134 hHeld ?_; simp only [putS]
  refine tka 2 135 hHeld ?_; simp only [putS]
  refine tka 4 137 hHeld ?_; simp only [putS]
  refine tka 5 138 hHeld ?_; simp only [putS]
  refine tka 6 139 hHeld ?_; simp only [putS]
  refine wpAnyH_ready (rs := [3]) (by kernel_rfl) (by simp) ?_
  refine AllReadyH.cons (o := ⟨some 136, _, _, _, _, _⟩) rfl (fun K hK => ?_) AllReadyH.nil
  clear hHeld
  go_simp
  refine (iVariables_c _ q y.fMask _ (RV.out _ HBd.out.drew) HV.out (by omega) (by omega)).mono ?_
  rintro e we ⟨AV, nV, cV, rfl, hMV, hbe⟩
  have hC1 : Below wd.heap.size wd we := (Below.refl _ wd).drew.trans hbe
  go_wp2_with fail
  refine hK.out _ _ (HS21.out _ hC1) (fun hHeld => ?_)
  clear hK K
  try simp only [putS]
  refine wpAnyH_ready (rs := [7]) (by kernel_rfl) (by simp) ?_
  refine AllReadyH.cons (o := ⟨some 140, _, _, _, _, _⟩) rfl (fun K hK => ?_) AllReadyH.nil
  clear hHeld
  go_simp
  refine (iVariables_c _ q z.fMask _ (RV.out _ (HBd.out.trans (hC1.mono HBd.out.size))) HV.out (by omega) (by omega)).mono ?_
  rintro e wf ⟨AW, nW, cW, rfl, hMW, hbf⟩
  have hC2 : Below wd.heap.size wd wf := hC1.trans (hbf.mono hC1.size)
  go_wp2_with fail
  refine hK.out _ _ (HS21.out _ hC2) (fun hHeld => ?_)
  clear hK K
  try simp only [putS]
  have hRA := (hMV.rs rInt_ok).below rInt_ok hbf
  have hRB := hMW.rs rInt_ok
  refine wpAnyH_ready (rs := [8]) (by kernel_rfl) (by simp) ?_
  refine AllReadyH.cons (o := ⟨some 141, _, _, _, _, _⟩) rfl (fun K hK => ?_) AllReadyH.nil
  clear hHeld
  go_simp
  refine (iBoth_c _ _ _ _ _ _ _ _ _ hRA hRB).mono ?_
  rintro e wg ⟨AX, nX, cX, rfl, hMX, hbg⟩
  have hC : Below wd.heap.size wd wg := hC2.trans (hbg.mono hC2.size)
  go_wp2_with fail
  refine hK.out _ _ (HS21.out _ hC) (fun hHeld => ?_)
  clear hK K
  try simp only [putS]
  refine tka 9 14 hHeld ?_; simp only [putS]
  refine wpAnyH_done (by kernel_rfl) ?_ _
  clear hHeld
  have hXB : wd.heap.size ≤ wf.heap.size := hC2.size
  have HXL := Lib.hid hMX.len
  clear hRA hRB hMV hMW hbe hbf hbg hC1 hC2 RV HS21
  have hgD : wc.heap.size + 1 < wd.heap.size := bkZ.lt
  replace hB := hB.trans (hC.mono hB.size)
  replace bkN := bkN.below hC
  replace bkR := bkR.below hC
  replace bxq := bxq.below hC
  replace bxx := bxx.below hC
  replace bkY := bkY.below hC
  replace bkZ := bkZ.below hC
  have pO := orI_bits (a := y.fMask) (b := z.fMask) (by omega) (by omega) (by omega) (by omega)
  have cy0 := bkY.bx 0 _ rfl
  have cz0 := bkZ.bx 0 _ rfl
  have n0 := bkN.bx 0 _ rfl
  have fn0 := bkN.frozen 0
  have n1 := bkN.bx 1 _ rfl
  have fn1 := bkN.frozen 1
  have n2 := bkN.bx 2 _ rfl
  have fn2 := bkN.frozen 2
  have n3 := bkN.bx 3 _ rfl
  have fn3 := bkN.frozen 3
  go_upto_region 24 with fail
  obtain ⟨wh, hw1⟩ : ∃ W, W = wg.setCell ⟨w.heap.size + 1 + 1 + 1, 0, none⟩ (.int .i64 (orI y.fMask z.fMask)) := ⟨_, rfl⟩
  replace bkN := bkN.set 0 (.int .i64 (orI y.fMask z.fMask))
  replace bkR := bkR.setNe (k := w.heap.size + 1 + 1 + 1) (j := 0) (v := .int .i64 (orI y.fMask z.fMask)) (by omega)
  replace bxq := bxq.setNe (k := w.heap.size + 1 + 1 + 1) (j := 0) (v := .int .i64 (orI y.fMask z.fMask)) (by omega)
  replace bxx := bxx.setNe (k := w.heap.size + 1 + 1 + 1) (j := 0) (v := .int .i64 (orI y.fMask z.fMask)) (by omega)
  replace hB := hB.setCell (p := ⟨w.heap.size + 1 + 1 + 1, 0, none⟩) (by show w.heap.size ≤ w.heap.size + 1 + 1 + 1; omega) (.int .i64 (orI y.fMask z.fMask))
  replace bkY := bkY.setNe (k := w.heap.size + 1 + 1 + 1) (j := 0) (v := .int .i64 (orI y.fMask z.fMask)) (by omega)
  replace bkZ := bkZ.setNe (k := w.heap.size + 1 + 1 + 1) (j := 0) (v := .int .i64 (orI y.fMask z.fMask)) (by omega)
  replace hMX := hMX.setNe rInt_ok (k := w.heap.size + 1 + 1 + 1) (j := 0) (v := .int .i64 (orI y.fMask z.fMask)) (by omega)
  rw [← hw1] at bkN bkR bxq bxx hB bkY bkZ hMX ⊢
  clear hw1 n0 n1 n2 n3 fn0 fn1 fn2 fn3
  clear pO cy0 cz0
  have cy0 := bkY.bx 0 _ rfl
  have cz0 := bkZ.bx 0 _ rfl
  have kx_0 := bxx 0 _ rfl
  have pA := andI_bits (a := y.fMask) (b := z.fMask) (by omega) (by omega) (by omega) (by omega)
  by_cases z1 : andI y.fMask z.fMask = 0
  rotate_left
  ·have zb : (andI y.fMask z.fMask != 0) = true := by simp [z1]
   skip
   clear z1
   have n0 := bkN.bx 0 _ rfl
   have n1 := bkN.bx 1 _ rfl
   have n2 := bkN.bx 2 _ rfl
   have n3 := bkN.bx 3 _ rfl
   have r0 := bkR.bx 0 _ rfl
   have fr0 := bkR.frozen 0
   have r1 := bkR.bx 1 _ rfl
   have fr1 := bkR.frozen 1
   have r2 := bkR.bx 2 _ rfl
   have fr2 := bkR.frozen 2
   have r3 := bkR.bx 3 _ rfl
   have fr3 := bkR.frozen 3
   go_wp2
   have bk3 := ((((bkR.set 0 (.int .i64 (orI y.fMask z.fMask))).set 1 (.int .i64 (-1))).set 2 (.int .i64 j)).set 3 (.int .i64 i))
   have q0 := bk3.bx 0 _ rfl
   have q1 := bk3.bx 1 _ rfl
   have q2 := bk3.bx 2 _ rfl
   have q3 := bk3.bx 3 _ rfl
   refine bodyPost_ret (v := .tuple #[.agg #[.int .i64 (orI y.fMask z.fMask), .int .i64 (-1), .int .i64 j, .int .i64 i], .bool false]) (by simp [results, Tryz.results181, go_sem, q0, q1, q2, q3]) rfl ?_
   exact StepI.no HS.out ((((hB.setCell (p := ⟨w.heap.size + 1 + 1, 0, none⟩) (Nat.le_trans (Nat.le_succ _) (Nat.le_succ _)) (.int .i64 (orI y.fMask z.fMask))).setCell (p := ⟨w.heap.size + 1 + 1, 1, none⟩) (Nat.le_trans (Nat.le_succ _) (Nat.le_succ _)) (.int .i64 (-1))).setCell (p := ⟨w.heap.size + 1 + 1, 2, none⟩) (Nat.le_trans (Nat.le_succ _) (Nat.le_succ _)) (.int .i64 j)).setCell (p := ⟨w.heap.size + 1 + 1, 3, none⟩) (Nat.le_trans (Nat.le_succ _) (Nat.le_succ _)) (.int .i64 i))
  have zb : (andI y.fMask z.fMask != 0) = false := by simp [z1]
  have Z1 := Lib.hid z1; clear z1
  have HSN := Lib.hid (shared_none HV.out y.fMask z.fMask)
  by_cases v1 : nX = 0
  ·have vb : ((nX : Int) == 0) = true := by simp [v1]
   skip
   clear v1
   have n0 := bkN.bx 0 _ rfl
   have n1 := bkN.bx 1 _ rfl
   have n2 := bkN.bx 2 _ rfl
   have n3 := bkN.bx 3 _ rfl
   have r0 := bkR.bx 0 _ rfl
   have fr0 := bkR.frozen 0
   have r1 := bkR.bx 1 _ rfl
   have fr1 := bkR.frozen 1
   have r2 := bkR.bx 2 _ rfl
   have fr2 := bkR.frozen 2
   have r3 := bkR.bx 3 _ rfl
   have fr3 := bkR.frozen 3
   go_wp2
   have bk3 := ((((bkR.set 0 (.int .i64 (orI y.fMask z.fMask))).set 1 (.int .i64 (-1))).set 2 (.int .i64 j)).set 3 (.int .i64 i))
   have q0 := bk3.bx 0 _ rfl
   have q1 := bk3.bx 1 _ rfl
   have q2 := bk3.bx 2 _ rfl
   have q3 := bk3.bx 3 _ rfl
   refine bodyPost_ret (v := .tuple #[.agg #[.int .i64 (orI y.fMask z.fMask), .int .i64 (-1), .int .i64 j, .int .i64 i], .bool false]) (by simp [results, Tryz.results181, go_sem, q0, q1, q2, q3]) rfl ?_
   exact StepI.no HS.out ((((hB.setCell (p := ⟨w.heap.size + 1 + 1, 0, none⟩) (Nat.le_trans (Nat.le_succ _) (Nat.le_succ _)) (.int .i64 (orI y.fMask z.fMask))).setCell (p := ⟨w.heap.size + 1 + 1, 1, none⟩) (Nat.le_trans (Nat.le_succ _) (Nat.le_succ _)) (.int .i64 (-1))).setCell (p := ⟨w.heap.size + 1 + 1, 2, none⟩) (Nat.le_trans (Nat.le_succ _) (Nat.le_succ _)) (.int .i64 j)).setCell (p := ⟨w.heap.size + 1 + 1, 3, none⟩) (Nat.le_trans (Nat.le_succ _) (Nat.le_succ _)) (.int .i64 i))
  have vb : ((nX : Int) == 0) = false := by simp [v1]
  clear v1
  have n0 := bkN.bx 0 _ rfl
  have n1 := bkN.bx 1 _ rfl
  have n2 := bkN.bx 2 _ rfl
  have n3 := bkN.bx 3 _ rfl
  have r0 := bkR.bx 0 _ rfl
  have fr0 := bkR.frozen 0
  have r1 := bkR.bx 1 _ rfl
  have fr1 := bkR.frozen 1
  have r2 := bkR.bx 2 _ rfl
  have fr2 := bkR.frozen 2
  have r3 := bkR.bx 3 _ rfl
  have fr3 := bkR.frozen 3
  go_wp2
  have bk3 := ((((bkR.set 0 (.int .i64 (orI y.fMask z.fMask))).set 1 (.int .i64 (-1))).set 2 (.int .i64 j)).set 3 (.int .i64 i))
  have q0 := bk3.bx 0 _ rfl
  have q1 := bk3.bx 1 _ rfl
  have q2 := bk3.bx 2 _ rfl
  have q3 := bk3.bx 3 _ rfl
  refine bodyPost_ret (v := .tuple #[.agg #[.int .i64 (orI y.fMask z.fMask), .int .i64 (-1), .int .i64 j, .int .i64 i], .bool false]) (by simp [results, Tryz.results181, go_sem, q0, q1, q2, q3]) rfl ?_
  exact StepI.no HS.out ((((hB.setCell (p := ⟨w.heap.size + 1 + 1, 0, none⟩) (Nat.le_trans (Nat.le_succ _) (Nat.le_succ _)) (.int .i64 (orI y.fMask z.fMask))).setCell (p := ⟨w.heap.size + 1 + 1, 1, none⟩) (Nat.le_trans (Nat.le_succ _) (Nat.le_succ _)) (.int .i64 (-1))).setCell (p := ⟨w.heap.size + 1 + 1, 2, none⟩) (Nat.le_trans (Nat.le_succ _) (Nat.le_succ _)) (.int .i64 j)).setCell (p := ⟨w.heap.size + 1 + 1, 3, none⟩) (Nat.le_trans (Nat.le_succ _) (Nat.le_succ _)) (.int .i64 i))
 ·go_simp
  refine hK.out _ _ (HS21.out _ ((Below.refl wc.heap.size wc).alloc (Nat.le_refl _) _).drew) (fun hHeld => ?_)
  clear hK K
  try simp only [putS]
  refine wpAnyH_ready (rs := [10]) (by kernel_rfl) (by simp) ?_
  refine AllReadyH.cons (o := ⟨some 12, _, _, _, _, _⟩) rfl (fun K hK => ?_) AllReadyH.nil
  clear hHeld
  go_simp
  refine hK.out _ _ (HS21.out _ (((Below.refl wc.heap.size wc).alloc (Nat.le_refl _) _).alloc (by simp) _).drew) (fun hHeld => ?_)
  clear hK K
  try simp only [putS]
  refine wpAnyH_ready (rs := [12]) (by kernel_rfl) (by simp) ?_
  refine AllReadyH.cons (o := ⟨none, _, _, _, _, _⟩) rfl (fun K hK => ?_) AllReadyH.nil
  clear hHeld
  go_simp
  refine hK.out _ _ (HS21.out _ (((Below.refl wc.heap.size wc).alloc (Nat.le_refl _) _).alloc (by simp) _).drew) (fun hHeld => ?_)
  clear hK K
  try simp only [putS]
  refine wpAnyH_ready (rs := [13]) (by kernel_rfl) (by simp) ?_
  refine AllReadyH.cons (o := ⟨none, _, _, _, _, _⟩) rfl (fun K hK => ?_) AllReadyH.nil
  clear hHeld
  go_simp
  refine hK.out _ _ (HS21.out _ (((Below.refl wc.heap.size wc).alloc (Nat.le_refl _) _).alloc (by simp) _).drew) (fun hHeld => ?_)
  clear hK K
  try simp only [putS]
  refine wpAnyH_done (by kernel_rfl) ?_ _
  clear hHeld
  obtain ⟨wd, hwd⟩ : ∃ W, W = ((wc.alloc (.cells #[.int .i64 z.fMask, .int .i64 z.fOrder, .int .i64 z.fLeft, .int .i64 z.fRight] 182)).alloc (.cells #[.int .i64 y.fMask, .int .i64 y.fOrder, .int .i64 y.fLeft, .int .i64 y.fRight] 182)).drew := ⟨_, rfl⟩
  have bkY : Bk wd (wc.heap.size + 1) 182 [.int .i64 y.fMask, .int .i64 y.fOrder, .int .i64 y.fLeft, .int .i64 y.fRight] := by rw [hwd]; have h := Bk.new (wc.alloc (.cells #[.int .i64 z.fMask, .int .i64 z.fOrder, .int .i64 z.fLeft, .int .i64 z.fRight] 182)) [.int .i64 y.fMask, .int .i64 y.fOrder, .int .i64 y.fLeft, .int .i64 y.fRight] 182; simp only [World.size_alloc] at h; exact h
  have bkZ : Bk wd (wc.heap.size) 182 [.int .i64 z.fMask, .int .i64 z.fOrder, .int .i64 z.fLeft, .int .i64 z.fRight] := by rw [hwd]; exact (Bk.new wc _ _).below ((Below.refl _ _).alloc (Nat.le_refl _) _).drew
  have hcd : Below wc.heap.size wc wd := by rw [hwd]; exact (((Below.refl wc.heap.size wc).alloc (Nat.le_refl _) _).alloc (by simp) _).drew
  rw [← hwd]
  clear hwd HS21 tyc tzc
  have hgN : w.heap.size + 1 + 1 + 1 < wc.heap.size := bkN.lt
  have hB0 := hB
  replace hB := hB.trans (hcd.mono hB.size)
  replace bkN := bkN.below hcd
  replace bkR := bkR.below hcd
  replace bxq := bxq.below hcd
  replace bxx := bxx.below hcd
  have HS21 : Hid (∀ w', Below wd.heap.size wd w' → (w'.cell? ⟨w.heap.size, 0, none⟩ = some (.int .i64 q.fVariableCount) ∧ w'.cell? ⟨w.heap.size, 1, none⟩ = some (.slice AqAtoms nqAtoms cqAtoms) ∧ w'.cell? ⟨wc.heap.size + 1, 0, none⟩ = some (.int .i64 y.fMask) ∧ w'.cell? ⟨wc.heap.size, 0, none⟩ = some (.int .i64 z.fMask))) := by
   show ∀ w', _ → _
   intro w' hb
   exact ⟨(bxq.below hb) 0 _ rfl, (bxq.below hb) 1 _ rfl, (bkY.below hb).bx 0 _ rfl, (bkZ.below hb).bx 0 _ rfl⟩
  have RV : Hid (∀ W, Below w.heap.size w W → (rQuery NB).rep W [.int .i64 q.fVariableCount, .slice AqAtoms nqAtoms cqAtoms] q) := by
   show ∀ W, _ → _
   intro W hW
   exact ((rQuery_ok NB).keep rq (cells_below hW))
  have HBd := Lib.hid hB
  clear hcd
  go_wp2
  refine hbg HS21.out (Below.refl _ _).drew (fun hHeld => ?_)
  refine tka 0 133 hHeld ?_; simp only [putS]
  refine tka 1 134 hHeld ?_; simp only [putS]
  refine tka 2 135 hHeld ?_; simp only [putS]
  refine tka 4 137 hHeld ?_; simp only [putS]
  refine tka 5 138 hHeld ?_; simp only [putS]
  refine tka 6 139 hHeld ?_; simp only [putS]
  refine wpAnyH_ready (rs := [3]) (by kernel_rfl) (by simp) ?_
  refine AllReadyH.cons (o := ⟨some 136, _, _, _, _, _⟩) rfl (fun K hK => ?_) AllReadyH.nil
  clear hHeld
  go_simp
  refine (iVariables_c _ q y.fMask _ (RV.out _ HBd.out.drew) HV.out (by omega) (by omega)).mono ?_
  rintro e we ⟨AV, nV, cV, rfl, hMV, hbe⟩
  have hC1 : Below wd.heap.size wd we := (Below.refl _ wd).drew.trans hbe
  go_wp2_with fail
  refine hK.out _ _ (HS21.out _ hC1) (fun hHeld => ?_)
  clear hK K
  try simp only [putS]
  refine wpAnyH_ready (rs := [7]) (by kernel_rfl) (by simp) ?_
  refine AllReadyH.cons (o := ⟨some 140, _, _, _, _, _⟩) rfl (fun K hK => ?_) AllReadyH.nil
  clear hHeld
  go_simp
  refine (iVariables_c _ q z.fMask _ (RV.out _ (HBd.out.trans (hC1.mono HBd.out.size))) HV.out (by omega) (by omega)).mono ?_
  rintro e wf ⟨AW, nW, cW, rfl, hMW, hbf⟩
  have hC2 : Below wd.heap.size wd wf := hC1.trans (hbf.mono hC1.size)
  go_wp2_with fail
  refine hK.out _ _ (HS21.out _ hC2) (fun hHeld => ?_)
  clear hK K
  try simp only [putS]
  have hRA := (hMV.rs rInt_ok).below rInt_ok hbf
  have hRB := hMW.rs rInt_ok
  refine wpAnyH_ready (rs := [8]) (by kernel_rfl) (by simp) ?_
  refine AllReadyH.cons (o := ⟨some 141, _, _, _, _, _⟩) rfl (fun K hK => ?_) AllReadyH.nil
  clear hHeld
  go_simp
  refine (iBoth_c _ _ _ _ _ _ _ _ _ hRA hRB).mono ?_
  rintro e wg ⟨AX, nX, cX, rfl, hMX, hbg⟩
  have hC : Below wd.heap.size wd wg := hC2.trans (hbg.mono hC2.size)
  go_wp2_with fail
  refine hK.out _ _ (HS21.out _ hC) (fun hHeld => ?_)
  clear hK K
  try simp only [putS]
  refine tka 9 14 hHeld ?_; simp only [putS]
  refine wpAnyH_done (by kernel_rfl) ?_ _
  clear hHeld
  have hXB : wd.heap.size ≤ wf.heap.size := hC2.size
  have HXL := Lib.hid hMX.len
  clear hRA hRB hMV hMW hbe hbf hbg hC1 hC2 RV HS21
  have hgD : wc.heap.size + 1 < wd.heap.size := bkY.lt
  replace hB := hB.trans (hC.mono hB.size)
  replace bkN := bkN.below hC
  replace bkR := bkR.below hC
  replace bxq := bxq.below hC
  replace bxx := bxx.below hC
  replace bkY := bkY.below hC
  replace bkZ := bkZ.below hC
  have pO := orI_bits (a := y.fMask) (b := z.fMask) (by omega) (by omega) (by omega) (by omega)
  have cy0 := bkY.bx 0 _ rfl
  have cz0 := bkZ.bx 0 _ rfl
  have n0 := bkN.bx 0 _ rfl
  have fn0 := bkN.frozen 0
  have n1 := bkN.bx 1 _ rfl
  have fn1 := bkN.frozen 1
  have n2 := bkN.bx 2 _ rfl
  have fn2 := bkN.frozen 2
  have n3 := bkN.bx 3 _ rfl
  have fn3 := bkN.frozen 3
  go_upto_region 24 with fail
  obtain ⟨wh, hw1⟩ : ∃ W, W = wg.setCell ⟨w.heap.size + 1 + 1 + 1, 0, none⟩ (.int .i64 (orI y.fMask z.fMask)) := ⟨_, rfl⟩
  replace bkN := bkN.set 0 (.int .i64 (orI y.fMask z.fMask))
  replace bkR := bkR.setNe (k := w.heap.size + 1 + 1 + 1) (j := 0) (v := .int .i64 (orI y.fMask z.fMask)) (by omega)
  replace bxq := bxq.setNe (k := w.heap.size + 1 + 1 + 1) (j := 0) (v := .int .i64 (orI y.fMask z.fMask)) (by omega)
  replace bxx := bxx.setNe (k := w.heap.size + 1 + 1 + 1) (j := 0) (v := .int .i64 (orI y.fMask z.fMask)) (by omega)
  replace hB := hB.setCell (p := ⟨w.heap.size + 1 + 1 + 1, 0, none⟩) (by show w.heap.size ≤ w.heap.size + 1 + 1 + 1; omega) (.int .i64 (orI y.fMask z.fMask))
  replace bkY := bkY.setNe (k := w.heap.size + 1 + 1 + 1) (j := 0) (v := .int .i64 (orI y.fMask z.fMask)) (by omega)
  replace bkZ := bkZ.setNe (k := w.heap.size + 1 + 1 + 1) (j := 0) (v := .int .i64 (orI y.fMask z.fMask)) (by omega)
  replace hMX := hMX.setNe rInt_ok (k := w.heap.size + 1 + 1 + 1) (j := 0) (v := .int .i64 (orI y.fMask z.fMask)) (by omega)
  rw [← hw1] at bkN bkR bxq bxx hB bkY bkZ hMX ⊢
  clear hw1 n0 n1 n2 n3 fn0 fn1 fn2 fn3
  clear pO cy0 cz0
  have cy0 := bkY.bx 0 _ rfl
  have cz0 := bkZ.bx 0 _ rfl
  have kx_0 := bxx 0 _ rfl
  have pA := andI_bits (a := y.fMask) (b := z.fMask) (by omega) (by omega) (by omega) (by omega)
  by_cases z1 : andI y.fMask z.fMask = 0
  rotate_left
  ·have zb : (andI y.fMask z.fMask != 0) = true := by simp [z1]
   skip
   clear z1
   have n0 := bkN.bx 0 _ rfl
   have n1 := bkN.bx 1 _ rfl
   have n2 := bkN.bx 2 _ rfl
   have n3 := bkN.bx 3 _ rfl
   have r0 := bkR.bx 0 _ rfl
   have fr0 := bkR.frozen 0
   have r1 := bkR.bx 1 _ rfl
   have fr1 := bkR.frozen 1
   have r2 := bkR.bx 2 _ rfl
   have fr2 := bkR.frozen 2
   have r3 := bkR.bx 3 _ rfl
   have fr3 := bkR.frozen 3
   go_wp2
   have bk3 := ((((bkR.set 0 (.int .i64 (orI y.fMask z.fMask))).set 1 (.int .i64 (-1))).set 2 (.int .i64 j)).set 3 (.int .i64 i))
   have q0 := bk3.bx 0 _ rfl
   have q1 := bk3.bx 1 _ rfl
   have q2 := bk3.bx 2 _ rfl
   have q3 := bk3.bx 3 _ rfl
   refine bodyPost_ret (v := .tuple #[.agg #[.int .i64 (orI y.fMask z.fMask), .int .i64 (-1), .int .i64 j, .int .i64 i], .bool false]) (by simp [results, Tryz.results181, go_sem, q0, q1, q2, q3]) rfl ?_
   exact StepI.no HS.out ((((hB.setCell (p := ⟨w.heap.size + 1 + 1, 0, none⟩) (Nat.le_trans (Nat.le_succ _) (Nat.le_succ _)) (.int .i64 (orI y.fMask z.fMask))).setCell (p := ⟨w.heap.size + 1 + 1, 1, none⟩) (Nat.le_trans (Nat.le_succ _) (Nat.le_succ _)) (.int .i64 (-1))).setCell (p := ⟨w.heap.size + 1 + 1, 2, none⟩) (Nat.le_trans (Nat.le_succ _) (Nat.le_succ _)) (.int .i64 j)).setCell (p := ⟨w.heap.size + 1 + 1, 3, none⟩) (Nat.le_trans (Nat.le_succ _) (Nat.le_succ _)) (.int .i64 i))
  have zb : (andI y.fMask z.fMask != 0) = false := by simp [z1]
  have Z1 := Lib.hid z1; clear z1
  have HSN := Lib.hid (shared_none HV.out y.fMask z.fMask)
  by_cases v1 : nX = 0
  ·have vb : ((nX : Int) == 0) = true := by simp [v1]
   skip
   clear v1
   have n0 := bkN.bx 0 _ rfl
   have n1 := bkN.bx 1 _ rfl
   have n2 := bkN.bx 2 _ rfl
   have n3 := bkN.bx 3 _ rfl
   have r0 := bkR.bx 0 _ rfl
   have fr0 := bkR.frozen 0
   have r1 := bkR.bx 1 _ rfl
   have fr1 := bkR.frozen 1
   have r2 := bkR.bx 2 _ rfl
   have fr2 := bkR.frozen 2
   have r3 := bkR.bx 3 _ rfl
   have fr3 := bkR.frozen 3
   go_wp2
   have bk3 := ((((bkR.set 0 (.int .i64 (orI y.fMask z.fMask))).set 1 (.int .i64 (-1))).set 2 (.int .i64 j)).set 3 (.int .i64 i))
   have q0 := bk3.bx 0 _ rfl
   have q1 := bk3.bx 1 _ rfl
   have q2 := bk3.bx 2 _ rfl
   have q3 := bk3.bx 3 _ rfl
   refine bodyPost_ret (v := .tuple #[.agg #[.int .i64 (orI y.fMask z.fMask), .int .i64 (-1), .int .i64 j, .int .i64 i], .bool false]) (by simp [results, Tryz.results181, go_sem, q0, q1, q2, q3]) rfl ?_
   exact StepI.no HS.out ((((hB.setCell (p := ⟨w.heap.size + 1 + 1, 0, none⟩) (Nat.le_trans (Nat.le_succ _) (Nat.le_succ _)) (.int .i64 (orI y.fMask z.fMask))).setCell (p := ⟨w.heap.size + 1 + 1, 1, none⟩) (Nat.le_trans (Nat.le_succ _) (Nat.le_succ _)) (.int .i64 (-1))).setCell (p := ⟨w.heap.size + 1 + 1, 2, none⟩) (Nat.le_trans (Nat.le_succ _) (Nat.le_succ _)) (.int .i64 j)).setCell (p := ⟨w.heap.size + 1 + 1, 3, none⟩) (Nat.le_trans (Nat.le_succ _) (Nat.le_succ _)) (.int .i64 i))
  have vb : ((nX : Int) == 0) = false := by simp [v1]
  clear v1
  have n0 := bkN.bx 0 _ rfl
  have n1 := bkN.bx 1 _ rfl
  have n2 := bkN.bx 2 _ rfl
  have n3 := bkN.bx 3 _ rfl
  have r0 := bkR.bx 0 _ rfl
  have fr0 := bkR.frozen 0
  have r1 := bkR.bx 1 _ rfl
  have fr1 := bkR.frozen 1
  have r2 := bkR.bx 2 _ rfl
  have fr2 := bkR.frozen 2
  have r3 := bkR.bx 3 _ rfl
  have fr3 := bkR.frozen 3
  go_wp2
  have bk3 := ((((bkR.set 0 (.int .i64 (orI y.fMask z.fMask))).set 1 (.int .i64 (-1))).set 2 (.int .i64 j)).set 3 (.int .i64 i))
  have q0 := bk3.bx 0 _ rfl
  have q1 := bk3.bx 1 _ rfl
  have q2 := bk3.bx 2 _ rfl
  have q3 := bk3.bx 3 _ rfl
  refine bodyPost_ret (v := .tuple #[.agg #[.int .i64 (orI y.fMask z.fMask), .int .i64 (-1), .int .i64 j, .int .i64 i], .bool false]) (by simp [results, Tryz.results181, go_sem, q0, q1, q2, q3]) rfl ?_
  exact StepI.no HS.out ((((hB.setCell (p := ⟨w.heap.size + 1 + 1, 0, none⟩) (Nat.le_trans (Nat.le_succ _) (Nat.le_succ _)) (.int .i64 (orI y.fMask z.fMask))).setCell (p := ⟨w.heap.size + 1 + 1, 1, none⟩) (Nat.le_trans (Nat.le_succ _) (Nat.le_succ _)) (.int .i64 (-1))).setCell (p := ⟨w.heap.size + 1 + 1, 2, none⟩) (Nat.le_trans (Nat.le_succ _) (Nat.le_succ _)) (.int .i64 j)).setCell (p := ⟨w.heap.size + 1 + 1, 3, none⟩) (Nat.le_trans (Nat.le_succ _) (Nat.le_succ _)) (.int .i64 i))
set_option maxRecDepth 100000 in
set_option maxHeartbeats 1600000 in
theorem iStepHash_c (csq : List Value) (q : QueryD) (csx : List Value) (x : PlanStepD) (Al : Option Addr) (nl cl : Nat) (l : List StepInfoD) (Ast : Option Addr) (nst cst : Nat) (st : List Int) (w : World) (hq : (rQuery NB).rep w csq q) (hx : (rPlanStep NB).rep w csx x) (hl : RS NB (rStepInfo NB) w Al nl cl l) (hst : RS NB rInt w Ast nst cst st) (hv : validQ q = true) (hR : Run q.fAtoms.length l st) (hn14 : l.length ≤ 14) (kk : x.fKind = 3) :
  Calls Tryz.prog 181 #[.agg csq.toArray, .agg csx.toArray, .slice Al nl cl, .slice Ast nst cst] w (StepI (stepInfo q x l st) w) := by
 have rq := hq
 obtain ⟨AqAtoms, nqAtoms, cqAtoms, rfl, hqVariableCount, hqAtoms⟩ := rQuery_rep.1 hq
 clear hq
 have rx := hx
 obtain ⟨rfl, hxKind, hxAtom, hxOrder⟩ := rPlanStep_rep.1 hx
 clear hx
 have hB : Below w.heap.size w w := Below.refl _ _
 have hAq := (Below.refl (World.heap (w)).size (w)).alloc (Nat.le_refl _) (.cells #[.int .i64 q.fVariableCount, .slice AqAtoms nqAtoms cqAtoms] 48)
 replace hB := hB.trans (hAq.mono hB.size)
 have bxq := Bx.new (w) [.int .i64 q.fVariableCount, .slice AqAtoms nqAtoms cqAtoms] 48
 clear hAq
 have hAx := (Below.refl (World.heap ((w).alloc (.cells #[.int .i64 q.fVariableCount, .slice AqAtoms nqAtoms cqAtoms] 48))).size ((w).alloc (.cells #[.int .i64 q.fVariableCount, .slice AqAtoms nqAtoms cqAtoms] 48))).alloc (Nat.le_refl _) (.cells #[.int .i64 x.fKind, .int .i64 x.fAtom, .int .i64 x.fOrder] 170)
 replace hB := hB.trans (hAx.mono hB.size)
 replace bxq := bxq.below hAx
 have bxx := Bx.new ((w).alloc (.cells #[.int .i64 q.fVariableCount, .slice AqAtoms nqAtoms cqAtoms] 48)) [.int .i64 x.fKind, .int .i64 x.fAtom, .int .i64 x.fOrder] 170
 simp only [World.size_alloc] at bxx
 clear hAx
 have KK := Lib.hid kk; clear kk
 have hnA := hqAtoms.bound
 have HL := Lib.hid hqAtoms.len
 have HV := Lib.hid hv; clear hv
 have hn4 : nqAtoms ≤ 4 := by have := HL.out; have := validQ_parts HV.out; omega
 have hnst : nst ≤ 14 := by have := hst.len; have := hR.len; omega
 have hnl : nl ≤ 14 := by have := hl.len; omega
 have HN16 : Hid (((2 ^ q.fAtoms.length : Nat) : Int) ≤ 16) := by
  show _ ≤ _
  have := pow_le16 (n := q.fAtoms.length) (by rw [HL.out]; exact hn4)
  omega
 have HR := Lib.hid hR; clear hR
 clear hn14
 obtain ⟨wa, hwa⟩ : ∃ wa, wa = (w.alloc (.cells #[.int .i64 q.fVariableCount, .slice AqAtoms nqAtoms cqAtoms] 48)).alloc (.cells #[.int .i64 x.fKind, .int .i64 x.fAtom, .int .i64 x.fOrder] 170) := ⟨_, rfl⟩
 rw [← hwa] at hB bxq bxx
 have hsa : wa.heap.size = w.heap.size + 1 + 1 := by rw [hwa]; simp
 have hBA := (Below.refl wa.heap.size wa).alloc (Nat.le_refl _) (.cells #[.int .i64 0, .int .i64 0, .int .i64 0, .int .i64 0] 182)
 have bkR := Bk.new wa [.int .i64 0, .int .i64 0, .int .i64 0, .int .i64 0] 182
 replace hB := hB.trans (hBA.mono hB.size)
 replace bxq := bxq.below hBA
 replace bxx := bxx.below hBA
 clear hBA
 rw [hsa] at bkR
 obtain ⟨wr, hwr⟩ : ∃ W, W = wa.alloc (.cells #[.int .i64 0, .int .i64 0, .int .i64 0, .int .i64 0] 182) := ⟨_, rfl⟩
 have hsr : wr.heap.size = w.heap.size + 1 + 1 + 1 := by rw [hwr]; simp [hsa]
 rw [← hwr] at hB bxq bxx bkR
 have hBN := (Below.refl wr.heap.size wr).alloc (Nat.le_refl _) (.cells #[.int .i64 0, .int .i64 (-1), .int .i64 (-1), .int .i64 (-1)] 182)
 have bkN := Bk.new wr [.int .i64 0, .int .i64 (-1), .int .i64 (-1), .int .i64 (-1)] 182
 replace hB := hB.trans (hBN.mono hB.size)
 replace bxq := bxq.below hBN
 replace bxx := bxx.below hBN
 replace bkR := bkR.below hBN
 clear hBN
 rw [hsr] at bkN
 obtain ⟨wb, hwb⟩ : ∃ W, W = wr.alloc (.cells #[.int .i64 0, .int .i64 (-1), .int .i64 (-1), .int .i64 (-1)] 182) := ⟨_, rfl⟩
 rw [← hwb] at hB bxq bxx bkR bkN
 clear hsa hsr
 go_enter Tryz.func181, Tryz.ntmps181
 go_upto_region 2 with fail
 rw [← hwa, ← hwr, ← hwb]
 clear hwa hwr hwb
 have hbsz : w.heap.size + 1 + 1 + 1 < wb.heap.size := bkN.lt
 have kq_0 := bxq 0 _ rfl
 have kq_1 := bxq 1 _ rfl
 have kx_0 := bxx 0 _ rfl
 have kx_1 := bxx 1 _ rfl
 have kx_2 := bxx 2 _ rfl
 have HRS := Lib.hid hst; clear hst
 have HRL := Lib.hid hl; clear hl
 have kb1 : (x.fKind == 1) = false := by rw [KK.out]; rfl
 have kb2 : (x.fKind == 2) = false := by rw [KK.out]; rfl
 have kb3 : (x.fKind == 3) = true := by rw [KK.out]; rfl
 have kb4 : (x.fKind == 4) = false := by rw [KK.out]; rfl
 have kb5 : (x.fKind == 5) = false := by rw [KK.out]; rfl
 have HU : Hid (stepInfo q x l st = stepJoin q x l st) := by
  show _ = _
  unfold stepInfo stepJoin
  rw [if_neg (show ¬ x.fKind = 1 by rw [KK.out]; decide)]
  by_cases a0 : x.fAtom = 0
  ·rw [if_neg (show ¬ ¬ x.fAtom = 0 from fun h => h a0), if_neg (show ¬ x.fKind = 2 by rw [KK.out]; decide), if_neg (show ¬ ¬ x.fAtom = 0 from fun h => h a0)]
  ·rw [if_pos a0, if_pos a0]
 by_cases a0 : x.fAtom = 0
 rotate_left
 ·have ab : (x.fAtom != 0) = true := by simp [a0]
  have HS : Hid (stepInfo q x l st = none) := by show _ = _; rw [HU.out]; unfold stepJoin; rw [if_pos a0]
  clear a0
  have n0 := bkN.bx 0 _ rfl
  have n1 := bkN.bx 1 _ rfl
  have n2 := bkN.bx 2 _ rfl
  have n3 := bkN.bx 3 _ rfl
  have r0 := bkR.bx 0 _ rfl
  have fr0 := bkR.frozen 0
  have r1 := bkR.bx 1 _ rfl
  have fr1 := bkR.frozen 1
  have r2 := bkR.bx 2 _ rfl
  have fr2 := bkR.frozen 2
  have r3 := bkR.bx 3 _ rfl
  have fr3 := bkR.frozen 3
  go_wp2
  have bk3 := ((((bkR.set 0 (.int .i64 0)).set 1 (.int .i64 (-1))).set 2 (.int .i64 (-1))).set 3 (.int .i64 (-1)))
  have q0 := bk3.bx 0 _ rfl
  have q1 := bk3.bx 1 _ rfl
  have q2 := bk3.bx 2 _ rfl
  have q3 := bk3.bx 3 _ rfl
  refine bodyPost_ret (v := .tuple #[.agg #[.int .i64 0, .int .i64 (-1), .int .i64 (-1), .int .i64 (-1)], .bool false]) (by simp [results, Tryz.results181, go_sem, q0, q1, q2, q3]) rfl ?_
  exact StepI.no HS.out ((((hB.setCell (p := ⟨w.heap.size + 1 + 1, 0, none⟩) (Nat.le_trans (Nat.le_succ _) (Nat.le_succ _)) (.int .i64 0)).setCell (p := ⟨w.heap.size + 1 + 1, 1, none⟩) (Nat.le_trans (Nat.le_succ _) (Nat.le_succ _)) (.int .i64 (-1))).setCell (p := ⟨w.heap.size + 1 + 1, 2, none⟩) (Nat.le_trans (Nat.le_succ _) (Nat.le_succ _)) (.int .i64 (-1))).setCell (p := ⟨w.heap.size + 1 + 1, 3, none⟩) (Nat.le_trans (Nat.le_succ _) (Nat.le_succ _)) (.int .i64 (-1)))
 have ab : (x.fAtom != 0) = false := by simp [a0]
 have A0 := Lib.hid a0; clear a0
 by_cases hn1 : nst < 2
 ·have d1 : decide ((nst : Int) < 2) = true := decide_eq_true (by omega)
  have HS : Hid (stepInfo q x l st = none) := by show _ = _; rw [HU.out]; unfold stepJoin; rw [if_neg (fun h => h A0.out), decide_eq_false (show ¬ 2 ≤ st.length by rw [HRS.out.len]; omega), Bool.and_false, Bool.false_and]; rfl
  have n0 := bkN.bx 0 _ rfl
  have n1 := bkN.bx 1 _ rfl
  have n2 := bkN.bx 2 _ rfl
  have n3 := bkN.bx 3 _ rfl
  have r0 := bkR.bx 0 _ rfl
  have fr0 := bkR.frozen 0
  have r1 := bkR.bx 1 _ rfl
  have fr1 := bkR.frozen 1
  have r2 := bkR.bx 2 _ rfl
  have fr2 := bkR.frozen 2
  have r3 := bkR.bx 3 _ rfl
  have fr3 := bkR.frozen 3
  go_wp2
  have bk3 := ((((bkR.set 0 (.int .i64 0)).set 1 (.int .i64 (-1))).set 2 (.int .i64 (-1))).set 3 (.int .i64 (-1)))
  have q0 := bk3.bx 0 _ rfl
  have q1 := bk3.bx 1 _ rfl
  have q2 := bk3.bx 2 _ rfl
  have q3 := bk3.bx 3 _ rfl
  refine bodyPost_ret (v := .tuple #[.agg #[.int .i64 0, .int .i64 (-1), .int .i64 (-1), .int .i64 (-1)], .bool false]) (by simp [results, Tryz.results181, go_sem, q0, q1, q2, q3]) rfl ?_
  exact StepI.no HS.out ((((hB.setCell (p := ⟨w.heap.size + 1 + 1, 0, none⟩) (Nat.le_trans (Nat.le_succ _) (Nat.le_succ _)) (.int .i64 0)).setCell (p := ⟨w.heap.size + 1 + 1, 1, none⟩) (Nat.le_trans (Nat.le_succ _) (Nat.le_succ _)) (.int .i64 (-1))).setCell (p := ⟨w.heap.size + 1 + 1, 2, none⟩) (Nat.le_trans (Nat.le_succ _) (Nat.le_succ _)) (.int .i64 (-1))).setCell (p := ⟨w.heap.size + 1 + 1, 3, none⟩) (Nat.le_trans (Nat.le_succ _) (Nat.le_succ _)) (.int .i64 (-1)))
 have d1 : decide ((nst : Int) < 2) = false := decide_eq_false (by omega)
 obtain ⟨t, ht⟩ : ∃ t, t + 2 = nst := ⟨nst - 2, by omega⟩
 obtain ⟨u, hu⟩ : ∃ u, u + 1 = nst := ⟨nst - 1, by omega⟩
 obtain ⟨j, y, bS, oS, bI, oI, tr⟩ := topRead HR.out HRS.out HRL.out (t := t) (k := 2) ht (by omega)
 obtain ⟨i, z, bS', oS', bI', oI', tz⟩ := topRead HR.out HRS.out HRL.out (t := u) (k := 1) hu (by omega)
 have eq1 := tr.eS.symm.trans tz.eS
 have eq2 := tr.eI.symm.trans tz.eI
 injection eq1 with eq1; injection eq1 with eq1 eq3; subst eq1; subst eq3
 injection eq2 with eq2; injection eq2 with eq2 eq4; subst eq2; subst eq4
 have hj := tr.hj
 have hi := tz.hj
 have m0 := tr.m0
 have m16 : y.fMask < 16 := by have := tr.m1; have := HN16.out; omega
 have n0' := tz.m0
 have n16 : z.fMask < 16 := by have := tz.m1; have := HN16.out; omega
 have mj : IntKind.i64.wrap ((nst : Int) - 2) = (t : Int) := by rw [IntWalk.i64_in _ (by omega)]; omega
 have mi : IntKind.i64.wrap ((nst : Int) - 1) = (u : Int) := by rw [IntWalk.i64_in _ (by omega)]; omega
 have htn : t < nst := by omega
 have hun : u < nst := by omega
 have hn1' : 2 ≤ st.length := by rw [HRS.out.len]; omega
 have eS := tr.eS
 have eI := tr.eI
 subst eS
 subst eI
 have HN1 := Lib.hid hn1'; clear hn1' ht hu
 have HJ : Hid (stepInfo q x l st = if joinOk q y z then (if x.fOrder = 0 then some (⟨orI y.fMask z.fMask, -1, (j : Int), (i : Int)⟩, 2) else none) else none) := by
  show _ = _
  rw [HU.out]; unfold stepJoin
  rw [if_neg (fun h => h A0.out), decide_eq_true HN1.out, tr.yj, tz.yj, tr.tj, tz.tj, show inR x.fKind 3 5 = true by rw [KK.out]; rfl]
  cases joinOk q y z
  ·rfl
  ·simp only [Bool.true_and, if_true]
   rw [if_neg (show ¬ x.fKind = 4 by rw [KK.out]; decide), if_neg (show ¬ x.fKind = 5 by rw [KK.out]; decide)]
 have HS20 : Hid (∀ w', Below w.heap.size w w' → (w'.cell? ⟨bS, oS + t, none⟩ = some (.int .i64 j) ∧ w'.cell? ⟨bS, oS + u, none⟩ = some (.int .i64 i))) := by
  show ∀ w', _ → _
  intro w' hb
  exact ⟨(tr.below hb).cS, (tz.below hb).cS⟩
 clear kx_0 kx_2 kq_0 kq_1
 have kx_0 := bxx 0 _ rfl
 have n0 := bkN.bx 0 _ rfl
 have fn0 := bkN.frozen 0
 have n1 := bkN.bx 1 _ rfl
 have fn1 := bkN.frozen 1
 have n2 := bkN.bx 2 _ rfl
 have fn2 := bkN.frozen 2
 have n3 := bkN.bx 3 _ rfl
 have fn3 := bkN.frozen 3
 go_wp2
 refine hbg HS20.out hB.drew (fun hHeld => ?_)
 refine tka 0 111 hHeld ?_; simp only [putS]
 refine tka 1 112 hHeld ?_; simp only [putS]
 refine tka 2 113 hHeld ?_; simp only [putS]
 refine tka 3 114 hHeld ?_; simp only [putS]
 refine tka 4 115 hHeld ?_; simp only [putS]
 refine tka 5 116 hHeld ?_; simp only [putS]
 refine tka 6 117 hHeld ?_; simp only [putS]
 refine tka 7 118 hHeld ?_; simp only [putS]
 refine tka 8 119 hHeld ?_; simp only [putS]
 refine tka 9 120 hHeld ?_; simp only [putS]
 refine tka 10 121 hHeld ?_; simp only [putS]
 refine wpAnyH_ready (rs := [11]) (by kernel_rfl) (by simp) ?_
 refine AllReadyH.cons (o := ⟨none, _, _, _, _, _⟩) rfl (fun K hK => ?_) AllReadyH.nil
 clear hHeld
 go_simp
 refine hK.out _ _ (HS20.out _ (hB.setCell (p := ⟨w.heap.size + 1 + 1 + 1, 2, none⟩) (by show w.heap.size ≤ w.heap.size + 1 + 1 + 1; omega) _).drew) (fun hHeld => ?_)
 clear hK K
 try simp only [putS]
 refine tka 12 122 hHeld ?_; simp only [putS]
 refine wpAnyH_ready (rs := [13]) (by kernel_rfl) (by simp) ?_
 refine AllReadyH.cons (o := ⟨none, _, _, _, _, _⟩) rfl (fun K hK => ?_) AllReadyH.nil
 clear hHeld
 go_simp
 refine hK.out _ _ (HS20.out _ ((hB.setCell (p := ⟨w.heap.size + 1 + 1 + 1, 2, none⟩) (by show w.heap.size ≤ w.heap.size + 1 + 1 + 1; omega) _).setCell (p := ⟨w.heap.size + 1 + 1 + 1, 3, none⟩) (by show w.heap.size ≤ w.heap.size + 1 + 1 + 1; omega) _).drew) (fun hHeld => ?_)
 clear hK K
 try simp only [putS]
 refine wpAnyH_done (by kernel_rfl) ?_ _
 clear hHeld
 obtain ⟨wc, hwc⟩ : ∃ W, W = ((wb.setCell ⟨w.heap.size + 1 + 1 + 1, 2, none⟩ (.int .i64 j)).setCell ⟨w.heap.size + 1 + 1 + 1, 3, none⟩ (.int .i64 i)).drew := ⟨_, rfl⟩
 replace bkN : Bk wc (w.heap.size + 1 + 1 + 1) 182 [.int .i64 0, .int .i64 (-1), .int .i64 j, .int .i64 i] := by rw [hwc]; exact (bkN.set 2 (.int .i64 j)).set 3 (.int .i64 i)
 replace bkR : Bk wc (w.heap.size + 1 + 1) 182 [.int .i64 0, .int .i64 0, .int .i64 0, .int .i64 0] := by rw [hwc]; exact (bkR.setNe (k := w.heap.size + 1 + 1 + 1) (j := 2) (v := .int .i64 j) (by omega)).setNe (k := w.heap.size + 1 + 1 + 1) (j := 3) (v := .int .i64 i) (by omega)
 replace bxq : Bx wc w.heap.size [.int .i64 q.fVariableCount, .slice AqAtoms nqAtoms cqAtoms] := by rw [hwc]; exact (bxq.setNe (k := w.heap.size + 1 + 1 + 1) (j := 2) (v := .int .i64 j) (by omega)).setNe (k := w.heap.size + 1 + 1 + 1) (j := 3) (v := .int .i64 i) (by omega)
 replace bxx : Bx wc (w.heap.size + 1) [.int .i64 x.fKind, .int .i64 x.fAtom, .int .i64 x.fOrder] := by rw [hwc]; exact (bxx.setNe (k := w.heap.size + 1 + 1 + 1) (j := 2) (v := .int .i64 j) (by omega)).setNe (k := w.heap.size + 1 + 1 + 1) (j := 3) (v := .int .i64 i) (by omega)
 replace hB : Below w.heap.size w wc := by rw [hwc]; exact ((hB.setCell (p := ⟨w.heap.size + 1 + 1 + 1, 2, none⟩) (by show w.heap.size ≤ w.heap.size + 1 + 1 + 1; omega) _).setCell (p := ⟨w.heap.size + 1 + 1 + 1, 3, none⟩) (by show w.heap.size ≤ w.heap.size + 1 + 1 + 1; omega) _).drew
 rw [← hwc]
 clear hwc mj mi kx_0 n0 n1 n2 n3 fn0 fn1 fn2 fn3 HS20
 have tyc := tr.below hB
 have tzc := tz.below hB
 have HS21 : Hid (∀ w', Below wc.heap.size wc w' → (w'.cell? ⟨w.heap.size + 1 + 1 + 1, 2, none⟩ = some (.int .i64 j) ∧ w'.cell? ⟨w.heap.size + 1 + 1 + 1, 3, none⟩ = some (.int .i64 i) ∧ w'.cell? ⟨bI, oI + j * 4, none⟩ = some (.int .i64 y.fMask) ∧ w'.cell? ⟨bI, oI + j * 4 + 1, none⟩ = some (.int .i64 y.fOrder) ∧ w'.cell? ⟨bI, oI + j * 4 + 2, none⟩ = some (.int .i64 y.fLeft) ∧ w'.cell? ⟨bI, oI + j * 4 + 3, none⟩ = some (.int .i64 y.fRight) ∧ w'.cell? ⟨bI, oI + i * 4, none⟩ = some (.int .i64 z.fMask) ∧ w'.cell? ⟨bI, oI + i * 4 + 1, none⟩ = some (.int .i64 z.fOrder) ∧ w'.cell? ⟨bI, oI + i * 4 + 2, none⟩ = some (.int .i64 z.fLeft) ∧ w'.cell? ⟨bI, oI + i * 4 + 3, none⟩ = some (.int .i64 z.fRight))) := by
  show ∀ w', _ → _
  intro w' hb
  exact ⟨(bkN.below hb).bx 2 _ rfl, (bkN.below hb).bx 3 _ rfl, cells_below hb _ _ tyc.c0, cells_below hb _ _ tyc.c1, cells_below hb _ _ tyc.c2, cells_below hb _ _ tyc.c3, cells_below hb _ _ tzc.c0, cells_below hb _ _ tzc.c1, cells_below hb _ _ tzc.c2, cells_below hb _ _ tzc.c3⟩
 go_wp2
 refine hbg HS21.out (Below.refl _ _).drew (fun hHeld => ?_)
 refine tka 0 123 hHeld ?_; simp only [putS]
 refine tka 1 124 hHeld ?_; simp only [putS]
 refine tka 2 125 hHeld ?_; simp only [putS]
 refine tka 3 126 hHeld ?_; simp only [putS]
 refine tka 4 127 hHeld ?_; simp only [putS]
 refine tka 5 128 hHeld ?_; simp only [putS]
 refine tka 6 129 hHeld ?_; simp only [putS]
 refine tka 7 130 hHeld ?_; simp only [putS]
 refine tka 8 131 hHeld ?_; simp only [putS]
 refine tka 9 132 hHeld ?_; simp only [putS]
 refine wpAnyH_ready (rs := [10, 11]) (by kernel_rfl) (by simp) ?_
 refine (AllReadyH.cons (o := ⟨some 12, _, _, _, _, _⟩) rfl (fun K hK => ?_) (AllReadyH.cons (o := ⟨some 13, _, _, _, _, _⟩) rfl (fun K hK => ?_) AllReadyH.nil))
 all_goals clear hHeld
 ·go_simp
  refine hK.out _ _ (HS21.out _ ((Below.refl wc.heap.size wc).alloc (Nat.le_refl _) _).drew) (fun hHeld => ?_)
  clear hK K
  try simp only [putS]
  refine wpAnyH_ready (rs := [11]) (by kernel_rfl) (by simp) ?_
  refine AllReadyH.cons (o := ⟨some 13, _, _, _, _, _⟩) rfl (fun K hK => ?_) AllReadyH.nil
  clear hHeld
  go_simp
  refine hK.out _ _ (HS21.out _ (((Below.refl wc.heap.size wc).alloc (Nat.le_refl _) _).alloc (by simp) _).drew) (fun hHeld => ?_)
  clear hK K
  try simp only [putS]
  refine wpAnyH_ready (rs := [12]) (by kernel_rfl) (by simp) ?_
  refine AllReadyH.cons (o := ⟨none, _, _, _, _, _⟩) rfl (fun K hK => ?_) AllReadyH.nil
  clear hHeld
  go_simp
  refine hK.out _ _ (HS21.out _ (((Below.refl wc.heap.size wc).alloc (Nat.le_refl _) _).alloc (by simp) _).drew) (fun hHeld => ?_)
  clear hK K
  try simp only [putS]
  refine wpAnyH_ready (rs := [13]) (by kernel_rfl) (by simp) ?_
  refine AllReadyH.cons (o := ⟨none, _, _, _, _, _⟩) rfl (fun K hK => ?_) AllReadyH.nil
  clear hHeld
  go_simp
  refine hK.out _ _ (HS21.out _ (((Below.refl wc.heap.size wc).alloc (Nat.le_refl _) _).alloc (by simp) _).drew) (fun hHeld => ?_)
  clear hK K
  try simp only [putS]
  refine wpAnyH_done (by kernel_rfl) ?_ _
  clear hHeld
  obtain ⟨wd, hwd⟩ : ∃ W, W = ((wc.alloc (.cells #[.int .i64 y.fMask, .int .i64 y.fOrder, .int .i64 y.fLeft, .int .i64 y.fRight] 182)).alloc (.cells #[.int .i64 z.fMask, .int .i64 z.fOrder, .int .i64 z.fLeft, .int .i64 z.fRight] 182)).drew := ⟨_, rfl⟩
  have bkY : Bk wd (wc.heap.size) 182 [.int .i64 y.fMask, .int .i64 y.fOrder, .int .i64 y.fLeft, .int .i64 y.fRight] := by rw [hwd]; exact (Bk.new wc _ _).below ((Below.refl _ _).alloc (Nat.le_refl _) _).drew
  have bkZ : Bk wd (wc.heap.size + 1) 182 [.int .i64 z.fMask, .int .i64 z.fOrder, .int .i64 z.fLeft, .int .i64 z.fRight] := by rw [hwd]; have h := Bk.new (wc.alloc (.cells #[.int .i64 y.fMask, .int .i64 y.fOrder, .int .i64 y.fLeft, .int .i64 y.fRight] 182)) [.int .i64 z.fMask, .int .i64 z.fOrder, .int .i64 z.fLeft, .int .i64 z.fRight] 182; simp only [World.size_alloc] at h; exact h
  have hcd : Below wc.heap.size wc wd := by rw [hwd]; exact (((Below.refl wc.heap.size wc).alloc (Nat.le_refl _) _).alloc (by simp) _).drew
  rw [← hwd]
  clear hwd HS21 tyc tzc
  have hgN : w.heap.size + 1 + 1 + 1 < wc.heap.size := bkN.lt
  have hB0 := hB
  replace hB := hB.trans (hcd.mono hB.size)
  replace bkN := bkN.below hcd
  replace bkR := bkR.below hcd
  replace bxq := bxq.below hcd
  replace bxx := bxx.below hcd
  have HS21 : Hid (∀ w', Below wd.heap.size wd w' → (w'.cell? ⟨w.heap.size, 0, none⟩ = some (.int .i64 q.fVariableCount) ∧ w'.cell? ⟨w.heap.size, 1, none⟩ = some (.slice AqAtoms nqAtoms cqAtoms) ∧ w'.cell? ⟨wc.heap.size, 0, none⟩ = some (.int .i64 y.fMask) ∧ w'.cell? ⟨wc.heap.size + 1, 0, none⟩ = some (.int .i64 z.fMask))) := by
   show ∀ w', _ → _
   intro w' hb
   exact ⟨(bxq.below hb) 0 _ rfl, (bxq.below hb) 1 _ rfl, (bkY.below hb).bx 0 _ rfl, (bkZ.below hb).bx 0 _ rfl⟩
  have RV : Hid (∀ W, Below w.heap.size w W → (rQuery NB).rep W [.int .i64 q.fVariableCount, .slice AqAtoms nqAtoms cqAtoms] q) := by
   show ∀ W, _ → _
   intro W hW
   exact ((rQuery_ok NB).keep rq (cells_below hW))
  have HBd := Lib.hid hB
  clear hcd
  go_wp2
  refine hbg HS21.out (Below.refl _ _).drew (fun hHeld => ?_)
  refine tka 0 133 hHeld ?_; simp only [putS]
  refine tka 1 134 hHeld ?_; simp only [putS]
  refine tka 2 135 hHeld ?_; simp only [putS]
  refine tka 4 137 hHeld ?_; simp only [putS]
  refine tka 5 138 hHeld ?_; simp only [putS]
  refine tka 6 139 hHeld ?_; simp only [putS]
  refine wpAnyH_ready (rs := [3]) (by kernel_rfl) (by simp) ?_
  refine AllReadyH.cons (o := ⟨some 136, _, _, _, _, _⟩) rfl (fun K hK => ?_) AllReadyH.nil
  clear hHeld
  go_simp
  refine (iVariables_c _ q y.fMask _ (RV.out _ HBd.out.drew) HV.out (by omega) (by omega)).mono ?_
  rintro e we ⟨AV, nV, cV, rfl, hMV, hbe⟩
  have hC1 : Below wd.heap.size wd we := (Below.refl _ wd).drew.trans hbe
  go_wp2_with fail
  refine hK.out _ _ (HS21.out _ hC1) (fun hHeld => ?_)
  clear hK K
  try simp only [putS]
  refine wpAnyH_ready (rs := [7]) (by kernel_rfl) (by simp) ?_
  refine AllReadyH.cons (o := ⟨some 140, _, _, _, _, _⟩) rfl (fun K hK => ?_) AllReadyH.nil
  clear hHeld
  go_simp
  refine (iVariables_c _ q z.fMask _ (RV.out _ (HBd.out.trans (hC1.mono HBd.out.size))) HV.out (by omega) (by omega)).mono ?_
  rintro e wf ⟨AW, nW, cW, rfl, hMW, hbf⟩
  have hC2 : Below wd.heap.size wd wf := hC1.trans (hbf.mono hC1.size)
  go_wp2_with fail
  refine hK.out _ _ (HS21.out _ hC2) (fun hHeld => ?_)
  clear hK K
  try simp only [putS]
  have hRA := (hMV.rs rInt_ok).below rInt_ok hbf
  have hRB := hMW.rs rInt_ok
  refine wpAnyH_ready (rs := [8]) (by kernel_rfl) (by simp) ?_
  refine AllReadyH.cons (o := ⟨some 141, _, _, _, _, _⟩) rfl (fun K hK => ?_) AllReadyH.nil
  clear hHeld
  go_simp
  refine (iBoth_c _ _ _ _ _ _ _ _ _ hRA hRB).mono ?_
  rintro e wg ⟨AX, nX, cX, rfl, hMX, hbg⟩
  have hC : Below wd.heap.size wd wg := hC2.trans (hbg.mono hC2.size)
  go_wp2_with fail
  refine hK.out _ _ (HS21.out _ hC) (fun hHeld => ?_)
  clear hK K
  try simp only [putS]
  refine tka 9 14 hHeld ?_; simp only [putS]
  refine wpAnyH_done (by kernel_rfl) ?_ _
  clear hHeld
  have hXB : wd.heap.size ≤ wf.heap.size := hC2.size
  have HXL := Lib.hid hMX.len
  clear hRA hRB hMV hMW hbe hbf hbg hC1 hC2 RV HS21
  have hgD : wc.heap.size + 1 < wd.heap.size := bkZ.lt
  replace hB := hB.trans (hC.mono hB.size)
  replace bkN := bkN.below hC
  replace bkR := bkR.below hC
  replace bxq := bxq.below hC
  replace bxx := bxx.below hC
  replace bkY := bkY.below hC
  replace bkZ := bkZ.below hC
  have pO := orI_bits (a := y.fMask) (b := z.fMask) (by omega) (by omega) (by omega) (by omega)
  have cy0 := bkY.bx 0 _ rfl
  have cz0 := bkZ.bx 0 _ rfl
  have n0 := bkN.bx 0 _ rfl
  have fn0 := bkN.frozen 0
  have n1 := bkN.bx 1 _ rfl
  have fn1 := bkN.frozen 1
  have n2 := bkN.bx 2 _ rfl
  have fn2 := bkN.frozen 2
  have n3 := bkN.bx 3 _ rfl
  have fn3 := bkN.frozen 3
  go_upto_region 24 with fail
  obtain ⟨wh, hw1⟩ : ∃ W, W = wg.setCell ⟨w.heap.size + 1 + 1 + 1, 0, none⟩ (.int .i64 (orI y.fMask z.fMask)) := ⟨_, rfl⟩
  replace bkN := bkN.set 0 (.int .i64 (orI y.fMask z.fMask))
  replace bkR := bkR.setNe (k := w.heap.size + 1 + 1 + 1) (j := 0) (v := .int .i64 (orI y.fMask z.fMask)) (by omega)
  replace bxq := bxq.setNe (k := w.heap.size + 1 + 1 + 1) (j := 0) (v := .int .i64 (orI y.fMask z.fMask)) (by omega)
  replace bxx := bxx.setNe (k := w.heap.size + 1 + 1 + 1) (j := 0) (v := .int .i64 (orI y.fMask z.fMask)) (by omega)
  replace hB := hB.setCell (p := ⟨w.heap.size + 1 + 1 + 1, 0, none⟩) (by show w.heap.size ≤ w.heap.size + 1 + 1 + 1; omega) (.int .i64 (orI y.fMask z.fMask))
  replace bkY := bkY.setNe (k := w.heap.size + 1 + 1 + 1) (j := 0) (v := .int .i64 (orI y.fMask z.fMask)) (by omega)
  replace bkZ := bkZ.setNe (k := w.heap.size + 1 + 1 + 1) (j := 0) (v := .int .i64 (orI y.fMask z.fMask)) (by omega)
  replace hMX := hMX.setNe rInt_ok (k := w.heap.size + 1 + 1 + 1) (j := 0) (v := .int .i64 (orI y.fMask z.fMask)) (by omega)
  rw [← hw1] at bkN bkR bxq bxx hB bkY bkZ hMX ⊢
  clear hw1 n0 n1 n2 n3 fn0 fn1 fn2 fn3
  clear pO cy0 cz0
  have cy0 := bkY.bx 0 _ rfl
  have cz0 := bkZ.bx 0 _ rfl
  have kx_0 := bxx 0 _ rfl
  have pA := andI_bits (a := y.fMask) (b := z.fMask) (by omega) (by omega) (by omega) (by omega)
  by_cases z1 : andI y.fMask z.fMask = 0
  rotate_left
  ·have zb : (andI y.fMask z.fMask != 0) = true := by simp [z1]
   have HS : Hid (stepInfo q x l st = none) := by show _ = _; rw [HJ.out, if_neg]; unfold joinOk; rw [decide_eq_false z1]; simp
   clear z1
   have n0 := bkN.bx 0 _ rfl
   have n1 := bkN.bx 1 _ rfl
   have n2 := bkN.bx 2 _ rfl
   have n3 := bkN.bx 3 _ rfl
   have r0 := bkR.bx 0 _ rfl
   have fr0 := bkR.frozen 0
   have r1 := bkR.bx 1 _ rfl
   have fr1 := bkR.frozen 1
   have r2 := bkR.bx 2 _ rfl
   have fr2 := bkR.frozen 2
   have r3 := bkR.bx 3 _ rfl
   have fr3 := bkR.frozen 3
   go_wp2
   have bk3 := ((((bkR.set 0 (.int .i64 (orI y.fMask z.fMask))).set 1 (.int .i64 (-1))).set 2 (.int .i64 j)).set 3 (.int .i64 i))
   have q0 := bk3.bx 0 _ rfl
   have q1 := bk3.bx 1 _ rfl
   have q2 := bk3.bx 2 _ rfl
   have q3 := bk3.bx 3 _ rfl
   refine bodyPost_ret (v := .tuple #[.agg #[.int .i64 (orI y.fMask z.fMask), .int .i64 (-1), .int .i64 j, .int .i64 i], .bool false]) (by simp [results, Tryz.results181, go_sem, q0, q1, q2, q3]) rfl ?_
   exact StepI.no HS.out ((((hB.setCell (p := ⟨w.heap.size + 1 + 1, 0, none⟩) (Nat.le_trans (Nat.le_succ _) (Nat.le_succ _)) (.int .i64 (orI y.fMask z.fMask))).setCell (p := ⟨w.heap.size + 1 + 1, 1, none⟩) (Nat.le_trans (Nat.le_succ _) (Nat.le_succ _)) (.int .i64 (-1))).setCell (p := ⟨w.heap.size + 1 + 1, 2, none⟩) (Nat.le_trans (Nat.le_succ _) (Nat.le_succ _)) (.int .i64 j)).setCell (p := ⟨w.heap.size + 1 + 1, 3, none⟩) (Nat.le_trans (Nat.le_succ _) (Nat.le_succ _)) (.int .i64 i))
  have zb : (andI y.fMask z.fMask != 0) = false := by simp [z1]
  have Z1 := Lib.hid z1; clear z1
  have HSN := Lib.hid (shared_none HV.out y.fMask z.fMask)
  by_cases v1 : nX = 0
  ·have vb : ((nX : Int) == 0) = true := by simp [v1]
   have HS : Hid (stepInfo q x l st = none) := by show _ = _; rw [HJ.out, if_neg]; unfold joinOk; rw [decide_eq_false (show ¬ ¬ andI (bitsQ q.fAtoms y.fMask) (bitsQ q.fAtoms z.fMask) = 0 from fun h => h (HSN.out.1 (HXL.out.trans v1)))]; simp
   clear v1
   have n0 := bkN.bx 0 _ rfl
   have n1 := bkN.bx 1 _ rfl
   have n2 := bkN.bx 2 _ rfl
   have n3 := bkN.bx 3 _ rfl
   have r0 := bkR.bx 0 _ rfl
   have fr0 := bkR.frozen 0
   have r1 := bkR.bx 1 _ rfl
   have fr1 := bkR.frozen 1
   have r2 := bkR.bx 2 _ rfl
   have fr2 := bkR.frozen 2
   have r3 := bkR.bx 3 _ rfl
   have fr3 := bkR.frozen 3
   go_wp2
   have bk3 := ((((bkR.set 0 (.int .i64 (orI y.fMask z.fMask))).set 1 (.int .i64 (-1))).set 2 (.int .i64 j)).set 3 (.int .i64 i))
   have q0 := bk3.bx 0 _ rfl
   have q1 := bk3.bx 1 _ rfl
   have q2 := bk3.bx 2 _ rfl
   have q3 := bk3.bx 3 _ rfl
   refine bodyPost_ret (v := .tuple #[.agg #[.int .i64 (orI y.fMask z.fMask), .int .i64 (-1), .int .i64 j, .int .i64 i], .bool false]) (by simp [results, Tryz.results181, go_sem, q0, q1, q2, q3]) rfl ?_
   exact StepI.no HS.out ((((hB.setCell (p := ⟨w.heap.size + 1 + 1, 0, none⟩) (Nat.le_trans (Nat.le_succ _) (Nat.le_succ _)) (.int .i64 (orI y.fMask z.fMask))).setCell (p := ⟨w.heap.size + 1 + 1, 1, none⟩) (Nat.le_trans (Nat.le_succ _) (Nat.le_succ _)) (.int .i64 (-1))).setCell (p := ⟨w.heap.size + 1 + 1, 2, none⟩) (Nat.le_trans (Nat.le_succ _) (Nat.le_succ _)) (.int .i64 j)).setCell (p := ⟨w.heap.size + 1 + 1, 3, none⟩) (Nat.le_trans (Nat.le_succ _) (Nat.le_succ _)) (.int .i64 i))
  have vb : ((nX : Int) == 0) = false := by simp [v1]
  have HOK : Hid (joinOk q y z = true) := by show _ = _; unfold joinOk; rw [decide_eq_true Z1.out, decide_eq_true (show ¬ andI (bitsQ q.fAtoms y.fMask) (bitsQ q.fAtoms z.fMask) = 0 from fun h => v1 (HXL.out.symm.trans (HSN.out.2 h)))]; rfl
  clear v1
  go_upto_region 28 with fail
  clear kx_0 cy0 cz0 pA zb vb
  by_cases o1 : x.fOrder = 0
  ·have ob : (x.fOrder == 0) = true := by simp [o1]
   have HS : Hid (stepInfo q x l st = some (⟨orI y.fMask z.fMask, (-1), (j : Int), (i : Int)⟩, 2)) := by show _ = _; rw [HJ.out, if_pos HOK.out, if_pos o1]
   clear o1
   have HS21 : Hid (∀ w', Chg [w.heap.size + 1 + 1] wh w' → (w'.cell? ⟨w.heap.size + 1 + 1 + 1, 0, none⟩ = some (.int .i64 (orI y.fMask z.fMask)) ∧ w'.cell? ⟨w.heap.size + 1 + 1 + 1, 1, none⟩ = some (.int .i64 (-1)) ∧ w'.cell? ⟨w.heap.size + 1 + 1 + 1, 2, none⟩ = some (.int .i64 j) ∧ w'.cell? ⟨w.heap.size + 1 + 1 + 1, 3, none⟩ = some (.int .i64 i) ∧ w'.cell? ⟨w.heap.size + 1, 2, none⟩ = some (.int .i64 x.fOrder))) := by
    show ∀ w', _ → _
    intro w' hc
    have hcN := bkChg bkN hc (by simp)
    have hcX : ∀ j v, [.int .i64 x.fKind, .int .i64 x.fAtom, .int .i64 x.fOrder][j]? = some v → w'.cell? ⟨w.heap.size + 1, j, none⟩ = some v := fun j v hj => (chgCell hc (p := ⟨w.heap.size + 1, j, none⟩) (by have := bkN.lt; show w.heap.size + 1 < _; omega) (by simp)).trans (bxx j v hj)
    exact ⟨hcN.bx 0 _ rfl, hcN.bx 1 _ rfl, hcN.bx 2 _ rfl, hcN.bx 3 _ rfl, hcX 2 _ rfl⟩
   have r0 := bkR.bx 0 _ rfl
   have fr0 := bkR.frozen 0
   have r1 := bkR.bx 1 _ rfl
   have fr1 := bkR.frozen 1
   have r2 := bkR.bx 2 _ rfl
   have fr2 := bkR.frozen 2
   have r3 := bkR.bx 3 _ rfl
   have fr3 := bkR.frozen 3
   go_wp2
   refine hbg HS21.out (Chg.ofBelow ((Below.refl _ _).drew) _) (fun hHeld => ?_)
   refine tka 0 164 hHeld ?_; simp only [putS]
   refine tka 1 165 hHeld ?_; simp only [putS]
   refine tka 2 166 hHeld ?_; simp only [putS]
   refine tka 3 167 hHeld ?_; simp only [putS]
   refine wpAnyH_ready (rs := [4]) (by kernel_rfl) (by simp) ?_
   refine AllReadyH.cons (o := ⟨none, _, _, _, _, _⟩) rfl (fun K hK => ?_) AllReadyH.nil
   clear hHeld
   go_simp
   refine hK.out _ _ (HS21.out _ (((((((Chg.refl [w.heap.size + 1 + 1] wh).setCell (g := w.heap.size + 1 + 1) (by simp) 0 (.int .i64 (orI y.fMask z.fMask))).setCell (g := w.heap.size + 1 + 1) (by simp) 1 (.int .i64 (-1))).setCell (g := w.heap.size + 1 + 1) (by simp) 2 (.int .i64 j)).setCell (g := w.heap.size + 1 + 1) (by simp) 3 (.int .i64 i))).trans (Chg.ofBelow ((Below.refl _ _).drew) _))) (fun hHeld => ?_)
   clear hK K
   try simp only [putS]
   refine tka 5 9 hHeld ?_; simp only [putS]
   refine wpAnyH_done (by kernel_rfl) ?_ _
   clear hHeld
   go_wp2
   have bk3 := ((((bkR.set 0 (.int .i64 (orI y.fMask z.fMask))).set 1 (.int .i64 (-1))).set 2 (.int .i64 j)).set 3 (.int .i64 i))
   have q0 := bk3.bx 0 _ rfl
   have q1 := bk3.bx 1 _ rfl
   have q2 := bk3.bx 2 _ rfl
   have q3 := bk3.bx 3 _ rfl
   refine bodyPost_ret (v := .tuple #[.agg #[.int .i64 (orI y.fMask z.fMask), .int .i64 (-1), .int .i64 j, .int .i64 i], .bool true]) (by simp [results, Tryz.results181, go_sem, q0, q1, q2, q3]) rfl ?_
   exact StepI.yes HS.out ⟨by omega, by omega⟩ ((((hB.setCell (p := ⟨w.heap.size + 1 + 1, 0, none⟩) (Nat.le_trans (Nat.le_succ _) (Nat.le_succ _)) (.int .i64 (orI y.fMask z.fMask))).setCell (p := ⟨w.heap.size + 1 + 1, 1, none⟩) (Nat.le_trans (Nat.le_succ _) (Nat.le_succ _)) (.int .i64 (-1))).setCell (p := ⟨w.heap.size + 1 + 1, 2, none⟩) (Nat.le_trans (Nat.le_succ _) (Nat.le_succ _)) (.int .i64 j)).setCell (p := ⟨w.heap.size + 1 + 1, 3, none⟩) (Nat.le_trans (Nat.le_succ _) (Nat.le_succ _)) (.int .i64 i)).drew
  ·have ob : (x.fOrder == 0) = false := by simp [o1]
   have HS : Hid (stepInfo q x l st = none) := by show _ = _; rw [HJ.out, if_pos HOK.out, if_neg o1]
   clear o1
   have HS21 : Hid (∀ w', Chg [w.heap.size + 1 + 1] wh w' → (w'.cell? ⟨w.heap.size + 1 + 1 + 1, 0, none⟩ = some (.int .i64 (orI y.fMask z.fMask)) ∧ w'.cell? ⟨w.heap.size + 1 + 1 + 1, 1, none⟩ = some (.int .i64 (-1)) ∧ w'.cell? ⟨w.heap.size + 1 + 1 + 1, 2, none⟩ = some (.int .i64 j) ∧ w'.cell? ⟨w.heap.size + 1 + 1 + 1, 3, none⟩ = some (.int .i64 i) ∧ w'.cell? ⟨w.heap.size + 1, 2, none⟩ = some (.int .i64 x.fOrder))) := by
    show ∀ w', _ → _
    intro w' hc
    have hcN := bkChg bkN hc (by simp)
    have hcX : ∀ j v, [.int .i64 x.fKind, .int .i64 x.fAtom, .int .i64 x.fOrder][j]? = some v → w'.cell? ⟨w.heap.size + 1, j, none⟩ = some v := fun j v hj => (chgCell hc (p := ⟨w.heap.size + 1, j, none⟩) (by have := bkN.lt; show w.heap.size + 1 < _; omega) (by simp)).trans (bxx j v hj)
    exact ⟨hcN.bx 0 _ rfl, hcN.bx 1 _ rfl, hcN.bx 2 _ rfl, hcN.bx 3 _ rfl, hcX 2 _ rfl⟩
   have r0 := bkR.bx 0 _ rfl
   have fr0 := bkR.frozen 0
   have r1 := bkR.bx 1 _ rfl
   have fr1 := bkR.frozen 1
   have r2 := bkR.bx 2 _ rfl
   have fr2 := bkR.frozen 2
   have r3 := bkR.bx 3 _ rfl
   have fr3 := bkR.frozen 3
   go_wp2
   refine hbg HS21.out (Chg.ofBelow ((Below.refl _ _).drew) _) (fun hHeld => ?_)
   refine tka 0 164 hHeld ?_; simp only [putS]
   refine tka 1 165 hHeld ?_; simp only [putS]
   refine tka 2 166 hHeld ?_; simp only [putS]
   refine tka 3 167 hHeld ?_; simp only [putS]
   refine wpAnyH_ready (rs := [4]) (by kernel_rfl) (by simp) ?_
   refine AllReadyH.cons (o := ⟨none, _, _, _, _, _⟩) rfl (fun K hK => ?_) AllReadyH.nil
   clear hHeld
   go_simp
   refine hK.out _ _ (HS21.out _ (((((((Chg.refl [w.heap.size + 1 + 1] wh).setCell (g := w.heap.size + 1 + 1) (by simp) 0 (.int .i64 (orI y.fMask z.fMask))).setCell (g := w.heap.size + 1 + 1) (by simp) 1 (.int .i64 (-1))).setCell (g := w.heap.size + 1 + 1) (by simp) 2 (.int .i64 j)).setCell (g := w.heap.size + 1 + 1) (by simp) 3 (.int .i64 i))).trans (Chg.ofBelow ((Below.refl _ _).drew) _))) (fun hHeld => ?_)
   clear hK K
   try simp only [putS]
   refine tka 5 9 hHeld ?_; simp only [putS]
   refine wpAnyH_done (by kernel_rfl) ?_ _
   clear hHeld
   go_wp2
   have bk3 := ((((bkR.set 0 (.int .i64 (orI y.fMask z.fMask))).set 1 (.int .i64 (-1))).set 2 (.int .i64 j)).set 3 (.int .i64 i))
   have q0 := bk3.bx 0 _ rfl
   have q1 := bk3.bx 1 _ rfl
   have q2 := bk3.bx 2 _ rfl
   have q3 := bk3.bx 3 _ rfl
   refine bodyPost_ret (v := .tuple #[.agg #[.int .i64 (orI y.fMask z.fMask), .int .i64 (-1), .int .i64 j, .int .i64 i], .bool false]) (by simp [results, Tryz.results181, go_sem, q0, q1, q2, q3]) rfl ?_
   exact StepI.no HS.out ((((hB.setCell (p := ⟨w.heap.size + 1 + 1, 0, none⟩) (Nat.le_trans (Nat.le_succ _) (Nat.le_succ _)) (.int .i64 (orI y.fMask z.fMask))).setCell (p := ⟨w.heap.size + 1 + 1, 1, none⟩) (Nat.le_trans (Nat.le_succ _) (Nat.le_succ _)) (.int .i64 (-1))).setCell (p := ⟨w.heap.size + 1 + 1, 2, none⟩) (Nat.le_trans (Nat.le_succ _) (Nat.le_succ _)) (.int .i64 j)).setCell (p := ⟨w.heap.size + 1 + 1, 3, none⟩) (Nat.le_trans (Nat.le_succ _) (Nat.le_succ _)) (.int .i64 i)).drew
 ·go_simp
  refine hK.out _ _ (HS21.out _ ((Below.refl wc.heap.size wc).alloc (Nat.le_refl _) _).drew) (fun hHeld => ?_)
  clear hK K
  try simp only [putS]
  refine wpAnyH_ready (rs := [10]) (by kernel_rfl) (by simp) ?_
  refine AllReadyH.cons (o := ⟨some 12, _, _, _, _, _⟩) rfl (fun K hK => ?_) AllReadyH.nil
  clear hHeld
  go_simp
  refine hK.out _ _ (HS21.out _ (((Below.refl wc.heap.size wc).alloc (Nat.le_refl _) _).alloc (by simp) _).drew) (fun hHeld => ?_)
  clear hK K
  try simp only [putS]
  refine wpAnyH_ready (rs := [12]) (by kernel_rfl) (by simp) ?_
  refine AllReadyH.cons (o := ⟨none, _, _, _, _, _⟩) rfl (fun K hK => ?_) AllReadyH.nil
  clear hHeld
  go_simp
  refine hK.out _ _ (HS21.out _ (((Below.refl wc.heap.size wc).alloc (Nat.le_refl _) _).alloc (by simp) _).drew) (fun hHeld => ?_)
  clear hK K
  try simp only [putS]
  refine wpAnyH_ready (rs := [13]) (by kernel_rfl) (by simp) ?_
  refine AllReadyH.cons (o := ⟨none, _, _, _, _, _⟩) rfl (fun K hK => ?_) AllReadyH.nil
  clear hHeld
  go_simp
  refine hK.out _ _ (HS21.out _ (((Below.refl wc.heap.size wc).alloc (Nat.le_refl _) _).alloc (by simp) _).drew) (fun hHeld => ?_)
  clear hK K
  try simp only [putS]
  refine wpAnyH_done (by kernel_rfl) ?_ _
  clear hHeld
  obtain ⟨wd, hwd⟩ : ∃ W, W = ((wc.alloc (.cells #[.int .i64 z.fMask, .int .i64 z.fOrder, .int .i64 z.fLeft, .int .i64 z.fRight] 182)).alloc (.cells #[.int .i64 y.fMask, .int .i64 y.fOrder, .int .i64 y.fLeft, .int .i64 y.fRight] 182)).drew := ⟨_, rfl⟩
  have bkY : Bk wd (wc.heap.size + 1) 182 [.int .i64 y.fMask, .int .i64 y.fOrder, .int .i64 y.fLeft, .int .i64 y.fRight] := by rw [hwd]; have h := Bk.new (wc.alloc (.cells #[.int .i64 z.fMask, .int .i64 z.fOrder, .int .i64 z.fLeft, .int .i64 z.fRight] 182)) [.int .i64 y.fMask, .int .i64 y.fOrder, .int .i64 y.fLeft, .int .i64 y.fRight] 182; simp only [World.size_alloc] at h; exact h
  have bkZ : Bk wd (wc.heap.size) 182 [.int .i64 z.fMask, .int .i64 z.fOrder, .int .i64 z.fLeft, .int .i64 z.fRight] := by rw [hwd]; exact (Bk.new wc _ _).below ((Below.refl _ _).alloc (Nat.le_refl _) _).drew
  have hcd : Below wc.heap.size wc wd := by rw [hwd]; exact (((Below.refl wc.heap.size wc).alloc (Nat.le_refl _) _).alloc (by simp) _).drew
  rw [← hwd]
  clear hwd HS21 tyc tzc
  have hgN : w.heap.size + 1 + 1 + 1 < wc.heap.size := bkN.lt
  have hB0 := hB
  replace hB := hB.trans (hcd.mono hB.size)
  replace bkN := bkN.below hcd
  replace bkR := bkR.below hcd
  replace bxq := bxq.below hcd
  replace bxx := bxx.below hcd
  have HS21 : Hid (∀ w', Below wd.heap.size wd w' → (w'.cell? ⟨w.heap.size, 0, none⟩ = some (.int .i64 q.fVariableCount) ∧ w'.cell? ⟨w.heap.size, 1, none⟩ = some (.slice AqAtoms nqAtoms cqAtoms) ∧ w'.cell? ⟨wc.heap.size + 1, 0, none⟩ = some (.int .i64 y.fMask) ∧ w'.cell? ⟨wc.heap.size, 0, none⟩ = some (.int .i64 z.fMask))) := by
   show ∀ w', _ → _
   intro w' hb
   exact ⟨(bxq.below hb) 0 _ rfl, (bxq.below hb) 1 _ rfl, (bkY.below hb).bx 0 _ rfl, (bkZ.below hb).bx 0 _ rfl⟩
  have RV : Hid (∀ W, Below w.heap.size w W → (rQuery NB).rep W [.int .i64 q.fVariableCount, .slice AqAtoms nqAtoms cqAtoms] q) := by
   show ∀ W, _ → _
   intro W hW
   exact ((rQuery_ok NB).keep rq (cells_below hW))
  have HBd := Lib.hid hB
  clear hcd
  go_wp2
  refine hbg HS21.out (Below.refl _ _).drew (fun hHeld => ?_)
  refine tka 0 133 hHeld ?_; simp only [putS]
  refine tka 1 134 hHeld ?_; simp only [putS]
  refine tka 2 135 hHeld ?_; simp only [putS]
  refine tka 4 137 hHeld ?_; simp only [putS]
  refine tka 5 138 hHeld ?_; simp only [putS]
  refine tka 6 139 hHeld ?_; simp only [putS]
  refine wpAnyH_ready (rs := [3]) (by kernel_rfl) (by simp) ?_
  refine AllReadyH.cons (o := ⟨some 136, _, _, _, _, _⟩) rfl (fun K hK => ?_) AllReadyH.nil
  clear hHeld
  go_simp
  refine (iVariables_c _ q y.fMask _ (RV.out _ HBd.out.drew) HV.out (by omega) (by omega)).mono ?_
  rintro e we ⟨AV, nV, cV, rfl, hMV, hbe⟩
  have hC1 : Below wd.heap.size wd we := (Below.refl _ wd).drew.trans hbe
  go_wp2_with fail
  refine hK.out _ _ (HS21.out _ hC1) (fun hHeld => ?_)
  clear hK K
  try simp only [putS]
  refine wpAnyH_ready (rs := [7]) (by kernel_rfl) (by simp) ?_
  refine AllReadyH.cons (o := ⟨some 140, _, _, _, _, _⟩) rfl (fun K hK => ?_) AllReadyH.nil
  clear hHeld
  go_simp
  refine (iVariables_c _ q z.fMask _ (RV.out _ (HBd.out.trans (hC1.mono HBd.out.size))) HV.out (by omega) (by omega)).mono ?_
  rintro e wf ⟨AW, nW, cW, rfl, hMW, hbf⟩
  have hC2 : Below wd.heap.size wd wf := hC1.trans (hbf.mono hC1.size)
  go_wp2_with fail
  refine hK.out _ _ (HS21.out _ hC2) (fun hHeld => ?_)
  clear hK K
  try simp only [putS]
  have hRA := (hMV.rs rInt_ok).below rInt_ok hbf
  have hRB := hMW.rs rInt_ok
  refine wpAnyH_ready (rs := [8]) (by kernel_rfl) (by simp) ?_
  refine AllReadyH.cons (o := ⟨some 141, _, _, _, _, _⟩) rfl (fun K hK => ?_) AllReadyH.nil
  clear hHeld
  go_simp
  refine (iBoth_c _ _ _ _ _ _ _ _ _ hRA hRB).mono ?_
  rintro e wg ⟨AX, nX, cX, rfl, hMX, hbg⟩
  have hC : Below wd.heap.size wd wg := hC2.trans (hbg.mono hC2.size)
  go_wp2_with fail
  refine hK.out _ _ (HS21.out _ hC) (fun hHeld => ?_)
  clear hK K
  try simp only [putS]
  refine tka 9 14 hHeld ?_; simp only [putS]
  refine wpAnyH_done (by kernel_rfl) ?_ _
  clear hHeld
  have hXB : wd.heap.size ≤ wf.heap.size := hC2.size
  have HXL := Lib.hid hMX.len
  clear hRA hRB hMV hMW hbe hbf hbg hC1 hC2 RV HS21
  have hgD : wc.heap.size + 1 < wd.heap.size := bkY.lt
  replace hB := hB.trans (hC.mono hB.size)
  replace bkN := bkN.below hC
  replace bkR := bkR.below hC
  replace bxq := bxq.below hC
  replace bxx := bxx.below hC
  replace bkY := bkY.below hC
  replace bkZ := bkZ.below hC
  have pO := orI_bits (a := y.fMask) (b := z.fMask) (by omega) (by omega) (by omega) (by omega)
  have cy0 := bkY.bx 0 _ rfl
  have cz0 := bkZ.bx 0 _ rfl
  have n0 := bkN.bx 0 _ rfl
  have fn0 := bkN.frozen 0
  have n1 := bkN.bx 1 _ rfl
  have fn1 := bkN.frozen 1
  have n2 := bkN.bx 2 _ rfl
  have fn2 := bkN.frozen 2
  have n3 := bkN.bx 3 _ rfl
  have fn3 := bkN.frozen 3
  go_upto_region 24 with fail
  obtain ⟨wh, hw1⟩ : ∃ W, W = wg.setCell ⟨w.heap.size + 1 + 1 + 1, 0, none⟩ (.int .i64 (orI y.fMask z.fMask)) := ⟨_, rfl⟩
  replace bkN := bkN.set 0 (.int .i64 (orI y.fMask z.fMask))
  replace bkR := bkR.setNe (k := w.heap.size + 1 + 1 + 1) (j := 0) (v := .int .i64 (orI y.fMask z.fMask)) (by omega)
  replace bxq := bxq.setNe (k := w.heap.size + 1 + 1 + 1) (j := 0) (v := .int .i64 (orI y.fMask z.fMask)) (by omega)
  replace bxx := bxx.setNe (k := w.heap.size + 1 + 1 + 1) (j := 0) (v := .int .i64 (orI y.fMask z.fMask)) (by omega)
  replace hB := hB.setCell (p := ⟨w.heap.size + 1 + 1 + 1, 0, none⟩) (by show w.heap.size ≤ w.heap.size + 1 + 1 + 1; omega) (.int .i64 (orI y.fMask z.fMask))
  replace bkY := bkY.setNe (k := w.heap.size + 1 + 1 + 1) (j := 0) (v := .int .i64 (orI y.fMask z.fMask)) (by omega)
  replace bkZ := bkZ.setNe (k := w.heap.size + 1 + 1 + 1) (j := 0) (v := .int .i64 (orI y.fMask z.fMask)) (by omega)
  replace hMX := hMX.setNe rInt_ok (k := w.heap.size + 1 + 1 + 1) (j := 0) (v := .int .i64 (orI y.fMask z.fMask)) (by omega)
  rw [← hw1] at bkN bkR bxq bxx hB bkY bkZ hMX ⊢
  clear hw1 n0 n1 n2 n3 fn0 fn1 fn2 fn3
  clear pO cy0 cz0
  have cy0 := bkY.bx 0 _ rfl
  have cz0 := bkZ.bx 0 _ rfl
  have kx_0 := bxx 0 _ rfl
  have pA := andI_bits (a := y.fMask) (b := z.fMask) (by omega) (by omega) (by omega) (by omega)
  by_cases z1 : andI y.fMask z.fMask = 0
  rotate_left
  ·have zb : (andI y.fMask z.fMask != 0) = true := by simp [z1]
   have HS : Hid (stepInfo q x l st = none) := by show _ = _; rw [HJ.out, if_neg]; unfold joinOk; rw [decide_eq_false z1]; simp
   clear z1
   have n0 := bkN.bx 0 _ rfl
   have n1 := bkN.bx 1 _ rfl
   have n2 := bkN.bx 2 _ rfl
   have n3 := bkN.bx 3 _ rfl
   have r0 := bkR.bx 0 _ rfl
   have fr0 := bkR.frozen 0
   have r1 := bkR.bx 1 _ rfl
   have fr1 := bkR.frozen 1
   have r2 := bkR.bx 2 _ rfl
   have fr2 := bkR.frozen 2
   have r3 := bkR.bx 3 _ rfl
   have fr3 := bkR.frozen 3
   go_wp2
   have bk3 := ((((bkR.set 0 (.int .i64 (orI y.fMask z.fMask))).set 1 (.int .i64 (-1))).set 2 (.int .i64 j)).set 3 (.int .i64 i))
   have q0 := bk3.bx 0 _ rfl
   have q1 := bk3.bx 1 _ rfl
   have q2 := bk3.bx 2 _ rfl
   have q3 := bk3.bx 3 _ rfl
   refine bodyPost_ret (v := .tuple #[.agg #[.int .i64 (orI y.fMask z.fMask), .int .i64 (-1), .int .i64 j, .int .i64 i], .bool false]) (by simp [results, Tryz.results181, go_sem, q0, q1, q2, q3]) rfl ?_
   exact StepI.no HS.out ((((hB.setCell (p := ⟨w.heap.size + 1 + 1, 0, none⟩) (Nat.le_trans (Nat.le_succ _) (Nat.le_succ _)) (.int .i64 (orI y.fMask z.fMask))).setCell (p := ⟨w.heap.size + 1 + 1, 1, none⟩) (Nat.le_trans (Nat.le_succ _) (Nat.le_succ _)) (.int .i64 (-1))).setCell (p := ⟨w.heap.size + 1 + 1, 2, none⟩) (Nat.le_trans (Nat.le_succ _) (Nat.le_succ _)) (.int .i64 j)).setCell (p := ⟨w.heap.size + 1 + 1, 3, none⟩) (Nat.le_trans (Nat.le_succ _) (Nat.le_succ _)) (.int .i64 i))
  have zb : (andI y.fMask z.fMask != 0) = false := by simp [z1]
  have Z1 := Lib.hid z1; clear z1
  have HSN := Lib.hid (shared_none HV.out y.fMask z.fMask)
  by_cases v1 : nX = 0
  ·have vb : ((nX : Int) == 0) = true := by simp [v1]
   have HS : Hid (stepInfo q x l st = none) := by show _ = _; rw [HJ.out, if_neg]; unfold joinOk; rw [decide_eq_false (show ¬ ¬ andI (bitsQ q.fAtoms y.fMask) (bitsQ q.fAtoms z.fMask) = 0 from fun h => h (HSN.out.1 (HXL.out.trans v1)))]; simp
   clear v1
   have n0 := bkN.bx 0 _ rfl
   have n1 := bkN.bx 1 _ rfl
   have n2 := bkN.bx 2 _ rfl
   have n3 := bkN.bx 3 _ rfl
   have r0 := bkR.bx 0 _ rfl
   have fr0 := bkR.frozen 0
   have r1 := bkR.bx 1 _ rfl
   have fr1 := bkR.frozen 1
   have r2 := bkR.bx 2 _ rfl
   have fr2 := bkR.frozen 2
   have r3 := bkR.bx 3 _ rfl
   have fr3 := bkR.frozen 3
   go_wp2
   have bk3 := ((((bkR.set 0 (.int .i64 (orI y.fMask z.fMask))).set 1 (.int .i64 (-1))).set 2 (.int .i64 j)).set 3 (.int .i64 i))
   have q0 := bk3.bx 0 _ rfl
   have q1 := bk3.bx 1 _ rfl
   have q2 := bk3.bx 2 _ rfl
   have q3 := bk3.bx 3 _ rfl
   refine bodyPost_ret (v := .tuple #[.agg #[.int .i64 (orI y.fMask z.fMask), .int .i64 (-1), .int .i64 j, .int .i64 i], .bool false]) (by simp [results, Tryz.results181, go_sem, q0, q1, q2, q3]) rfl ?_
   exact StepI.no HS.out ((((hB.setCell (p := ⟨w.heap.size + 1 + 1, 0, none⟩) (Nat.le_trans (Nat.le_succ _) (Nat.le_succ _)) (.int .i64 (orI y.fMask z.fMask))).setCell (p := ⟨w.heap.size + 1 + 1, 1, none⟩) (Nat.le_trans (Nat.le_succ _) (Nat.le_succ _)) (.int .i64 (-1))).setCell (p := ⟨w.heap.size + 1 + 1, 2, none⟩) (Nat.le_trans (Nat.le_succ _) (Nat.le_succ _)) (.int .i64 j)).setCell (p := ⟨w.heap.size + 1 + 1, 3, none⟩) (Nat.le_trans (Nat.le_succ _) (Nat.le_succ _)) (.int .i64 i))
  have vb : ((nX : Int) == 0) = false := by simp [v1]
  have HOK : Hid (joinOk q y z = true) := by show _ = _; unfold joinOk; rw [decide_eq_true Z1.out, decide_eq_true (show ¬ andI (bitsQ q.fAtoms y.fMask) (bitsQ q.fAtoms z.fMask) = 0 from fun h => v1 (HXL.out.symm.trans (HSN.out.2 h)))]; rfl
  clear v1
  go_upto_region 28 with fail
  clear kx_0 cy0 cz0 pA zb vb
  by_cases o1 : x.fOrder = 0
  ·have ob : (x.fOrder == 0) = true := by simp [o1]
   have HS : Hid (stepInfo q x l st = some (⟨orI y.fMask z.fMask, (-1), (j : Int), (i : Int)⟩, 2)) := by show _ = _; rw [HJ.out, if_pos HOK.out, if_pos o1]
   clear o1
   have HS21 : Hid (∀ w', Chg [w.heap.size + 1 + 1] wh w' → (w'.cell? ⟨w.heap.size + 1 + 1 + 1, 0, none⟩ = some (.int .i64 (orI y.fMask z.fMask)) ∧ w'.cell? ⟨w.heap.size + 1 + 1 + 1, 1, none⟩ = some (.int .i64 (-1)) ∧ w'.cell? ⟨w.heap.size + 1 + 1 + 1, 2, none⟩ = some (.int .i64 j) ∧ w'.cell? ⟨w.heap.size + 1 + 1 + 1, 3, none⟩ = some (.int .i64 i) ∧ w'.cell? ⟨w.heap.size + 1, 2, none⟩ = some (.int .i64 x.fOrder))) := by
    show ∀ w', _ → _
    intro w' hc
    have hcN := bkChg bkN hc (by simp)
    have hcX : ∀ j v, [.int .i64 x.fKind, .int .i64 x.fAtom, .int .i64 x.fOrder][j]? = some v → w'.cell? ⟨w.heap.size + 1, j, none⟩ = some v := fun j v hj => (chgCell hc (p := ⟨w.heap.size + 1, j, none⟩) (by have := bkN.lt; show w.heap.size + 1 < _; omega) (by simp)).trans (bxx j v hj)
    exact ⟨hcN.bx 0 _ rfl, hcN.bx 1 _ rfl, hcN.bx 2 _ rfl, hcN.bx 3 _ rfl, hcX 2 _ rfl⟩
   have r0 := bkR.bx 0 _ rfl
   have fr0 := bkR.frozen 0
   have r1 := bkR.bx 1 _ rfl
   have fr1 := bkR.frozen 1
   have r2 := bkR.bx 2 _ rfl
   have fr2 := bkR.frozen 2
   have r3 := bkR.bx 3 _ rfl
   have fr3 := bkR.frozen 3
   go_wp2
   refine hbg HS21.out (Chg.ofBelow ((Below.refl _ _).drew) _) (fun hHeld => ?_)
   refine tka 0 164 hHeld ?_; simp only [putS]
   refine tka 1 165 hHeld ?_; simp only [putS]
   refine tka 2 166 hHeld ?_; simp only [putS]
   refine tka 3 167 hHeld ?_; simp only [putS]
   refine wpAnyH_ready (rs := [4]) (by kernel_rfl) (by simp) ?_
   refine AllReadyH.cons (o := ⟨none, _, _, _, _, _⟩) rfl (fun K hK => ?_) AllReadyH.nil
   clear hHeld
   go_simp
   refine hK.out _ _ (HS21.out _ (((((((Chg.refl [w.heap.size + 1 + 1] wh).setCell (g := w.heap.size + 1 + 1) (by simp) 0 (.int .i64 (orI y.fMask z.fMask))).setCell (g := w.heap.size + 1 + 1) (by simp) 1 (.int .i64 (-1))).setCell (g := w.heap.size + 1 + 1) (by simp) 2 (.int .i64 j)).setCell (g := w.heap.size + 1 + 1) (by simp) 3 (.int .i64 i))).trans (Chg.ofBelow ((Below.refl _ _).drew) _))) (fun hHeld => ?_)
   clear hK K
   try simp only [putS]
   refine tka 5 9 hHeld ?_; simp only [putS]
   refine wpAnyH_done (by kernel_rfl) ?_ _
   clear hHeld
   go_wp2
   have bk3 := ((((bkR.set 0 (.int .i64 (orI y.fMask z.fMask))).set 1 (.int .i64 (-1))).set 2 (.int .i64 j)).set 3 (.int .i64 i))
   have q0 := bk3.bx 0 _ rfl
   have q1 := bk3.bx 1 _ rfl
   have q2 := bk3.bx 2 _ rfl
   have q3 := bk3.bx 3 _ rfl
   refine bodyPost_ret (v := .tuple #[.agg #[.int .i64 (orI y.fMask z.fMask), .int .i64 (-1), .int .i64 j, .int .i64 i], .bool true]) (by simp [results, Tryz.results181, go_sem, q0, q1, q2, q3]) rfl ?_
   exact StepI.yes HS.out ⟨by omega, by omega⟩ ((((hB.setCell (p := ⟨w.heap.size + 1 + 1, 0, none⟩) (Nat.le_trans (Nat.le_succ _) (Nat.le_succ _)) (.int .i64 (orI y.fMask z.fMask))).setCell (p := ⟨w.heap.size + 1 + 1, 1, none⟩) (Nat.le_trans (Nat.le_succ _) (Nat.le_succ _)) (.int .i64 (-1))).setCell (p := ⟨w.heap.size + 1 + 1, 2, none⟩) (Nat.le_trans (Nat.le_succ _) (Nat.le_succ _)) (.int .i64 j)).setCell (p := ⟨w.heap.size + 1 + 1, 3, none⟩) (Nat.le_trans (Nat.le_succ _) (Nat.le_succ _)) (.int .i64 i)).drew
  ·have ob : (x.fOrder == 0) = false := by simp [o1]
   have HS : Hid (stepInfo q x l st = none) := by show _ = _; rw [HJ.out, if_pos HOK.out, if_neg o1]
   clear o1
   have HS21 : Hid (∀ w', Chg [w.heap.size + 1 + 1] wh w' → (w'.cell? ⟨w.heap.size + 1 + 1 + 1, 0, none⟩ = some (.int .i64 (orI y.fMask z.fMask)) ∧ w'.cell? ⟨w.heap.size + 1 + 1 + 1, 1, none⟩ = some (.int .i64 (-1)) ∧ w'.cell? ⟨w.heap.size + 1 + 1 + 1, 2, none⟩ = some (.int .i64 j) ∧ w'.cell? ⟨w.heap.size + 1 + 1 + 1, 3, none⟩ = some (.int .i64 i) ∧ w'.cell? ⟨w.heap.size + 1, 2, none⟩ = some (.int .i64 x.fOrder))) := by
    show ∀ w', _ → _
    intro w' hc
    have hcN := bkChg bkN hc (by simp)
    have hcX : ∀ j v, [.int .i64 x.fKind, .int .i64 x.fAtom, .int .i64 x.fOrder][j]? = some v → w'.cell? ⟨w.heap.size + 1, j, none⟩ = some v := fun j v hj => (chgCell hc (p := ⟨w.heap.size + 1, j, none⟩) (by have := bkN.lt; show w.heap.size + 1 < _; omega) (by simp)).trans (bxx j v hj)
    exact ⟨hcN.bx 0 _ rfl, hcN.bx 1 _ rfl, hcN.bx 2 _ rfl, hcN.bx 3 _ rfl, hcX 2 _ rfl⟩
   have r0 := bkR.bx 0 _ rfl
   have fr0 := bkR.frozen 0
   have r1 := bkR.bx 1 _ rfl
   have fr1 := bkR.frozen 1
   have r2 := bkR.bx 2 _ rfl
   have fr2 := bkR.frozen 2
   have r3 := bkR.bx 3 _ rfl
   have fr3 := bkR.frozen 3
   go_wp2
   refine hbg HS21.out (Chg.ofBelow ((Below.refl _ _).drew) _) (fun hHeld => ?_)
   refine tka 0 164 hHeld ?_; simp only [putS]
   refine tka 1 165 hHeld ?_; simp only [putS]
   refine tka 2 166 hHeld ?_; simp only [putS]
   refine tka 3 167 hHeld ?_; simp only [putS]
   refine wpAnyH_ready (rs := [4]) (by kernel_rfl) (by simp) ?_
   refine AllReadyH.cons (o := ⟨none, _, _, _, _, _⟩) rfl (fun K hK => ?_) AllReadyH.nil
   clear hHeld
   go_simp
   refine hK.out _ _ (HS21.out _ (((((((Chg.refl [w.heap.size + 1 + 1] wh).setCell (g := w.heap.size + 1 + 1) (by simp) 0 (.int .i64 (orI y.fMask z.fMask))).setCell (g := w.heap.size + 1 + 1) (by simp) 1 (.int .i64 (-1))).setCell (g := w.heap.size + 1 + 1) (by simp) 2 (.int .i64 j)).setCell (g := w.heap.size + 1 + 1) (by simp) 3 (.int .i64 i))).trans (Chg.ofBelow ((Below.refl _ _).drew) _))) (fun hHeld => ?_)
   clear hK K
   try simp only [putS]
   refine tka 5 9 hHeld ?_; simp only [putS]
   refine wpAnyH_done (by kernel_rfl) ?_ _
   clear hHeld
   go_wp2
   have bk3 := ((((bkR.set 0 (.int .i64 (orI y.fMask z.fMask))).set 1 (.int .i64 (-1))).set 2 (.int .i64 j)).set 3 (.int .i64 i))
   have q0 := bk3.bx 0 _ rfl
   have q1 := bk3.bx 1 _ rfl
   have q2 := bk3.bx 2 _ rfl
   have q3 := bk3.bx 3 _ rfl
   refine bodyPost_ret (v := .tuple #[.agg #[.int .i64 (orI y.fMask z.fMask), .int .i64 (-1), .int .i64 j, .int .i64 i], .bool false]) (by simp [results, Tryz.results181, go_sem, q0, q1, q2, q3]) rfl ?_
   exact StepI.no HS.out ((((hB.setCell (p := ⟨w.heap.size + 1 + 1, 0, none⟩) (Nat.le_trans (Nat.le_succ _) (Nat.le_succ _)) (.int .i64 (orI y.fMask z.fMask))).setCell (p := ⟨w.heap.size + 1 + 1, 1, none⟩) (Nat.le_trans (Nat.le_succ _) (Nat.le_succ _)) (.int .i64 (-1))).setCell (p := ⟨w.heap.size + 1 + 1, 2, none⟩) (Nat.le_trans (Nat.le_succ _) (Nat.le_succ _)) (.int .i64 j)).setCell (p := ⟨w.heap.size + 1 + 1, 3, none⟩) (Nat.le_trans (Nat.le_succ _) (Nat.le_succ _)) (.int .i64 i)).drew
end Go.Proofs.YtbmaigkgjmkihaaGreat
