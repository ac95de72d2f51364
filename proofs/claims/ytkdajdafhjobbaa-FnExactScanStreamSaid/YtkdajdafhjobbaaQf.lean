/-
  Qf
-/
import Derived.Test.YtkdajdafhjobbaaKeep
import Derived.Test.YtkdajdafhjobbaaLkp
import Derived.Test.YtkdajdafhjobbaaQc
import Derived.Test.YtkdajdafhjobbaaQi
namespace Go.Proofs.Ytkdajdafhjobbaa
open Go.RowKit
set_option linter.unusedVariables false
set_option linter.unusedSimpArgs false
def atomIn (d : DatabaseD) (a : AtomD) : Bool := (lookup d a.fName).2 && decide ((lookup d a.fName).1.fArity = (a.fVars.length : Int))
def queryFor (d : DatabaseD) (q : QueryD) : Bool := validQ q && q.fAtoms.all (atomIn d)
theorem queryFor_v {d : DatabaseD} {q : QueryD} (h : validQ q = false) : queryFor d q = false := by simp [queryFor, h]
theorem queryFor_no {d : DatabaseD} {q : QueryD} {k : Nat} {a : AtomD} (hx : q.fAtoms[k]? = some a) (h : atomIn d a = false) : queryFor d q = false := by
 have : q.fAtoms.all (atomIn d) = false := by rw [Bool.eq_false_iff]; intro h2; rw [List.all_eq_true] at h2; rw [h2 a (mem_of_at hx)] at h; cases h
 simp [queryFor, this]
theorem cells_set3 {W : World} {g : Nat} {t : TypeId} {a b c x y z : Value} (h : Bk W g t [a, b, c]) : Bk (((W.setCell ⟨g, 0, none⟩ x).setCell ⟨g, 1, none⟩ y).setCell ⟨g, 2, none⟩ z) g t [x, y, z] := ((h.set 0 x).set 1 y).set 2 z
set_option maxRecDepth 100000 in
set_option maxHeartbeats 1600000 in
theorem iIsQueryFor_c (csd : List Value) (d : DatabaseD) (csq : List Value) (q : QueryD) (w : World) (hd : (rDatabase NB).rep w csd d) (hq : (rQuery NB).rep w csq q) :
  Calls Try.prog 87 #[.agg csd.toArray, .agg csq.toArray] w fun e w' => e = .returned (.bool (queryFor d q)) ∧ Below w.heap.size w w' := by
 have rd := hd
 obtain ⟨AdTables, ndTables, cdTables, rfl, hdTables⟩ := rDatabase_rep.1 hd
 clear hd
 have rq := hq
 obtain ⟨AqAtoms, nqAtoms, cqAtoms, rfl, hqVariableCount, hqAtoms⟩ := rQuery_rep.1 hq
 clear hq
 have hB : Below w.heap.size w w := Below.refl _ _
 have hAd := (Below.refl (World.heap (w)).size (w)).alloc (Nat.le_refl _) (.cells #[.slice AdTables ndTables cdTables] 73)
 replace hB := hB.trans (hAd.mono hB.size)
 have bxd := Bx.new (w) [.slice AdTables ndTables cdTables] 73
 clear hAd
 have hAq := (Below.refl (World.heap ((w).alloc (.cells #[.slice AdTables ndTables cdTables] 73))).size ((w).alloc (.cells #[.slice AdTables ndTables cdTables] 73))).alloc (Nat.le_refl _) (.cells #[.int .i64 q.fVariableCount, .slice AqAtoms nqAtoms cqAtoms] 77)
 replace hB := hB.trans (hAq.mono hB.size)
 replace bxd := bxd.below hAq
 have bxq := Bx.new ((w).alloc (.cells #[.slice AdTables ndTables cdTables] 73)) [.int .i64 q.fVariableCount, .slice AqAtoms nqAtoms cqAtoms] 77
 simp only [World.size_alloc] at bxq
 clear hAq
 have hnq := hqAtoms.bound
 have HLQ := Lib.hid hqAtoms.len
 obtain ⟨wa, hwa⟩ : ∃ W, W = (w.alloc (.cells #[.slice AdTables ndTables cdTables] 73)).alloc (.cells #[.int .i64 q.fVariableCount, .slice AqAtoms nqAtoms cqAtoms] 77) := ⟨_, rfl⟩
 rw [← hwa] at hB bxd bxq
 go_enter Try.func87, Try.ntmps87
 go_upto_region 1 with fail
 rw [← hwa]
 clear hwa
 have kq_0 := bxq 0 _ rfl
 have kq_1 := bxq 1 _ rfl
 go_wp2_with fail
 refine (iIsValidQuery_c _ q _ ((rQuery_ok NB).keep rq (cells_below hB))).mono ?_
 rintro e w1 ⟨rfl, hb1⟩
 replace hB := hB.trans (hb1.mono hB.size)
 replace bxd := bxd.below hb1
 replace bxq := bxq.below hb1
 clear hb1 kq_0 kq_1
 cases hv : validQ q
 ·have HV := Lib.hid (queryFor_v (d := d) hv); clear hv
  go_wp2
  go_ret
  exact ⟨ret_bool (a := false) HV.out.symm, hB⟩
 have HV := Lib.hid hv; clear hv
 rename World => wb
 obtain ⟨wc, hwc⟩ : ∃ W, W = wb := ⟨_, rfl⟩
 rw [← hwc] at hB bxd bxq ⊢
 clear hwc
 have kq_0 := bxq 0 _ rfl
 have kq_1 := bxq 1 _ rfl
 go_wp2
 go_loopw [15] (fun i wr => ∃ k : Nat, k ≤ nqAtoms ∧ i = .int .i64 k ∧ (q.fAtoms.take k).all (atomIn d) = true ∧ Below wc.heap.size wc wr) (fun i _ => nqAtoms - (intOf i).toNat)
 case atStart => exact ⟨0, Nat.zero_le _, rfl, rfl, Below.refl _ _⟩
 case round =>
  clear kq_0 kq_1
  obtain ⟨k, hk, rfl, hall, hE⟩ := hrel
  have Hall := Lib.hid hall; clear hall
  have hB2 := hB.trans (hE.mono hB.size)
  have kq_1 := (bxq.below hE) 1 _ rfl
  have kd_0 := (bxd.below hE) 0 _ rfl
  by_cases hlt : k < nqAtoms
  ·obtain ⟨b, off, a, AV, nV, cV, rfl, hc0, hc1, hsz, hRV, hxx⟩ := (hqAtoms.below (rAtom_ok NB) hB2).eAtom hlt
   have HLV := Lib.hid hRV.len
   obtain ⟨t, is, HL⟩ : ∃ t is, Hid (lookup d a.fName = (t, is)) := ⟨_, _, rfl⟩
   obtain ⟨wt, hwt⟩ : ∃ W, W = wr.alloc (.cells #[.string a.fName, .slice AV nV cV] 126) := ⟨_, rfl⟩
   have hbt : Below wr.heap.size wr wt := by rw [hwt]; exact (Below.refl wr.heap.size wr).alloc (Nat.le_refl _) _
   have kA : Bk wt wr.heap.size 126 [.string a.fName, .slice AV nV cV] := by rw [hwt]; exact Bk.new wr _ _
   have hE3 := hE.trans (hbt.mono hE.size)
   have hB3 := hB.trans (hE3.mono hB.size)
   go_upto_region 6 with fail
   rw [← hwt]
   clear hwt hc0 hc1 kq_1 kd_0
   have kd_0 := (bxd.below hE3) 0 _ rfl
   have ka_0 := kA.bx 0 _ rfl
   go_wp2_with fail
   have C := iLookupTable_c _ d a.fName _ (rDatabase_rep.2 ⟨AdTables, ndTables, cdTables, rfl, (hdTables.below (rTable_ok NB) hB3)⟩)
   rw [HL.out] at C
   refine C.mono ?_
   clear C
   rintro e w4 ⟨cs, fp, rfl, ot, ft, hb4⟩
   obtain ⟨A2, n2, c2, fR, rfl, hfR, e1, e2, o2⟩ := rTable_own.1 ot
   clear ot ft hfR o2
   obtain ⟨w5, hw5⟩ : ∃ W, W = w4.alloc (.cells #[.string t.fName, .int .i64 t.fArity, .slice A2 n2 c2] 122) := ⟨_, rfl⟩
   have hb5 : Below w4.heap.size w4 w5 := by rw [hw5]; exact (Below.refl w4.heap.size w4).alloc (Nat.le_refl _) _
   have kT : Bk w5 w4.heap.size 122 [.string t.fName, .int .i64 t.fArity, .slice A2 n2 c2] := by rw [hw5]; exact Bk.new w4 _ _
   replace kA := kA.below (hb4.trans (hb5.mono hb4.size))
   have hE9 := hE3.trans ((hb4.trans (hb5.mono hb4.size)).mono hE3.size)
   have hB9 := hB.trans (hE9.mono hB.size)
   go_upto_region 7 with fail
   rw [← hw5]
   clear hw5 hb4 hb5 kd_0 ka_0
   have ka_1 := kA.bx 1 _ rfl
   have kt_1 := kT.bx 1 _ rfl
   cases is
   ·have HN : Hid (queryFor d q = false) := by show _ = _; exact queryFor_no hxx.out (by simp [atomIn, HL.out])
    go_wp2
    go_ret
    exact ⟨ret_bool (a := false) HN.out.symm, hB9⟩
   ·by_cases har : t.fArity = (nV : Int)
    ·have HA : Hid (atomIn d a = true) := by show _ = _; simp [atomIn, HL.out, HLV.out, har]
     have hne : (t.fArity != (nV : Int)) = false := by simp [har]
     have HAR := Lib.hid har; clear har
     go_wp2
     go_roundw
     case rel => exact ⟨k + 1, by omega, by go_num, all_snoc' Hall.out hxx.out HA.out, hE9⟩
     case measure => simp [intOf]; omega
    ·have HN : Hid (queryFor d q = false) := by show _ = _; exact queryFor_no hxx.out (by simp [atomIn, HL.out, HLV.out, har])
     have hne : (t.fArity != (nV : Int)) = true := by simp [har]
     go_wp2
     go_ret
     exact ⟨ret_bool (a := false) HN.out.symm, hB9⟩
  ·have HY : Hid (queryFor d q = true) := by
    show _ = _
    have h1 := Hall.out
    rw [take_all HLQ.out hlt] at h1
    simp [queryFor, HV.out, h1]
   go_wp2
   go_ret
   exact ⟨ret_bool (a := true) HY.out.symm, hB2⟩
set_option maxRecDepth 100000 in
set_option maxHeartbeats 1600000 in
theorem sIsQueryFor_c (csd : List Value) (d : DatabaseD) (csq : List Value) (q : QueryD) (w : World) (hd : (rDatabase NB).rep w csd d) (hq : (rQuery NB).rep w csq q) :
  Calls Try.prog 81 #[.agg csd.toArray, .agg csq.toArray] w fun e w' => e = .returned (.bool (queryFor d q)) ∧ Below w.heap.size w w' := by
 have rd := hd
 obtain ⟨AdTables, ndTables, cdTables, rfl, hdTables⟩ := rDatabase_rep.1 hd
 clear hd
 have rq := hq
 obtain ⟨AqAtoms, nqAtoms, cqAtoms, rfl, hqVariableCount, hqAtoms⟩ := rQuery_rep.1 hq
 clear hq
 have hB : Below w.heap.size w w := Below.refl _ _
 have hAd := (Below.refl (World.heap (w)).size (w)).alloc (Nat.le_refl _) (.cells #[.slice AdTables ndTables cdTables] 73)
 replace hB := hB.trans (hAd.mono hB.size)
 have bxd := Bx.new (w) [.slice AdTables ndTables cdTables] 73
 clear hAd
 have hAq := (Below.refl (World.heap ((w).alloc (.cells #[.slice AdTables ndTables cdTables] 73))).size ((w).alloc (.cells #[.slice AdTables ndTables cdTables] 73))).alloc (Nat.le_refl _) (.cells #[.int .i64 q.fVariableCount, .slice AqAtoms nqAtoms cqAtoms] 77)
 replace hB := hB.trans (hAq.mono hB.size)
 replace bxd := bxd.below hAq
 have bxq := Bx.new ((w).alloc (.cells #[.slice AdTables ndTables cdTables] 73)) [.int .i64 q.fVariableCount, .slice AqAtoms nqAtoms cqAtoms] 77
 simp only [World.size_alloc] at bxq
 clear hAq
 have hnq := hqAtoms.bound
 have HLQ := Lib.hid hqAtoms.len
 obtain ⟨wa, hwa⟩ : ∃ W, W = (w.alloc (.cells #[.slice AdTables ndTables cdTables] 73)).alloc (.cells #[.int .i64 q.fVariableCount, .slice AqAtoms nqAtoms cqAtoms] 77) := ⟨_, rfl⟩
 rw [← hwa] at hB bxd bxq
 go_enter Try.func81, Try.ntmps81
 go_upto_region 1 with fail
 rw [← hwa]
 clear hwa
 have kq_0 := bxq 0 _ rfl
 have kq_1 := bxq 1 _ rfl
 go_wp2_with fail
 refine (sIsValidQuery_c _ q _ ((rQuery_ok NB).keep rq (cells_below hB))).mono ?_
 rintro e w1 ⟨rfl, hb1⟩
 replace hB := hB.trans (hb1.mono hB.size)
 replace bxd := bxd.below hb1
 replace bxq := bxq.below hb1
 clear hb1 kq_0 kq_1
 cases hv : validQ q
 ·have HV := Lib.hid (queryFor_v (d := d) hv); clear hv
  go_wp2
  go_ret
  exact ⟨ret_bool (a := false) HV.out.symm, hB⟩
 have HV := Lib.hid hv; clear hv
 rename World => wb
 obtain ⟨wc, hwc⟩ : ∃ W, W = wb := ⟨_, rfl⟩
 rw [← hwc] at hB bxd bxq ⊢
 clear hwc
 have kq_0 := bxq 0 _ rfl
 have kq_1 := bxq 1 _ rfl
 go_wp2
 go_loopw [5] (fun i wr => ∃ k : Nat, k ≤ nqAtoms ∧ i = .int .i64 k ∧ (q.fAtoms.take k).all (atomIn d) = true ∧ Below wc.heap.size wc wr) (fun i _ => nqAtoms - (intOf i).toNat)
 case atStart => exact ⟨0, Nat.zero_le _, rfl, rfl, Below.refl _ _⟩
 case round =>
  clear kq_0 kq_1
  obtain ⟨k, hk, rfl, hall, hE⟩ := hrel
  have Hall := Lib.hid hall; clear hall
  have hB2 := hB.trans (hE.mono hB.size)
  have kq_1 := (bxq.below hE) 1 _ rfl
  have kd_0 := (bxd.below hE) 0 _ rfl
  by_cases hlt : k < nqAtoms
  ·obtain ⟨b, off, a, AV, nV, cV, rfl, hc0, hc1, hsz, hRV, hxx⟩ := (hqAtoms.below (rAtom_ok NB) hB2).eAtom hlt
   have HLV := Lib.hid hRV.len
   obtain ⟨t, is, HL⟩ : ∃ t is, Hid (lookup d a.fName = (t, is)) := ⟨_, _, rfl⟩
   have HSS : Hid (∀ w', Below wr.heap.size wr w' → (w'.cell? ⟨w.heap.size, 0, none⟩ = some (.slice AdTables ndTables cdTables) ∧ w'.cell? ⟨w.heap.size + 1, 1, none⟩ = some (.slice (some ⟨b, off, none⟩) nqAtoms cqAtoms) ∧ w'.cell? ⟨b, off + k * 2, none⟩ = some (.string a.fName))) := by
    show ∀ w', _ → _
    intro w' hb
    have hz := hE.trans (hb.mono hE.size)
    exact ⟨(bxd.below hz) 0 _ rfl, (bxq.below hz) 1 _ rfl, cells_below hb _ _ hc0⟩
   have hd0 := (Below.refl wr.heap.size wr).drew
   go_wp2
   refine hbg HSS.out hd0 (fun hHeld => ?_)
   refine tka 0 19 hHeld ?_; simp only [putS]
   refine tka 1 20 hHeld ?_; simp only [putS]
   refine tka 2 21 hHeld ?_; simp only [putS]
   refine tka 3 22 hHeld ?_; simp only [putS]
   refine tka 4 23 hHeld ?_; simp only [putS]
   refine tka 5 24 hHeld ?_; simp only [putS]
   refine tka 6 25 hHeld ?_; simp only [putS]
   refine wpAnyH_ready (rs := [7, 11]) (by kernel_rfl) (by simp) ?_
   refine (AllReadyH.cons (o := ⟨some 26, _, _, _, _, _⟩) rfl (fun K hK => ?_) (AllReadyH.cons (o := ⟨some 6, _, _, _, _, _⟩) rfl (fun K hK => ?_) AllReadyH.nil))
   all_goals clear hHeld
   ·have RD := (rDatabase_rep.2 ⟨AdTables, ndTables, cdTables, rfl, (hdTables.below (rTable_ok NB) (hB2.drew))⟩)
    go_simp
    have C := sLookupTable_c _ d a.fName _ RD
    rw [HL.out] at C
    refine C.mono ?_
    clear C
    rintro e w4 ⟨cs, fp, rfl, ot, ft, hb4⟩
    obtain ⟨A2, n2, c2, fR, rfl, hfR, e1, e2, o2⟩ := rTable_own.1 ot
    clear ot ft hfR o2
    have hC := hd0.trans (hb4.mono hd0.size)
    go_wp2_with fail
    refine hK.out _ _ (HSS.out _ hC) (fun hHeld => ?_)
    clear hK K
    try simp only [putS]
    refine tka 8 18 hHeld ?_; simp only [putS]
    refine tka 9 27 hHeld ?_; simp only [putS]
    refine tka 10 28 hHeld ?_; simp only [putS]
    have hz0 := Below.alb hC (.cells #[.string ⟨#[]⟩, .int .i64 0, .slice none 0 0] 122)
    refine wpAnyH_ready (rs := [11]) (by kernel_rfl) (by simp) ?_
    refine AllReadyH.cons (o := ⟨some 6, _, _, _, _, _⟩) rfl (fun K hK => ?_) AllReadyH.nil
    clear hHeld
    go_simp
    refine hK.out _ _ (HSS.out _ hz0) (fun hHeld => ?_)
    clear hK K
    try simp only [putS]
    have kT := Bk.new w4 [.string t.fName, .int .i64 t.fArity, .slice A2 n2 c2] 122
    have hS := Below.alb hC (.cells #[.string t.fName, .int .i64 t.fArity, .slice A2 n2 c2] 122)
    refine wpAnyH_ready (rs := [12]) (by kernel_rfl) (by simp) ?_
    refine AllReadyH.cons (o := ⟨none, _, _, _, _, _⟩) rfl (fun K hK => ?_) AllReadyH.nil
    clear hHeld
    go_simp
    refine hK.out _ _ (HSS.out _ hS) (fun hHeld => ?_)
    clear hK K
    try simp only [putS]
    refine tka 13 7 hHeld ?_; simp only [putS]
    refine wpAnyH_done (by kernel_rfl) ?_ _
    clear hHeld
    clear HSS
    have hE9 := hE.trans (hS.mono hE.size)
    have hB9 := hB.trans (hE9.mono hB.size)
    have kt_1 := kT.bx 1 _ rfl
    clear kd_0 kq_1 hc0
    generalize (w4.alloc (.cells #[.string t.fName, .int .i64 t.fArity, .slice A2 n2 c2] 122)) = wq at kT hS hE9 hB9 kt_1 ⊢
    have hcq1 := cells_below hS _ _ hc1
    have kq_1 := (bxq.below hE9) 1 _ rfl
    clear hc1
    cases is
    ·have HN : Hid (queryFor d q = false) := by show _ = _; exact queryFor_no hxx.out (by simp [atomIn, HL.out])
     go_wp2
     go_quiet (fail)
     go_wp2
     go_ret
     exact ⟨ret_bool (a := false) HN.out.symm, hB9.trans (Qt.below ⟨nq, rfl⟩ _)⟩
    ·by_cases har : t.fArity = (nV : Int)
     ·have HA : Hid (atomIn d a = true) := by show _ = _; simp [atomIn, HL.out, HLV.out, har]
      have hne : (t.fArity != (nV : Int)) = false := by simp [har]
      have HAR := Lib.hid har; clear har
      go_wp2
      go_quiet (fail)
      go_wp2
      go_roundw
      case rel => exact ⟨k + 1, by omega, by go_num, all_snoc' Hall.out hxx.out HA.out, hE9.trans (Qt.below ⟨nq, rfl⟩ _)⟩
      case measure => simp [intOf]; omega
     ·have HN : Hid (queryFor d q = false) := by show _ = _; exact queryFor_no hxx.out (by simp [atomIn, HL.out, HLV.out, har])
      have hne : (t.fArity != (nV : Int)) = true := by simp [har]
      go_wp2
      go_quiet (fail)
      go_wp2
      go_ret
      exact ⟨ret_bool (a := false) HN.out.symm, hB9.trans (Qt.below ⟨nq, rfl⟩ _)⟩
   ·have hz0 := Below.alb hd0 (.cells #[.string ⟨#[]⟩, .int .i64 0, .slice none 0 0] 122)
    have hg0 := Lib.hid (Nat.le_refl wr.heap.size)
    have kz0 := Bk.new wr.drew [.string ⟨#[]⟩, .int .i64 0, .slice none 0 0] 122
    go_simp
    refine hK.out _ _ (HSS.out _ hz0) (fun hHeld => ?_)
    clear hK K
    try simp only [putS]
    have RD := (rDatabase_rep.2 ⟨AdTables, ndTables, cdTables, rfl, (hdTables.below (rTable_ok NB) (hB.trans ((hE.trans (hz0.mono hE.size)).mono hB.size)))⟩)
    refine wpAnyH_ready (rs := [7]) (by kernel_rfl) (by simp) ?_
    refine AllReadyH.cons (o := ⟨some 26, _, _, _, _, _⟩) rfl (fun K hK => ?_) AllReadyH.nil
    clear hHeld
    go_simp
    have C := sLookupTable_c _ d a.fName _ RD
    rw [HL.out] at C
    refine C.mono ?_
    clear C
    rintro e w4 ⟨cs, fp, rfl, ot, ft, hb4⟩
    obtain ⟨A2, n2, c2, fR, rfl, hfR, e1, e2, o2⟩ := rTable_own.1 ot
    clear ot ft hfR o2
    have hC := hz0.trans (hb4.mono hz0.size)
    go_wp2_with fail
    refine hK.out _ _ (HSS.out _ hC) (fun hHeld => ?_)
    clear hK K
    try simp only [putS]
    refine tka 8 18 hHeld ?_; simp only [putS]
    refine tka 9 27 hHeld ?_; simp only [putS]
    refine tka 10 28 hHeld ?_; simp only [putS]
    have kZ : Bk w4 wr.heap.size 122 [.string ⟨#[]⟩, .int .i64 0, .slice none 0 0] := kz0.below hb4
    have z0 := kZ.bx 0 _ rfl
    have z1 := kZ.bx 1 _ rfl
    have z2 := kZ.bx 2 _ rfl
    have y0 := kZ.frozen 0
    have y1 := kZ.frozen 1
    have y2 := kZ.frozen 2
    have kT := cells_set3 (x := .string t.fName) (y := .int .i64 t.fArity) (z := .slice A2 n2 c2) kZ
    have hS : Below wr.heap.size wr (((w4.setCell ⟨wr.heap.size, 0, none⟩ (.string t.fName)).setCell ⟨wr.heap.size, 1, none⟩ (.int .i64 t.fArity)).setCell ⟨wr.heap.size, 2, none⟩ (.slice A2 n2 c2)) := ((hC.setCell (p := ⟨wr.heap.size, 0, none⟩) (by show wr.heap.size ≤ wr.heap.size; exact Nat.le_refl _) _).setCell (p := ⟨wr.heap.size, 1, none⟩) (by show wr.heap.size ≤ wr.heap.size; exact Nat.le_refl _) _).setCell (p := ⟨wr.heap.size, 2, none⟩) (by show wr.heap.size ≤ wr.heap.size; exact Nat.le_refl _) _
    refine wpAnyH_ready (rs := [12]) (by kernel_rfl) (by simp) ?_
    refine AllReadyH.cons (o := ⟨none, _, _, _, _, _⟩) rfl (fun K hK => ?_) AllReadyH.nil
    clear hHeld
    go_simp
    refine hK.out _ _ (HSS.out _ hS) (fun hHeld => ?_)
    clear hK K
    try simp only [putS]
    refine tka 13 7 hHeld ?_; simp only [putS]
    refine wpAnyH_done (by kernel_rfl) ?_ _
    clear hHeld
    clear HSS
    have hE9 := hE.trans (hS.mono hE.size)
    have hB9 := hB.trans (hE9.mono hB.size)
    have kt_1 := kT.bx 1 _ rfl
    clear kd_0 kq_1 hc0
    generalize (((w4.setCell ⟨wr.heap.size, 0, none⟩ (.string t.fName)).setCell ⟨wr.heap.size, 1, none⟩ (.int .i64 t.fArity)).setCell ⟨wr.heap.size, 2, none⟩ (.slice A2 n2 c2)) = wq at kT hS hE9 hB9 kt_1 ⊢
    have hcq1 := cells_below hS _ _ hc1
    have kq_1 := (bxq.below hE9) 1 _ rfl
    clear hc1
    cases is
    ·have HN : Hid (queryFor d q = false) := by show _ = _; exact queryFor_no hxx.out (by simp [atomIn, HL.out])
     go_wp2
     go_quiet (fail)
     go_wp2
     go_ret
     exact ⟨ret_bool (a := false) HN.out.symm, hB9.trans (Qt.below ⟨nq, rfl⟩ _)⟩
    ·by_cases har : t.fArity = (nV : Int)
     ·have HA : Hid (atomIn d a = true) := by show _ = _; simp [atomIn, HL.out, HLV.out, har]
      have hne : (t.fArity != (nV : Int)) = false := by simp [har]
      have HAR := Lib.hid har; clear har
      go_wp2
      go_quiet (fail)
      go_wp2
      go_roundw
      case rel => exact ⟨k + 1, by omega, by go_num, all_snoc' Hall.out hxx.out HA.out, hE9.trans (Qt.below ⟨nq, rfl⟩ _)⟩
      case measure => simp [intOf]; omega
     ·have HN : Hid (queryFor d q = false) := by show _ = _; exact queryFor_no hxx.out (by simp [atomIn, HL.out, HLV.out, har])
      have hne : (t.fArity != (nV : Int)) = true := by simp [har]
      go_wp2
      go_quiet (fail)
      go_wp2
      go_ret
      exact ⟨ret_bool (a := false) HN.out.symm, hB9.trans (Qt.below ⟨nq, rfl⟩ _)⟩
  ·have HY : Hid (queryFor d q = true) := by
    show _ = _
    have h1 := Hall.out
    rw [take_all HLQ.out hlt] at h1
    simp [queryFor, HV.out, h1]
   go_wp2
   go_ret
   exact ⟨ret_bool (a := true) HY.out.symm, hB2⟩
end Go.Proofs.Ytkdajdafhjobbaa
