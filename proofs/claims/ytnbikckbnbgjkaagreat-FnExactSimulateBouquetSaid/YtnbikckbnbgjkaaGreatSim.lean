/-
  Sim
-/
import Derived.Test.YtnbikckbnbgjkaaGreatKeep
import Derived.Test.YtnbikckbnbgjkaaGreatSmp
import Derived.Test.YtnbikckbnbgjkaaGreatAdmS
import Derived.Test.YtnbikckbnbgjkaaGreatVbi
import Derived.Test.YtnbikckbnbgjkaaGreatVbs
namespace Go.Proofs.YtnbikckbnbgjkaaGreat
open Go.RowKit
set_option linter.unusedVariables false
set_option linter.unusedSimpArgs false
theorem costAt_nat {m : ModelD} {q : QueryD} {ps : List PlanD} {l : List Int} {j : Nat} {p : PlanD} (h : ps[j]? = some p) : costAt m q ps l (j : Int) = planCostAt m q p l := by
 unfold costAt; rw [Int.toNat_natCast, h]
set_option maxRecDepth 100000 in
set_option maxHeartbeats 1600000 in
theorem iSimulate_c (csm : List Value) (m : ModelD) (csq : List Value) (q : QueryD) (csb : List Value) (b : BouquetD) (Al : Option Addr) (nl cl : Nat) (l : List Int) (w : World) (hm : (rModel NB).rep w csm m) (hq : (rQuery NB).rep w csq q) (hb : (rBouquet NB).rep w csb b) (hl : RS NB rInt w Al nl cl l) (hv : validBouquet q b = true) (hbk : sumLen b.fContours ≤ 1048576) :
  Calls Tryz.prog 35 #[.agg csm.toArray, .agg csq.toArray, .agg csb.toArray, .slice Al nl cl] w fun e w' => e = .returned (.tuple #[.int .i64 (simB m q b l).1, .bool (simB m q b l).2]) ∧ Below w.heap.size w w' := by
 have rm := hm
 have lenm := (rModel_ok NB).len hm
 clear hm
 have rq := hq
 obtain ⟨AqAtoms, nqAtoms, cqAtoms, rfl, hqVariableCount, hqAtoms⟩ := rQuery_rep.1 hq
 clear hq
 have rb := hb
 obtain ⟨AbBoxLow, nbBoxLow, cbBoxLow, AbBoxHigh, nbBoxHigh, cbBoxHigh, AbBudgets, nbBudgets, cbBudgets, AbPlans, nbPlans, cbPlans, AbContours, nbContours, cbContours, rfl, hbVersion, hbRatio, hbSlack, hbBoxLow, hbBoxHigh, hbBudgets, hbPlans, hbContours⟩ := rBouquet_rep.1 hb
 clear hb
 have hB : Below w.heap.size w w := Below.refl _ _
 have hAm := (Below.refl (World.heap (w)).size (w)).alloc (Nat.le_refl _) (.cells csm.toArray 46)
 replace hB := hB.trans (hAm.mono hB.size)
 have bxm := Bx.new (w) csm 46
 clear hAm
 have hAq := (Below.refl (World.heap ((w).alloc (.cells csm.toArray 46))).size ((w).alloc (.cells csm.toArray 46))).alloc (Nat.le_refl _) (.cells #[.int .i64 q.fVariableCount, .slice AqAtoms nqAtoms cqAtoms] 50)
 replace hB := hB.trans (hAq.mono hB.size)
 replace bxm := bxm.below hAq
 have bxq := Bx.new ((w).alloc (.cells csm.toArray 46)) [.int .i64 q.fVariableCount, .slice AqAtoms nqAtoms cqAtoms] 50
 simp only [World.size_alloc] at bxq
 clear hAq
 have hAb := (Below.refl (World.heap (((w).alloc (.cells csm.toArray 46)).alloc (.cells #[.int .i64 q.fVariableCount, .slice AqAtoms nqAtoms cqAtoms] 50))).size (((w).alloc (.cells csm.toArray 46)).alloc (.cells #[.int .i64 q.fVariableCount, .slice AqAtoms nqAtoms cqAtoms] 50))).alloc (Nat.le_refl _) (.cells #[.int .i64 b.fVersion, .int .i64 b.fRatio, .int .i64 b.fSlack, .slice AbBoxLow nbBoxLow cbBoxLow, .slice AbBoxHigh nbBoxHigh cbBoxHigh, .slice AbBudgets nbBudgets cbBudgets, .slice AbPlans nbPlans cbPlans, .slice AbContours nbContours cbContours] 55)
 replace hB := hB.trans (hAb.mono hB.size)
 replace bxm := bxm.below hAb
 replace bxq := bxq.below hAb
 have bxb := Bx.new (((w).alloc (.cells csm.toArray 46)).alloc (.cells #[.int .i64 q.fVariableCount, .slice AqAtoms nqAtoms cqAtoms] 50)) [.int .i64 b.fVersion, .int .i64 b.fRatio, .int .i64 b.fSlack, .slice AbBoxLow nbBoxLow cbBoxLow, .slice AbBoxHigh nbBoxHigh cbBoxHigh, .slice AbBudgets nbBudgets cbBudgets, .slice AbPlans nbPlans cbPlans, .slice AbContours nbContours cbContours] 55
 simp only [World.size_alloc] at bxb
 clear hAb
 have lenm' : csm.length = 30 := lenm
 clear lenm
 obtain ⟨_, hh, _, hbu, hco, hle⟩ := vbq_parts hv
 have HSL : Hid (0 ≤ b.fSlack ∧ b.fSlack ≤ 100) := Lib.hid (bqHead_parts hh).2.1
 have HBU := Lib.hid hbu
 have HCO := Lib.hid hco
 have HBK := Lib.hid hbk
 have HCL := Lib.hid hbContours.len
 have HPL := Lib.hid hbPlans.len
 have hnC := hbContours.bound
 have hnP := hbPlans.bound
 have HBL : Hid (nbBudgets = nbContours) := by show _ = _; have := hbBudgets.len; have := HCL.out; omega
 have HZL : Hid ((b.fBudgets.zip b.fContours).length = nbContours) := by show _ = _; rw [List.length_zip]; have := hbBudgets.len; have := HCL.out; omega
 clear hv hbk hh hbu hco hle
 go_enter Tryz.func35, Tryz.ntmps35
 go_upto_region 1 with fail
 obtain ⟨wb, hwb⟩ : ∃ W, W = ((w.alloc (.cells csm.toArray 46)).alloc (.cells #[.int .i64 q.fVariableCount, .slice AqAtoms nqAtoms cqAtoms] 50)).alloc (.cells #[.int .i64 b.fVersion, .int .i64 b.fRatio, .int .i64 b.fSlack, .slice AbBoxLow nbBoxLow cbBoxLow, .slice AbBoxHigh nbBoxHigh cbBoxHigh, .slice AbBudgets nbBudgets cbBudgets, .slice AbPlans nbPlans cbPlans, .slice AbContours nbContours cbContours] 55) := ⟨_, rfl⟩
 rw [← hwb] at hB bxm bxq bxb ⊢
 clear hwb
 have kb_7 := bxb 7 _ rfl
 go_wp2
 clear kb_7
 go_loopw [10, 20] (fun v i wr => ∃ (k : Nat) (n : Int), k ≤ nbContours ∧ i = .int .i64 k ∧ v = .int .i64 n ∧ (0 ≤ n ∧ n ≤ 1000000000000 * ((sumLen (b.fContours.take k) : Nat) : Int)) ∧ simAll (costAt m q b.fPlans l) (fun x => slackOf x b.fSlack) ((b.fBudgets.zip b.fContours).drop k) n = simB m q b l ∧ Below wb.heap.size wb wr) (fun _ i _ => nbContours - (intOf i).toNat)
 case atStart => exact ⟨0, 0, Nat.zero_le _, rfl, rfl, ⟨Int.le_refl 0, by simp [sumLen]⟩, rfl, Below.refl _ _⟩
 case round =>
  obtain ⟨k, n, hk, rfl, rfl, ⟨hn0, hn1⟩, hsim, hE⟩ := hrel
  have HSIM := Lib.hid hsim; clear hsim
  have hB2 := hB.trans (hE.mono hB.size)
  by_cases hlt : k < nbContours
  ·have hkC : k < nbContours := by have := HBL.out; omega
   have hkB : k < nbBudgets := by have := HBL.out; omega
   obtain ⟨bB, oB, x, rfl, hcx, hIx, hx⟩ := hbBudgets.ati hkB
   obtain ⟨bC, oC, row, Ar, nr, cr, rfl, hcr, hRr, hr⟩ := hbContours.row hkC
   have HX := Lib.hid hx.out; clear hx
   have HR := Lib.hid hr.out; clear hr
   have HZ : Hid ((b.fBudgets.zip b.fContours)[k]? = some (x, row)) := by show _ = _; exact List.getElem?_zip_eq_some.2 ⟨HX.out, HR.out⟩
   obtain ⟨s, hs⟩ : ∃ s, slackOf x b.fSlack = s := ⟨_, rfl⟩
   have hsb := slack_bd (HBU.out k x HX.out) HSL.out
   rw [hs] at hsb
   have HS := Lib.hid hs; clear hs
   have HSN : Hid (sumLen (b.fContours.take (k + 1)) = sumLen (b.fContours.take k) + nr) := by show _ = _; rw [sumLen_snoc HR.out, hRr.len]
   have HSM : Hid (sumLen (b.fContours.take k) + nr ≤ 1048576) := by show _ ≤ _; rw [← HSN.out]; exact Nat.le_trans (sumLen_take _ _) HBK.out
   have HRL := Lib.hid hRr.len
   have hnr := hRr.bound
   have hRp : Hid (∀ p ∈ row, 0 ≤ p ∧ p < (nbPlans : Int)) := by show ∀ p ∈ row, _; intro p hp; have := HCO.out row (mem_of_at HR.out) p hp; rw [HPL.out] at this; exact this
   have K1 : Hid (∀ W, Calls Tryz.prog 66 #[.int .i64 x, .int .i64 b.fSlack] W fun e w' => e = .returned (.int .i64 s) ∧ w' = W) := by
    show ∀ W, _
    exact fun W => iSlackBudget_w HS.out W
   have hcx2 := cells_below hB2 _ _ hcx
   have hcr2 := cells_below hB2 _ _ hcr
   have HSS : Hid (∀ w', Below wr.heap.size wr w' → (w'.cell? ⟨w.heap.size + 1 + 1, 5, none⟩ = some (.slice (some ⟨bB, oB, none⟩) nbBudgets cbBudgets) ∧ w'.cell? ⟨w.heap.size + 1 + 1, 2, none⟩ = some (.int .i64 b.fSlack) ∧ w'.cell? ⟨bB, oB + k, none⟩ = some (.int .i64 x))) := by
    show ∀ w', _ → _
    intro w' hb
    have hz := hE.trans (hb.mono hE.size)
    exact ⟨(bxb.below hz) 5 _ rfl, (bxb.below hz) 2 _ rfl, cells_below hb _ _ hcx2⟩
   go_wp2
   refine hbg HSS.out (Below.refl _ _).drew (fun hHeld => ?_)
   refine tka 0 25 hHeld ?_; simp only [putS]
   refine tka 1 26 hHeld ?_; simp only [putS]
   refine tka 2 27 hHeld ?_; simp only [putS]
   refine tka 3 28 hHeld ?_; simp only [putS]
   refine tka 4 29 hHeld ?_; simp only [putS]
   refine tka 5 30 hHeld ?_; simp only [putS]
   refine tka 6 31 hHeld ?_; simp only [putS]
   refine wpAnyH_ready (rs := [7]) (by kernel_rfl) (by simp) ?_
   refine AllReadyH.cons (o := ⟨some 32, _, _, _, _, _⟩) rfl (fun K hK => ?_) AllReadyH.nil
   clear hHeld
   go_simp
   refine (K1.out _).mono ?_
   rintro e w' ⟨rfl, rfl⟩
   go_wp2_with fail
   refine hK.out _ _ (HSS.out _ (Below.refl wr.heap.size wr).drew) (fun hHeld => ?_)
   clear hK K
   try simp only [putS]
   refine tka 8 13 hHeld ?_; simp only [putS]
   refine wpAnyH_done (by kernel_rfl) ?_ _
   clear hHeld
   have hE3 : Below wb.heap.size wb wr.drew := hE.drew
   clear HSS K1 hcx2 hcr2
   go_wp2
   go_loopw [10, 35] (fun v i wi => ∃ (t : Nat) (n2 : Int), t ≤ nr ∧ i = .int .i64 t ∧ v = .int .i64 n2 ∧ (0 ≤ n2 ∧ n2 ≤ 1000000000000 * ((sumLen (b.fContours.take k) + t : Nat) : Int)) ∧ simRow (costAt m q b.fPlans l) s (row.drop t) n2 = simRow (costAt m q b.fPlans l) s row n ∧ Below wb.heap.size wb wi) (fun _ i _ => nr - (intOf i).toNat)
   case atStart => exact ⟨0, n, Nat.zero_le _, rfl, rfl, ⟨hn0, hn1⟩, rfl, hE3⟩
   case round =>
    clear hE hE3 hB2
    obtain ⟨t, n2, ht, rfl, rfl, ⟨hm0, hm1⟩, hrow, hE⟩ := hrel
    have HROW := Lib.hid hrow; clear hrow
    have hB2 := hB.trans (hE.mono hB.size)
    have hsm := HSM.out
    by_cases hlt2 : t < nr
    ·obtain ⟨bR, oR, p, rfl, hcp, hIp, hp⟩ := hRr.ati hlt2
     have HP := Lib.hid hp.out; clear hp
     have hpb := hRp.out p (mem_of_at HP.out)
     obtain ⟨j, rfl⟩ : ∃ j : Nat, p = j := ⟨p.toNat, by omega⟩
     have hj : j < nbPlans := by omega
     obtain ⟨bP, oP, P, AP, nP, cP, rfl, hcP, hRP, hPX⟩ := hbPlans.planP hj
     obtain ⟨c, hc⟩ : ∃ c, costAt m q b.fPlans l (j : Int) = c := ⟨_, rfl⟩
     have HC := Lib.hid hc
     have hcb : -28000000000 ≤ c ∧ c ≤ 28000000000 := by rw [← hc, costAt_nat hPX.out]; exact planCost_bd _ _ _ _
     have K2 : Hid (∀ W, Below wb.heap.size wb W → Calls Tryz.prog 67 #[.agg csm.toArray, .agg #[.int .i64 q.fVariableCount, .slice AqAtoms nqAtoms cqAtoms], .agg #[.slice AP nP cP], .slice Al nl cl] W fun e w' => e = .returned (.int .i64 c) ∧ Below W.heap.size W w') := by
      show ∀ W, _ → _
      intro W hW
      have hX := hB.trans (hW.mono hB.size)
      rw [← hc, costAt_nat hPX.out]
      exact iPlanCostAt_c _ m _ q _ P _ _ _ l W ((rModel_ok NB).keep rm (cells_below hX)) ((rQuery_ok NB).keep rq (cells_below hX)) (rPlan_rep.2 ⟨_, _, _, rfl, hRP.below (rPlanStep_ok NB) hX⟩) (hl.below rInt_ok hX)
     clear hc hPX
     have hcp2 := cells_below hB2 _ _ hcp
     have hcP2 := cells_below hB2 _ _ hcP
     have HSS : Hid (∀ w', Below wr.heap.size wr w' → (w'.rangeAt w.heap.size 0 csm ∧ w'.cell? ⟨w.heap.size + 1, 0, none⟩ = some (.int .i64 q.fVariableCount) ∧ w'.cell? ⟨w.heap.size + 1, 1, none⟩ = some (.slice AqAtoms nqAtoms cqAtoms) ∧ w'.cell? ⟨w.heap.size + 1 + 1, 6, none⟩ = some (.slice (some ⟨bP, oP, none⟩) nbPlans cbPlans) ∧ w'.cell? ⟨bP, oP + j, none⟩ = some (.slice AP nP cP))) := by
      show ∀ w', _ → _
      intro w' hb
      have hz := hE.trans (hb.mono hE.size)
      exact ⟨(bxm.below hz).range, (bxq.below hz) 0 _ rfl, (bxq.below hz) 1 _ rfl, (bxb.below hz) 6 _ rfl, cells_below hb _ _ hcP2⟩
     have hjI : (j : Int) < (nbPlans : Int) := by omega
     go_wp2
     refine hbg HSS.out (Below.refl _ _).drew (fun hHeld => ?_)
     refine' wpAnyH_take (i := 0) (oi := ⟨some 39,_,_,_,_,_⟩) (v := _) rfl (by kernel_rfl) (by kernel_rfl) (by kernel_rfl) (fun _ _ _ h => h) (yieldsIf_load_mid (by rfl) _ _ rfl _ _ rfl _ _ (fun w h => h.1) Tryz.underlying46 rfl (by rw [lenm']; exact sizeModel)) hHeld ?_
     simp only [putS]
     refine tka 1 40 hHeld ?_; simp only [putS]
     refine tka 2 41 hHeld ?_; simp only [putS]
     refine tka 3 42 hHeld ?_; simp only [putS]
     refine tka 4 43 hHeld ?_; simp only [putS]
     refine tka 5 44 hHeld ?_; simp only [putS]
     refine tka 6 45 hHeld ?_; simp only [putS]
     refine tka 7 46 hHeld ?_; simp only [putS]
     refine wpAnyH_ready (rs := [8]) (by kernel_rfl) (by simp) ?_
     refine AllReadyH.cons (o := ⟨some 47, _, _, _, _, _⟩) rfl (fun K hK => ?_) AllReadyH.nil
     clear hHeld
     go_simp
     refine (K2.out _ (hE.drew)).mono ?_
     rintro e w2 ⟨rfl, hb2⟩
     have hC : Below wr.heap.size wr w2 := ((Below.refl wr.heap.size wr).drew.trans (hb2.mono (by simp)))
     go_wp2_with fail
     refine hK.out _ _ (HSS.out _ hC) (fun hHeld => ?_)
     clear hK K
     try simp only [putS]
     refine tka 9 16 hHeld ?_; simp only [putS]
     refine wpAnyH_done (by kernel_rfl) ?_ _
     clear hHeld
     have hE4 := hE.trans (hC.mono hE.size)
     clear HSS K2 hcp2 hcP2 
     by_cases hcs : c ≤ s
     ·have HY : Hid (simB m q b l = (n2 + c, true)) := by
       show _ = _
       have h1 := simRow_yes (f := costAt m q b.fPlans l) (s := s) (n := n2) HP.out (by rw [HC.out]; exact hcs)
       rw [HROW.out, HC.out] at h1
       rw [← HSIM.out]
       exact simAll_yes HZ.out (by show simRow _ (slackOf x b.fSlack) _ _ = _; rw [HS.out]; exact h1)
      have wn : IntKind.i64.wrap (n2 + c) = n2 + c := IntWalk.i64_in _ (by omega)
      go_wp2
      go_ret2
      exact ⟨by rw [HY.out]; rfl, hB.trans (hE4.mono hB.size)⟩
     ·have HY : Hid (simRow (costAt m q b.fPlans l) s (row.drop (t + 1)) (n2 + s) = simRow (costAt m q b.fPlans l) s row n) := by
       show _ = _
       rw [← HROW.out]
       exact (simRow_no HP.out (by rw [HC.out]; exact hcs)).symm
      have wn : IntKind.i64.wrap (n2 + s) = n2 + s := IntWalk.i64_in _ (by omega)
      go_wp2
      go_roundw
      case rel => exact ⟨t + 1, n2 + s, by omega, by go_num, rfl, ⟨by omega, by omega⟩, HY.out, hE4⟩
      case measure => simp [intOf]; omega
    ·have HY : Hid (simAll (costAt m q b.fPlans l) (fun x => slackOf x b.fSlack) ((b.fBudgets.zip b.fContours).drop (k + 1)) n2 = simB m q b l) := by
      show _ = _
      have h1 := simRow_end (f := costAt m q b.fPlans l) (s := s) (n := n2) (l := row) (i := t) (by have := HRL.out; omega)
      rw [HROW.out] at h1
      rw [← HSIM.out]
      exact (simAll_no HZ.out (by show simRow _ (slackOf x b.fSlack) _ _ = _; rw [HS.out]; exact h1)).symm
     have hsn := HSN.out
     go_wp2
     go_roundw
     case rel => exact ⟨k + 1, n2, by omega, by go_num, rfl, ⟨hm0, by rw [hsn]; omega⟩, HY.out, hE⟩
     case measure => simp [intOf]; omega
  ·have HY : Hid (simB m q b l = (0, false)) := by
    show _ = _
    rw [← HSIM.out]
    exact simAll_end (by have := HZL.out; have := HBL.out; omega)
   go_wp2
   go_ret2
   exact ⟨by rw [HY.out]; rfl, hB2⟩
set_option maxRecDepth 100000 in
set_option maxHeartbeats 1600000 in
theorem sTotal_c (csm : List Value) (m : ModelD) (csq : List Value) (q : QueryD) (csb : List Value) (b : BouquetD) (Al : Option Addr) (nl cl : Nat) (l : List Int) (w : World) (hm : (rModel NB).rep w csm m) (hq : (rQuery NB).rep w csq q) (hb : (rBouquet NB).rep w csb b) (hl : RS NB rInt w Al nl cl l) (hv : validBouquet q b = true) (hbk : sumLen b.fContours ≤ 1048576) :
  Calls Tryz.prog 26 #[.agg csm.toArray, .agg csq.toArray, .agg csb.toArray, .slice Al nl cl] w fun e w' => e = .returned (.int .i64 (simT m q b l)) ∧ Below w.heap.size w w' := by
 have rm := hm
 have lenm := (rModel_ok NB).len hm
 clear hm
 have rq := hq
 obtain ⟨AqAtoms, nqAtoms, cqAtoms, rfl, hqVariableCount, hqAtoms⟩ := rQuery_rep.1 hq
 clear hq
 have rb := hb
 obtain ⟨AbBoxLow, nbBoxLow, cbBoxLow, AbBoxHigh, nbBoxHigh, cbBoxHigh, AbBudgets, nbBudgets, cbBudgets, AbPlans, nbPlans, cbPlans, AbContours, nbContours, cbContours, rfl, hbVersion, hbRatio, hbSlack, hbBoxLow, hbBoxHigh, hbBudgets, hbPlans, hbContours⟩ := rBouquet_rep.1 hb
 clear hb
 have hB : Below w.heap.size w w := Below.refl _ _
 have hAm := (Below.refl (World.heap (w)).size (w)).alloc (Nat.le_refl _) (.cells csm.toArray 46)
 replace hB := hB.trans (hAm.mono hB.size)
 have bxm := Bx.new (w) csm 46
 clear hAm
 have hAq := (Below.refl (World.heap ((w).alloc (.cells csm.toArray 46))).size ((w).alloc (.cells csm.toArray 46))).alloc (Nat.le_refl _) (.cells #[.int .i64 q.fVariableCount, .slice AqAtoms nqAtoms cqAtoms] 50)
 replace hB := hB.trans (hAq.mono hB.size)
 replace bxm := bxm.below hAq
 have bxq := Bx.new ((w).alloc (.cells csm.toArray 46)) [.int .i64 q.fVariableCount, .slice AqAtoms nqAtoms cqAtoms] 50
 simp only [World.size_alloc] at bxq
 clear hAq
 have hAb := (Below.refl (World.heap (((w).alloc (.cells csm.toArray 46)).alloc (.cells #[.int .i64 q.fVariableCount, .slice AqAtoms nqAtoms cqAtoms] 50))).size (((w).alloc (.cells csm.toArray 46)).alloc (.cells #[.int .i64 q.fVariableCount, .slice AqAtoms nqAtoms cqAtoms] 50))).alloc (Nat.le_refl _) (.cells #[.int .i64 b.fVersion, .int .i64 b.fRatio, .int .i64 b.fSlack, .slice AbBoxLow nbBoxLow cbBoxLow, .slice AbBoxHigh nbBoxHigh cbBoxHigh, .slice AbBudgets nbBudgets cbBudgets, .slice AbPlans nbPlans cbPlans, .slice AbContours nbContours cbContours] 55)
 replace hB := hB.trans (hAb.mono hB.size)
 replace bxm := bxm.below hAb
 replace bxq := bxq.below hAb
 have bxb := Bx.new (((w).alloc (.cells csm.toArray 46)).alloc (.cells #[.int .i64 q.fVariableCount, .slice AqAtoms nqAtoms cqAtoms] 50)) [.int .i64 b.fVersion, .int .i64 b.fRatio, .int .i64 b.fSlack, .slice AbBoxLow nbBoxLow cbBoxLow, .slice AbBoxHigh nbBoxHigh cbBoxHigh, .slice AbBudgets nbBudgets cbBudgets, .slice AbPlans nbPlans cbPlans, .slice AbContours nbContours cbContours] 55
 simp only [World.size_alloc] at bxb
 clear hAb
 have lenm' : csm.length = 30 := lenm
 clear lenm
 obtain ⟨_, hh, _, hbu, hco, hle⟩ := vbq_parts hv
 have HSL : Hid (0 ≤ b.fSlack ∧ b.fSlack ≤ 100) := Lib.hid (bqHead_parts hh).2.1
 have HBU := Lib.hid hbu
 have HCO := Lib.hid hco
 have HBK := Lib.hid hbk
 have HCL := Lib.hid hbContours.len
 have HPL := Lib.hid hbPlans.len
 have hnC := hbContours.bound
 have hnP := hbPlans.bound
 have HBL : Hid (nbBudgets = nbContours) := by show _ = _; have := hbBudgets.len; have := HCL.out; omega
 have HZL : Hid ((b.fBudgets.zip b.fContours).length = nbContours) := by show _ = _; rw [List.length_zip]; have := hbBudgets.len; have := HCL.out; omega
 clear hv hbk hh hbu hco hle
 go_enter Tryz.func26, Tryz.ntmps26
 go_upto_region 1 with fail
 obtain ⟨wb, hwb⟩ : ∃ W, W = ((w.alloc (.cells csm.toArray 46)).alloc (.cells #[.int .i64 q.fVariableCount, .slice AqAtoms nqAtoms cqAtoms] 50)).alloc (.cells #[.int .i64 b.fVersion, .int .i64 b.fRatio, .int .i64 b.fSlack, .slice AbBoxLow nbBoxLow cbBoxLow, .slice AbBoxHigh nbBoxHigh cbBoxHigh, .slice AbBudgets nbBudgets cbBudgets, .slice AbPlans nbPlans cbPlans, .slice AbContours nbContours cbContours] 55) := ⟨_, rfl⟩
 rw [← hwb] at hB bxm bxq bxb ⊢
 clear hwb
 go_wp2
 go_loopw [9, 10] (fun v i wr => ∃ (k : Nat) (n : Int), k ≤ nbBudgets ∧ i = .int .i64 k ∧ v = .int .i64 n ∧ (0 ≤ n ∧ n ≤ 1000000000000 * ((sumLen (b.fContours.take k) : Nat) : Int)) ∧ simAll (costAt m q b.fPlans l) (fun x => slackOf x b.fSlack) ((b.fBudgets.zip b.fContours).drop k) n = simB m q b l ∧ Below wb.heap.size wb wr) (fun _ i _ => nbBudgets - (intOf i).toNat)
 case atStart => exact ⟨0, 0, Nat.zero_le _, rfl, rfl, ⟨Int.le_refl 0, by simp [sumLen]⟩, rfl, Below.refl _ _⟩
 case round =>
  obtain ⟨k, n, hk, rfl, rfl, ⟨hn0, hn1⟩, hsim, hE⟩ := hrel
  have HSIM := Lib.hid hsim; clear hsim
  have hB2 := hB.trans (hE.mono hB.size)
  have kb_5 := (bxb.below hE) 5 _ rfl
  by_cases hlt : k < nbBudgets
  ·have hkC : k < nbContours := by have := HBL.out; omega
   have hkB : k < nbBudgets := by have := HBL.out; omega
   obtain ⟨bB, oB, x, rfl, hcx, hIx, hx⟩ := hbBudgets.ati hkB
   obtain ⟨bC, oC, row, Ar, nr, cr, rfl, hcr, hRr, hr⟩ := hbContours.row hkC
   have HX := Lib.hid hx.out; clear hx
   have HR := Lib.hid hr.out; clear hr
   have HZ : Hid ((b.fBudgets.zip b.fContours)[k]? = some (x, row)) := by show _ = _; exact List.getElem?_zip_eq_some.2 ⟨HX.out, HR.out⟩
   obtain ⟨s, hs⟩ : ∃ s, slackOf x b.fSlack = s := ⟨_, rfl⟩
   have hsb := slack_bd (HBU.out k x HX.out) HSL.out
   rw [hs] at hsb
   have HS := Lib.hid hs; clear hs
   have HSN : Hid (sumLen (b.fContours.take (k + 1)) = sumLen (b.fContours.take k) + nr) := by show _ = _; rw [sumLen_snoc HR.out, hRr.len]
   have HSM : Hid (sumLen (b.fContours.take k) + nr ≤ 1048576) := by show _ ≤ _; rw [← HSN.out]; exact Nat.le_trans (sumLen_take _ _) HBK.out
   have HRL := Lib.hid hRr.len
   have hnr := hRr.bound
   have hRp : Hid (∀ p ∈ row, 0 ≤ p ∧ p < (nbPlans : Int)) := by show ∀ p ∈ row, _; intro p hp; have := HCO.out row (mem_of_at HR.out) p hp; rw [HPL.out] at this; exact this
   have K1 : Hid (∀ W, Calls Tryz.prog 52 #[.int .i64 x, .int .i64 b.fSlack] W fun e w' => e = .returned (.int .i64 s) ∧ w' = W) := by
    show ∀ W, _
    exact fun W => sSlackBudget_w HS.out W
   have hcx2 := cells_below hB2 _ _ hcx
   have hcr2 := cells_below hB2 _ _ hcr
   have HSS : Hid (∀ w', Below wr.heap.size wr w' → (w'.cell? ⟨w.heap.size + 1 + 1, 5, none⟩ = some (.slice (some ⟨bB, oB, none⟩) nbBudgets cbBudgets) ∧ w'.cell? ⟨w.heap.size + 1 + 1, 2, none⟩ = some (.int .i64 b.fSlack) ∧ w'.cell? ⟨bB, oB + k, none⟩ = some (.int .i64 x))) := by
    show ∀ w', _ → _
    intro w' hb
    have hz := hE.trans (hb.mono hE.size)
    exact ⟨(bxb.below hz) 5 _ rfl, (bxb.below hz) 2 _ rfl, cells_below hb _ _ hcx2⟩
   go_wp2
   refine hbg HSS.out (Below.refl _ _).drew (fun hHeld => ?_)
   refine tka 0 21 hHeld ?_; simp only [putS]
   refine tka 1 22 hHeld ?_; simp only [putS]
   refine tka 2 23 hHeld ?_; simp only [putS]
   refine tka 3 24 hHeld ?_; simp only [putS]
   refine tka 4 25 hHeld ?_; simp only [putS]
   refine tka 5 26 hHeld ?_; simp only [putS]
   refine tka 6 27 hHeld ?_; simp only [putS]
   refine wpAnyH_ready (rs := [7]) (by kernel_rfl) (by simp) ?_
   refine AllReadyH.cons (o := ⟨some 28, _, _, _, _, _⟩) rfl (fun K hK => ?_) AllReadyH.nil
   clear hHeld
   go_simp
   refine (K1.out _).mono ?_
   rintro e w' ⟨rfl, rfl⟩
   go_wp2_with fail
   refine hK.out _ _ (HSS.out _ (Below.refl wr.heap.size wr).drew) (fun hHeld => ?_)
   clear hK K
   try simp only [putS]
   refine tka 8 11 hHeld ?_; simp only [putS]
   refine wpAnyH_done (by kernel_rfl) ?_ _
   clear hHeld
   have hE3 : Below wb.heap.size wb wr.drew := hE.drew
   clear HSS K1 hcx2 hcr2 kb_5
   go_wp2
   go_loopw [9, 12] (fun v i wi => ∃ (t : Nat) (n2 : Int), t ≤ nr ∧ i = .int .i64 t ∧ v = .int .i64 n2 ∧ (0 ≤ n2 ∧ n2 ≤ 1000000000000 * ((sumLen (b.fContours.take k) + t : Nat) : Int)) ∧ simRow (costAt m q b.fPlans l) s (row.drop t) n2 = simRow (costAt m q b.fPlans l) s row n ∧ Below wb.heap.size wb wi) (fun _ i _ => nr - (intOf i).toNat)
   case atStart => exact ⟨0, n, Nat.zero_le _, rfl, rfl, ⟨hn0, hn1⟩, rfl, hE3⟩
   case round =>
    clear hE hE3 hB2
    obtain ⟨t, n2, ht, rfl, rfl, ⟨hm0, hm1⟩, hrow, hE⟩ := hrel
    have HROW := Lib.hid hrow; clear hrow
    have hB2 := hB.trans (hE.mono hB.size)
    have hsm := HSM.out
    have kb_7 := (bxb.below hE) 7 _ rfl
    have hcr2 := cells_below hB2 _ _ hcr
    by_cases hlt2 : t < nr
    ·obtain ⟨bR, oR, p, rfl, hcp, hIp, hp⟩ := hRr.ati hlt2
     have HP := Lib.hid hp.out; clear hp
     have hpb := hRp.out p (mem_of_at HP.out)
     obtain ⟨j, rfl⟩ : ∃ j : Nat, p = j := ⟨p.toNat, by omega⟩
     have hj : j < nbPlans := by omega
     obtain ⟨bP, oP, P, AP, nP, cP, rfl, hcP, hRP, hPX⟩ := hbPlans.planP hj
     obtain ⟨c, hc⟩ : ∃ c, costAt m q b.fPlans l (j : Int) = c := ⟨_, rfl⟩
     have HC := Lib.hid hc
     have hcb : -28000000000 ≤ c ∧ c ≤ 28000000000 := by rw [← hc, costAt_nat hPX.out]; exact planCost_bd _ _ _ _
     have K2 : Hid (∀ W, Below wb.heap.size wb W → Calls Tryz.prog 53 #[.agg csm.toArray, .agg #[.int .i64 q.fVariableCount, .slice AqAtoms nqAtoms cqAtoms], .agg #[.slice AP nP cP], .slice Al nl cl] W fun e w' => e = .returned (.int .i64 c) ∧ Below W.heap.size W w') := by
      show ∀ W, _ → _
      intro W hW
      have hX := hB.trans (hW.mono hB.size)
      rw [← hc, costAt_nat hPX.out]
      exact sPlanCostAt_c _ m _ q _ P _ _ _ l W ((rModel_ok NB).keep rm (cells_below hX)) ((rQuery_ok NB).keep rq (cells_below hX)) (rPlan_rep.2 ⟨_, _, _, rfl, hRP.below (rPlanStep_ok NB) hX⟩) (hl.below rInt_ok hX)
     clear hc hPX
     have hcp2 := cells_below hB2 _ _ hcp
     have hcP2 := cells_below hB2 _ _ hcP
     have HSS : Hid (∀ w', Below wr.heap.size wr w' → (w'.rangeAt w.heap.size 0 csm ∧ w'.cell? ⟨w.heap.size + 1, 0, none⟩ = some (.int .i64 q.fVariableCount) ∧ w'.cell? ⟨w.heap.size + 1, 1, none⟩ = some (.slice AqAtoms nqAtoms cqAtoms) ∧ w'.cell? ⟨w.heap.size + 1 + 1, 6, none⟩ = some (.slice (some ⟨bP, oP, none⟩) nbPlans cbPlans) ∧ w'.cell? ⟨bP, oP + j, none⟩ = some (.slice AP nP cP) ∧ w'.cell? ⟨w.heap.size + 1 + 1, 7, none⟩ = some (.slice (some ⟨bC, oC, none⟩) nbContours cbContours) ∧ w'.cell? ⟨bC, oC + k, none⟩ = some (.slice (some ⟨bR, oR, none⟩) nr cr) ∧ w'.cell? ⟨bR, oR + t, none⟩ = some (.int .i64 (j : Int)))) := by
      show ∀ w', _ → _
      intro w' hb
      have hz := hE.trans (hb.mono hE.size)
      exact ⟨(bxm.below hz).range, (bxq.below hz) 0 _ rfl, (bxq.below hz) 1 _ rfl, (bxb.below hz) 6 _ rfl, cells_below hb _ _ hcP2, (bxb.below hz) 7 _ rfl, cells_below hb _ _ hcr2, cells_below hb _ _ hcp2⟩
     have hjI : (j : Int) < (nbPlans : Int) := by omega
     have hkI : (k : Int) < (nbContours : Int) := by omega
     go_wp2
     refine hbg HSS.out (Below.refl _ _).drew (fun hHeld => ?_)
     refine' wpAnyH_take (i := 0) (oi := ⟨some 39,_,_,_,_,_⟩) (v := _) rfl (by kernel_rfl) (by kernel_rfl) (by kernel_rfl) (fun _ _ _ h => h) (yieldsIf_load_mid (by rfl) _ _ rfl _ _ rfl _ _ (fun w h => h.1) Tryz.underlying46 rfl (by rw [lenm']; exact sizeModel)) hHeld ?_
     simp only [putS]
     refine tka 1 40 hHeld ?_; simp only [putS]
     refine tka 2 41 hHeld ?_; simp only [putS]
     refine tka 3 42 hHeld ?_; simp only [putS]
     refine tka 4 43 hHeld ?_; simp only [putS]
     refine tka 5 44 hHeld ?_; simp only [putS]
     refine tka 6 45 hHeld ?_; simp only [putS]
     refine tka 7 46 hHeld ?_; simp only [putS]
     refine tka 8 47 hHeld ?_; simp only [putS]
     refine tka 9 48 hHeld ?_; simp only [putS]
     refine tka 10 49 hHeld ?_; simp only [putS]
     refine tka 11 50 hHeld ?_; simp only [putS]
     refine tka 12 51 hHeld ?_; simp only [putS]
     refine tka 13 52 hHeld ?_; simp only [putS]
     refine tka 14 53 hHeld ?_; simp only [putS]
     refine wpAnyH_ready (rs := [15]) (by kernel_rfl) (by simp) ?_
     refine AllReadyH.cons (o := ⟨some 54, _, _, _, _, _⟩) rfl (fun K hK => ?_) AllReadyH.nil
     clear hHeld
     go_simp
     refine (K2.out _ (hE.drew)).mono ?_
     rintro e w2 ⟨rfl, hb2⟩
     have hC : Below wr.heap.size wr w2 := ((Below.refl wr.heap.size wr).drew.trans (hb2.mono (by simp)))
     go_wp2_with fail
     refine hK.out _ _ (HSS.out _ hC) (fun hHeld => ?_)
     clear hK K
     try simp only [putS]
     refine tka 16 13 hHeld ?_; simp only [putS]
     refine wpAnyH_done (by kernel_rfl) ?_ _
     clear hHeld
     have hE4 := hE.trans (hC.mono hE.size)
     clear HSS K2 hcp2 hcP2 kb_7 hcr2
     by_cases hcs : c ≤ s
     ·have HY : Hid (simB m q b l = (n2 + c, true)) := by
       show _ = _
       have h1 := simRow_yes (f := costAt m q b.fPlans l) (s := s) (n := n2) HP.out (by rw [HC.out]; exact hcs)
       rw [HROW.out, HC.out] at h1
       rw [← HSIM.out]
       exact simAll_yes HZ.out (by show simRow _ (slackOf x b.fSlack) _ _ = _; rw [HS.out]; exact h1)
      have wn : IntKind.i64.wrap (n2 + c) = n2 + c := IntWalk.i64_in _ (by omega)
      go_wp2
      go_ret
      exact ⟨ret_int (simT_yes HY.out).symm, hB.trans (hE4.mono hB.size)⟩
     ·have HY : Hid (simRow (costAt m q b.fPlans l) s (row.drop (t + 1)) (n2 + s) = simRow (costAt m q b.fPlans l) s row n) := by
       show _ = _
       rw [← HROW.out]
       exact (simRow_no HP.out (by rw [HC.out]; exact hcs)).symm
      have wn : IntKind.i64.wrap (n2 + s) = n2 + s := IntWalk.i64_in _ (by omega)
      go_wp2
      go_roundw
      case rel => exact ⟨t + 1, n2 + s, by omega, by go_num, rfl, ⟨by omega, by omega⟩, HY.out, hE4⟩
      case measure => simp [intOf]; omega
    ·have HY : Hid (simAll (costAt m q b.fPlans l) (fun x => slackOf x b.fSlack) ((b.fBudgets.zip b.fContours).drop (k + 1)) n2 = simB m q b l) := by
      show _ = _
      have h1 := simRow_end (f := costAt m q b.fPlans l) (s := s) (n := n2) (l := row) (i := t) (by have := HRL.out; omega)
      rw [HROW.out] at h1
      rw [← HSIM.out]
      exact (simAll_no HZ.out (by show simRow _ (slackOf x b.fSlack) _ _ = _; rw [HS.out]; exact h1)).symm
     have hsn := HSN.out
     go_wp2
     go_roundw
     case rel => exact ⟨k + 1, n2, by omega, by go_num, rfl, ⟨hm0, by rw [hsn]; omega⟩, HY.out, hE⟩
     case measure => simp [intOf]; omega
  ·have HY : Hid (simB m q b l = (0, false)) := by
    show _ = _
    rw [← HSIM.out]
    exact simAll_end (by have := HZL.out; have := HBL.out; omega)
   go_wp2
   go_ret
   exact ⟨ret_int (a := -1) (simT_no HY.out).symm, hB2⟩
set_option maxRecDepth 100000 in
set_option maxHeartbeats 1600000 in
theorem iSimulateBouquet_c (csm : List Value) (m : ModelD) (csq : List Value) (q : QueryD) (csb : List Value) (b : BouquetD) (Al : Option Addr) (nl cl : Nat) (l : List Int) (w : World) (hm : (rModel NB).rep w csm m) (hq : (rQuery NB).rep w csq q) (hb : (rBouquet NB).rep w csb b) (hl : RS NB rInt w Al nl cl l) (hbk : sumLen b.fContours ≤ 1048576) :
  Calls Tryz.prog 12 #[.agg csm.toArray, .agg csq.toArray, .agg csb.toArray, .slice Al nl cl] w fun e w' => e = .returned (.tuple #[.int .i64 (simulateB m q b l).1, .bool (simulateB m q b l).2]) ∧ Below w.heap.size w w' := by
 have rm := hm
 have lenm := (rModel_ok NB).len hm
 clear hm
 have rq := hq
 obtain ⟨AqAtoms, nqAtoms, cqAtoms, rfl, hqVariableCount, hqAtoms⟩ := rQuery_rep.1 hq
 clear hq
 have rb := hb
 obtain ⟨AbBoxLow, nbBoxLow, cbBoxLow, AbBoxHigh, nbBoxHigh, cbBoxHigh, AbBudgets, nbBudgets, cbBudgets, AbPlans, nbPlans, cbPlans, AbContours, nbContours, cbContours, rfl, hbVersion, hbRatio, hbSlack, hbBoxLow, hbBoxHigh, hbBudgets, hbPlans, hbContours⟩ := rBouquet_rep.1 hb
 clear hb
 have hB : Below w.heap.size w w := Below.refl _ _
 have hAm := (Below.refl (World.heap (w)).size (w)).alloc (Nat.le_refl _) (.cells csm.toArray 46)
 replace hB := hB.trans (hAm.mono hB.size)
 have bxm := Bx.new (w) csm 46
 clear hAm
 have hAq := (Below.refl (World.heap ((w).alloc (.cells csm.toArray 46))).size ((w).alloc (.cells csm.toArray 46))).alloc (Nat.le_refl _) (.cells #[.int .i64 q.fVariableCount, .slice AqAtoms nqAtoms cqAtoms] 50)
 replace hB := hB.trans (hAq.mono hB.size)
 replace bxm := bxm.below hAq
 have bxq := Bx.new ((w).alloc (.cells csm.toArray 46)) [.int .i64 q.fVariableCount, .slice AqAtoms nqAtoms cqAtoms] 50
 simp only [World.size_alloc] at bxq
 clear hAq
 have hAb := (Below.refl (World.heap (((w).alloc (.cells csm.toArray 46)).alloc (.cells #[.int .i64 q.fVariableCount, .slice AqAtoms nqAtoms cqAtoms] 50))).size (((w).alloc (.cells csm.toArray 46)).alloc (.cells #[.int .i64 q.fVariableCount, .slice AqAtoms nqAtoms cqAtoms] 50))).alloc (Nat.le_refl _) (.cells #[.int .i64 b.fVersion, .int .i64 b.fRatio, .int .i64 b.fSlack, .slice AbBoxLow nbBoxLow cbBoxLow, .slice AbBoxHigh nbBoxHigh cbBoxHigh, .slice AbBudgets nbBudgets cbBudgets, .slice AbPlans nbPlans cbPlans, .slice AbContours nbContours cbContours] 55)
 replace hB := hB.trans (hAb.mono hB.size)
 replace bxm := bxm.below hAb
 replace bxq := bxq.below hAb
 have bxb := Bx.new (((w).alloc (.cells csm.toArray 46)).alloc (.cells #[.int .i64 q.fVariableCount, .slice AqAtoms nqAtoms cqAtoms] 50)) [.int .i64 b.fVersion, .int .i64 b.fRatio, .int .i64 b.fSlack, .slice AbBoxLow nbBoxLow cbBoxLow, .slice AbBoxHigh nbBoxHigh cbBoxHigh, .slice AbBudgets nbBudgets cbBudgets, .slice AbPlans nbPlans cbPlans, .slice AbContours nbContours cbContours] 55
 simp only [World.size_alloc] at bxb
 clear hAb
 have lenm' : csm.length = 30 := lenm
 clear lenm
 have HBK := Lib.hid hbk; clear hbk
 go_enter Tryz.func12, Tryz.ntmps12
 go_wp2_with (refine wpList_load_mid rfl 46 _ rfl w.heap.size 0 rfl csm _ bxm.range Tryz.underlying46 rfl (by rw [lenm']; exact sizeModel) ?_)
 refine (iIsAdmitted_c _ m _ ((rModel_ok NB).keep rm (cells_below hB))).mono ?_
 rintro e w1 ⟨rfl, hb1⟩
 replace hB := hB.trans (hb1.mono hB.size)
 replace bxm := bxm.below hb1
 replace bxq := bxq.below hb1
 replace bxb := bxb.below hb1
 clear hb1
 cases e1 : admitted m
 ·have HN : Hid (simulateB m q b l = (0, false)) := by show _ = _; simp [simulateB, e1]
  clear e1
  go_wp2
  go_ret2
  exact ⟨by rw [HN.out]; rfl, hB⟩
 have H1 := Lib.hid e1; clear e1
 have kq_0 := bxq 0 _ rfl
 have kq_1 := bxq 1 _ rfl
 have kb_0 := bxb 0 _ rfl
 have kb_1 := bxb 1 _ rfl
 have kb_2 := bxb 2 _ rfl
 have kb_3 := bxb 3 _ rfl
 have kb_4 := bxb 4 _ rfl
 have kb_5 := bxb 5 _ rfl
 have kb_6 := bxb 6 _ rfl
 have kb_7 := bxb 7 _ rfl
 go_wp2_with fail
 refine (iIsValidBouquet_c _ q _ b _ ((rQuery_ok NB).keep rq (cells_below hB)) ((rBouquet_ok NB).keep rb (cells_below hB))).mono ?_
 rintro e w2 ⟨rfl, hb2⟩
 replace hB := hB.trans (hb2.mono hB.size)
 replace bxm := bxm.below hb2
 replace bxq := bxq.below hb2
 replace bxb := bxb.below hb2
 clear hb2 kq_0 kq_1 kb_0 kb_1 kb_2 kb_3 kb_4 kb_5 kb_6 kb_7
 cases e1 : validBouquet q b
 ·have HN : Hid (simulateB m q b l = (0, false)) := by show _ = _; simp [simulateB, e1]
  clear e1
  go_wp2
  go_ret2
  exact ⟨by rw [HN.out]; rfl, hB⟩
 have H2 := Lib.hid e1; clear e1
 have kb_3 := bxb 3 _ rfl
 have kb_4 := bxb 4 _ rfl
 go_wp2_with fail
 refine (iIsInBox_c _ b.fBox _ _ _ l _ (rBox_rep.2 ⟨AbBoxLow, nbBoxLow, cbBoxLow, AbBoxHigh, nbBoxHigh, cbBoxHigh, rfl, hbBoxLow.below rInt_ok hB, hbBoxHigh.below rInt_ok hB⟩) (hl.below rInt_ok hB)).mono ?_
 rintro e w3 ⟨rfl, hb3⟩
 replace hB := hB.trans (hb3.mono hB.size)
 replace bxm := bxm.below hb3
 replace bxq := bxq.below hb3
 replace bxb := bxb.below hb3
 clear hb3 kb_3 kb_4
 cases e1 : inBox b.fBox l
 ·have HN : Hid (simulateB m q b l = (0, false)) := by show _ = _; simp [simulateB, e1]
  clear e1
  go_wp2
  go_ret2
  exact ⟨by rw [HN.out]; rfl, hB⟩
 have HN : Hid (simulateB m q b l = simB m q b l) := by show _ = _; simp [simulateB, H1.out, H2.out, e1]
 have HP := Lib.hid (simB_pos H1.out H2.out e1)
 clear e1
 have kq_0 := bxq 0 _ rfl
 have kq_1 := bxq 1 _ rfl
 have kb_0 := bxb 0 _ rfl
 have kb_1 := bxb 1 _ rfl
 have kb_2 := bxb 2 _ rfl
 have kb_3 := bxb 3 _ rfl
 have kb_4 := bxb 4 _ rfl
 have kb_5 := bxb 5 _ rfl
 have kb_6 := bxb 6 _ rfl
 have kb_7 := bxb 7 _ rfl
 go_wp2_with (refine wpList_load_mid rfl 46 _ rfl w.heap.size 0 rfl csm _ bxm.range Tryz.underlying46 rfl (by rw [lenm']; exact sizeModel) ?_)
 refine (iSimulate_c _ m _ q _ b _ _ _ l _ ((rModel_ok NB).keep rm (cells_below hB)) ((rQuery_ok NB).keep rq (cells_below hB)) ((rBouquet_ok NB).keep rb (cells_below hB)) (hl.below rInt_ok hB) H2.out HBK.out).mono ?_
 rintro e w4 ⟨rfl, hb4⟩
 replace hB := hB.trans (hb4.mono hB.size)
 replace bxm := bxm.below hb4
 replace bxq := bxq.below hb4
 replace bxb := bxb.below hb4
 clear hb4 kq_0 kq_1 kb_0 kb_1 kb_2 kb_3 kb_4 kb_5 kb_6 kb_7
 go_wp2
 go_ret2
 exact ⟨by rw [HN.out]; rfl, hB⟩
set_option maxRecDepth 100000 in
set_option maxHeartbeats 1600000 in
theorem sSimulateBouquet_c (csm : List Value) (m : ModelD) (csq : List Value) (q : QueryD) (csb : List Value) (b : BouquetD) (Al : Option Addr) (nl cl : Nat) (l : List Int) (w : World) (hm : (rModel NB).rep w csm m) (hq : (rQuery NB).rep w csq q) (hb : (rBouquet NB).rep w csb b) (hl : RS NB rInt w Al nl cl l) (hbk : sumLen b.fContours ≤ 1048576) :
  Calls Tryz.prog 7 #[.agg csm.toArray, .agg csq.toArray, .agg csb.toArray, .slice Al nl cl] w fun e w' => e = .returned (.tuple #[.int .i64 (simulateB m q b l).1, .bool (simulateB m q b l).2]) ∧ Below w.heap.size w w' := by
 have rm := hm
 have lenm := (rModel_ok NB).len hm
 clear hm
 have rq := hq
 obtain ⟨AqAtoms, nqAtoms, cqAtoms, rfl, hqVariableCount, hqAtoms⟩ := rQuery_rep.1 hq
 clear hq
 have rb := hb
 obtain ⟨AbBoxLow, nbBoxLow, cbBoxLow, AbBoxHigh, nbBoxHigh, cbBoxHigh, AbBudgets, nbBudgets, cbBudgets, AbPlans, nbPlans, cbPlans, AbContours, nbContours, cbContours, rfl, hbVersion, hbRatio, hbSlack, hbBoxLow, hbBoxHigh, hbBudgets, hbPlans, hbContours⟩ := rBouquet_rep.1 hb
 clear hb
 have hB : Below w.heap.size w w := Below.refl _ _
 have hAm := (Below.refl (World.heap (w)).size (w)).alloc (Nat.le_refl _) (.cells csm.toArray 46)
 replace hB := hB.trans (hAm.mono hB.size)
 have bxm := Bx.new (w) csm 46
 clear hAm
 have hAq := (Below.refl (World.heap ((w).alloc (.cells csm.toArray 46))).size ((w).alloc (.cells csm.toArray 46))).alloc (Nat.le_refl _) (.cells #[.int .i64 q.fVariableCount, .slice AqAtoms nqAtoms cqAtoms] 50)
 replace hB := hB.trans (hAq.mono hB.size)
 replace bxm := bxm.below hAq
 have bxq := Bx.new ((w).alloc (.cells csm.toArray 46)) [.int .i64 q.fVariableCount, .slice AqAtoms nqAtoms cqAtoms] 50
 simp only [World.size_alloc] at bxq
 clear hAq
 have hAb := (Below.refl (World.heap (((w).alloc (.cells csm.toArray 46)).alloc (.cells #[.int .i64 q.fVariableCount, .slice AqAtoms nqAtoms cqAtoms] 50))).size (((w).alloc (.cells csm.toArray 46)).alloc (.cells #[.int .i64 q.fVariableCount, .slice AqAtoms nqAtoms cqAtoms] 50))).alloc (Nat.le_refl _) (.cells #[.int .i64 b.fVersion, .int .i64 b.fRatio, .int .i64 b.fSlack, .slice AbBoxLow nbBoxLow cbBoxLow, .slice AbBoxHigh nbBoxHigh cbBoxHigh, .slice AbBudgets nbBudgets cbBudgets, .slice AbPlans nbPlans cbPlans, .slice AbContours nbContours cbContours] 55)
 replace hB := hB.trans (hAb.mono hB.size)
 replace bxm := bxm.below hAb
 replace bxq := bxq.below hAb
 have bxb := Bx.new (((w).alloc (.cells csm.toArray 46)).alloc (.cells #[.int .i64 q.fVariableCount, .slice AqAtoms nqAtoms cqAtoms] 50)) [.int .i64 b.fVersion, .int .i64 b.fRatio, .int .i64 b.fSlack, .slice AbBoxLow nbBoxLow cbBoxLow, .slice AbBoxHigh nbBoxHigh cbBoxHigh, .slice AbBudgets nbBudgets cbBudgets, .slice AbPlans nbPlans cbPlans, .slice AbContours nbContours cbContours] 55
 simp only [World.size_alloc] at bxb
 clear hAb
 have lenm' : csm.length = 30 := lenm
 clear lenm
 have HBK := Lib.hid hbk; clear hbk
 go_enter Tryz.func7, Tryz.ntmps7
 go_wp2_with (refine wpList_load_mid rfl 46 _ rfl w.heap.size 0 rfl csm _ bxm.range Tryz.underlying46 rfl (by rw [lenm']; exact sizeModel) ?_)
 refine (sIsAdmitted_c _ m _ ((rModel_ok NB).keep rm (cells_below hB))).mono ?_
 rintro e w1 ⟨rfl, hb1⟩
 replace hB := hB.trans (hb1.mono hB.size)
 replace bxm := bxm.below hb1
 replace bxq := bxq.below hb1
 replace bxb := bxb.below hb1
 clear hb1
 cases e1 : admitted m
 ·have HN : Hid (simulateB m q b l = (0, false)) := by show _ = _; simp [simulateB, e1]
  clear e1
  go_wp2
  go_ret2
  exact ⟨by rw [HN.out]; rfl, hB⟩
 have H1 := Lib.hid e1; clear e1
 have kq_0 := bxq 0 _ rfl
 have kq_1 := bxq 1 _ rfl
 have kb_0 := bxb 0 _ rfl
 have kb_1 := bxb 1 _ rfl
 have kb_2 := bxb 2 _ rfl
 have kb_3 := bxb 3 _ rfl
 have kb_4 := bxb 4 _ rfl
 have kb_5 := bxb 5 _ rfl
 have kb_6 := bxb 6 _ rfl
 have kb_7 := bxb 7 _ rfl
 go_wp2_with fail
 refine (sIsValidBouquet_c _ q _ b _ ((rQuery_ok NB).keep rq (cells_below hB)) ((rBouquet_ok NB).keep rb (cells_below hB))).mono ?_
 rintro e w2 ⟨rfl, hb2⟩
 replace hB := hB.trans (hb2.mono hB.size)
 replace bxm := bxm.below hb2
 replace bxq := bxq.below hb2
 replace bxb := bxb.below hb2
 clear hb2 kq_0 kq_1 kb_0 kb_1 kb_2 kb_3 kb_4 kb_5 kb_6 kb_7
 cases e1 : validBouquet q b
 ·have HN : Hid (simulateB m q b l = (0, false)) := by show _ = _; simp [simulateB, e1]
  clear e1
  go_wp2
  go_ret2
  exact ⟨by rw [HN.out]; rfl, hB⟩
 have H2 := Lib.hid e1; clear e1
 have kb_3 := bxb 3 _ rfl
 have kb_4 := bxb 4 _ rfl
 go_wp2_with fail
 refine (sIsInBox_c _ b.fBox _ _ _ l _ (rBox_rep.2 ⟨AbBoxLow, nbBoxLow, cbBoxLow, AbBoxHigh, nbBoxHigh, cbBoxHigh, rfl, hbBoxLow.below rInt_ok hB, hbBoxHigh.below rInt_ok hB⟩) (hl.below rInt_ok hB)).mono ?_
 rintro e w3 ⟨rfl, hb3⟩
 replace hB := hB.trans (hb3.mono hB.size)
 replace bxm := bxm.below hb3
 replace bxq := bxq.below hb3
 replace bxb := bxb.below hb3
 clear hb3 kb_3 kb_4
 cases e1 : inBox b.fBox l
 ·have HN : Hid (simulateB m q b l = (0, false)) := by show _ = _; simp [simulateB, e1]
  clear e1
  go_wp2
  go_ret2
  exact ⟨by rw [HN.out]; rfl, hB⟩
 have HN : Hid (simulateB m q b l = simB m q b l) := by show _ = _; simp [simulateB, H1.out, H2.out, e1]
 have HP := Lib.hid (simB_pos H1.out H2.out e1)
 clear e1
 have kq_0 := bxq 0 _ rfl
 have kq_1 := bxq 1 _ rfl
 have kb_0 := bxb 0 _ rfl
 have kb_1 := bxb 1 _ rfl
 have kb_2 := bxb 2 _ rfl
 have kb_3 := bxb 3 _ rfl
 have kb_4 := bxb 4 _ rfl
 have kb_5 := bxb 5 _ rfl
 have kb_6 := bxb 6 _ rfl
 have kb_7 := bxb 7 _ rfl
 go_wp2_with (refine wpList_load_mid rfl 46 _ rfl w.heap.size 0 rfl csm _ bxm.range Tryz.underlying46 rfl (by rw [lenm']; exact sizeModel) ?_)
 refine (sTotal_c _ m _ q _ b _ _ _ l _ ((rModel_ok NB).keep rm (cells_below hB)) ((rQuery_ok NB).keep rq (cells_below hB)) ((rBouquet_ok NB).keep rb (cells_below hB)) (hl.below rInt_ok hB) H2.out HBK.out).mono ?_
 rintro e w4 ⟨rfl, hb4⟩
 replace hB := hB.trans (hb4.mono hB.size)
 replace bxm := bxm.below hb4
 replace bxq := bxq.below hb4
 replace bxb := bxb.below hb4
 clear hb4 kq_0 kq_1 kb_0 kb_1 kb_2 kb_3 kb_4 kb_5 kb_6 kb_7
 cases hs : (simB m q b l).2
 ·have HZ : Hid (simB m q b l = (0, false)) := Lib.hid (simAll_none _ hs)
  have HT := Lib.hid (simT_no HZ.out)
  clear hs
  rw [HT.out]
  go_wp2
  go_ret2
  exact ⟨by rw [HN.out, HZ.out]; rfl, hB⟩
 ·have hp := HP.out
  obtain ⟨v, hv⟩ : ∃ v, (simB m q b l).1 = v := ⟨_, rfl⟩
  have HZ : Hid (simB m q b l = (v, true)) := by show _ = _; rw [← hv, ← hs]
  have HT := Lib.hid (simT_yes HZ.out)
  rw [hv] at hp
  clear hs hv
  rw [HT.out]
  go_wp2
  go_ret2
  exact ⟨by rw [HN.out, HZ.out]; rfl, hB⟩
end Go.Proofs.YtnbikckbnbgjkaaGreat
