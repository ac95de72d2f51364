/-
  FnExactSimulateBouquet
-/
import Derived.Test.YtnbikckbnbgjkaaGreatRows
import Derived.Test.YtnbikckbnbgjkaaGreatKeep
import Derived.Test.YtnbikckbnbgjkaaGreatSim
import Derived.Test.YtnbikckbnbgjkaaGreatToM
import Derived.Test.YtnbikckbnbgjkaaGreatOpens
import Derived.Test.YtnbikckbnbgjkaaGreatTo
import Derived.Test.YtnbikckbnbgjkaaGreatEq
import Derived.WalkKit
import Derived.ProofKit
import Derived.OpenShut
import Derived.ShutString
import Derived.ChangeOld
import Derived.Below
import Derived.Deep.RegionHeld3
namespace Go.Proofs.YtnbikckbnbgjkaaGreat.fnExactSimulateBouquet
open Go.ChangeShapes Go.WideShapes Go.ChangeAt Go.RowKit
open Go.ChangeMaps (open_string shut_string)
set_option linter.unusedVariables false
set_option linter.unusedSimpArgs false

theorem sizeLawModel : (Tryz.prog.info? 26).map (·.size) = some 30 := by kernel_rfl
theorem own : ownKnob Tryz.prog.godebug = none := by kernel_rfl
theorem laidOut : laidOutB Tryz.prog = true := by kernel_rfl
theorem sumLen_bulk {b : BouquetD} (h : ((bulkBouquet b : Nat) : Int) ≤ 1048576) : sumLen b.fContours ≤ 1048576 := by
 unfold bulkBouquet bulkS at h
 unfold sumLen
 have e : (b.fContours.map List.length).sum = (b.fContours.map (fun x => x.length)).sum := rfl
 omega

set_option maxRecDepth 100000 in
set_option maxHeartbeats 4000000 in
theorem walk (csM : List Value) (xM : ModelD) (csQ : List Value) (xQ : QueryD) (csB : List Value) (xB : BouquetD) (ALocation : Option Addr) (nLocation kLocation : Nat) (lLocation : List Int) (w : World) (rM : (rModel maxLen).rep w csM xM) (rQ : (rQuery maxLen).rep w csQ xQ) (rB : (rBouquet maxLen).rep w csB xB) (rLocation : RS maxLen rInt w ALocation nLocation kLocation lLocation) :
  Calls Tryz.prog 3 #[.agg csM.toArray, .agg csQ.toArray, .agg csB.toArray, .slice ALocation nLocation kLocation] w fun e w' => e = .returned (.bool true) ∧ Below w.heap.size w w' := by
 have hB : Below w.heap.size w w := Below.refl _ _
 have lenM : csM.length = 30 := (rModel_ok maxLen).len rM
 have qQ := rQ
 obtain ⟨AQAtoms, nQAtoms, cQAtoms, rfl, hQVariableCount, hQAtoms⟩ := rQuery_rep.1 qQ
 clear qQ
 have qB := rB
 obtain ⟨ABBoxLow, nBBoxLow, cBBoxLow, ABBoxHigh, nBBoxHigh, cBBoxHigh, ABBudgets, nBBudgets, cBBudgets, ABPlans, nBPlans, cBPlans, ABContours, nBContours, cBContours, rfl, hBVersion, hBRatio, hBSlack, hBBoxLow, hBBoxHigh, hBBudgets, hBPlans, hBContours⟩ := rBouquet_rep.1 qB
 clear qB
 have hnLocation : nLocation ≤ 9223372036854775807 := rLocation.nb
 by_cases hszLocation : nLocation ≤ 1048576
 rotate_left
 ·go_enter Tryz.func3, Tryz.ntmps3
  go_wp2
  go_ret
  exact ⟨rfl, (by repeat' (first | with_reducible exact hB | with_reducible refine Below.setCell ?_ ?_ _ | with_reducible refine Below.alloc ?_ ?_ _ | (simp; done) | (simp; omega) | omega))⟩
 have sLocation := smallIntS rLocation (by have := rLocation.len; omega)
 go_enter Tryz.func3, Tryz.ntmps3
 have hA1 := (Below.refl (World.heap (w)).size (w)).alloc (Nat.le_refl _) (.cells csM.toArray 26)
 replace hB := hB.trans (hA1.mono hB.size)
 have bxM := Bx.new (w) csM 26
 clear hA1
 have hA2 := (Below.refl (World.heap ((w).alloc (.cells csM.toArray 26))).size ((w).alloc (.cells csM.toArray 26))).alloc (Nat.le_refl _) (.cells #[.int .i64 xQ.fVariableCount, .slice AQAtoms nQAtoms cQAtoms] 29)
 replace hB := hB.trans (hA2.mono hB.size)
 replace bxM := bxM.below hA2
 have bxQ := Bx.new ((w).alloc (.cells csM.toArray 26)) [.int .i64 xQ.fVariableCount, .slice AQAtoms nQAtoms cQAtoms] 29
 simp only [World.size_alloc] at bxQ
 clear hA2
 have hA3 := (Below.refl (World.heap (((w).alloc (.cells csM.toArray 26)).alloc (.cells #[.int .i64 xQ.fVariableCount, .slice AQAtoms nQAtoms cQAtoms] 29))).size (((w).alloc (.cells csM.toArray 26)).alloc (.cells #[.int .i64 xQ.fVariableCount, .slice AQAtoms nQAtoms cQAtoms] 29))).alloc (Nat.le_refl _) (.cells #[.int .i64 xB.fVersion, .int .i64 xB.fRatio, .int .i64 xB.fSlack, .slice ABBoxLow nBBoxLow cBBoxLow, .slice ABBoxHigh nBBoxHigh cBBoxHigh, .slice ABBudgets nBBudgets cBBudgets, .slice ABPlans nBPlans cBPlans, .slice ABContours nBContours cBContours] 36)
 replace hB := hB.trans (hA3.mono hB.size)
 replace bxM := bxM.below hA3
 replace bxQ := bxQ.below hA3
 have bxB := Bx.new (((w).alloc (.cells csM.toArray 26)).alloc (.cells #[.int .i64 xQ.fVariableCount, .slice AQAtoms nQAtoms cQAtoms] 29)) [.int .i64 xB.fVersion, .int .i64 xB.fRatio, .int .i64 xB.fSlack, .slice ABBoxLow nBBoxLow cBBoxLow, .slice ABBoxHigh nBBoxHigh cBBoxHigh, .slice ABBudgets nBBudgets cBBudgets, .slice ABPlans nBPlans cBPlans, .slice ABContours nBContours cBContours] 36
 simp only [World.size_alloc] at bxB
 clear hA3
 go_wp2_with (first | (refine wpList_load_mid rfl 26 _ rfl (w.heap.size) 0 rfl csM _ bxM.range Tryz.underlying26 rfl (by rw [lenM]; exact sizeLawModel) ?_))
 refine (szModel_c _ xM _ _ ((rModel_ok maxLen).keep rM (cells_below hB)) (by omega) (by omega)).mono ?_
 rintro e w5 ⟨rfl, hb4⟩
 replace hB := hB.trans (hb4.mono hB.size)
 replace bxM := bxM.below hb4
 replace bxQ := bxQ.below hb4
 replace bxB := bxB.below hb4
 clear hb4
 by_cases hszM : ((bulkModel xM : Nat) : Int) ≤ 1048576
 rotate_left
 ·rw [lessBy_no hszM]
  go_wp2
  go_ret
  exact ⟨rfl, hB⟩
 rw [lessBy_yes hszM]
 have sM := smallModel rM (by omega)
 obtain ⟨L6, hL6⟩ : ∃ L : Int, L = 1048576 - ((bulkModel xM : Nat) : Int) := ⟨_, rfl⟩
 rw [← hL6]
 have pL6 : 0 ≤ L6 := by omega
 have uL6 : L6 ≤ 1048576 := by omega
 clear hL6
 have cbxQ_0 := bxQ 0 _ rfl
 have cbxQ_1 := bxQ 1 _ rfl
 go_wp2_with (first | (refine wpList_load_mid rfl 26 _ rfl (w.heap.size) 0 rfl csM _ bxM.range Tryz.underlying26 rfl (by rw [lenM]; exact sizeLawModel) ?_))
 refine (szQuery_c _ xQ _ _ ((rQuery_ok maxLen).keep rQ (cells_below hB)) (by omega) (by omega)).mono ?_
 rintro e w8 ⟨rfl, hb7⟩
 replace hB := hB.trans (hb7.mono hB.size)
 replace bxM := bxM.below hb7
 replace bxQ := bxQ.below hb7
 replace bxB := bxB.below hb7
 clear hb7 cbxQ_0 cbxQ_1
 by_cases hszQ : ((bulkQuery xQ : Nat) : Int) ≤ L6
 rotate_left
 ·rw [lessBy_no hszQ]
  go_wp2
  go_ret
  exact ⟨rfl, hB⟩
 rw [lessBy_yes hszQ]
 have sQ := smallQuery rQ (by omega)
 obtain ⟨L9, hL9⟩ : ∃ L : Int, L = L6 - ((bulkQuery xQ : Nat) : Int) := ⟨_, rfl⟩
 rw [← hL9]
 have pL9 : 0 ≤ L9 := by omega
 have uL9 : L9 ≤ 1048576 := by omega
 clear hL9
 have cbxB_0 := bxB 0 _ rfl
 have cbxB_1 := bxB 1 _ rfl
 have cbxB_2 := bxB 2 _ rfl
 have cbxB_3 := bxB 3 _ rfl
 have cbxB_4 := bxB 4 _ rfl
 have cbxB_5 := bxB 5 _ rfl
 have cbxB_6 := bxB 6 _ rfl
 have cbxB_7 := bxB 7 _ rfl
 go_wp2_with (first | (refine wpList_load_mid rfl 26 _ rfl (w.heap.size) 0 rfl csM _ bxM.range Tryz.underlying26 rfl (by rw [lenM]; exact sizeLawModel) ?_))
 refine (szBouquet_c _ xB _ _ ((rBouquet_ok maxLen).keep rB (cells_below hB)) (by omega) (by omega)).mono ?_
 rintro e w11 ⟨rfl, hb10⟩
 replace hB := hB.trans (hb10.mono hB.size)
 replace bxM := bxM.below hb10
 replace bxQ := bxQ.below hb10
 replace bxB := bxB.below hb10
 clear hb10 cbxB_0 cbxB_1 cbxB_2 cbxB_3 cbxB_4 cbxB_5 cbxB_6 cbxB_7
 by_cases hszB : ((bulkBouquet xB : Nat) : Int) ≤ L9
 rotate_left
 ·rw [lessBy_no hszB]
  go_wp2
  go_ret
  exact ⟨rfl, hB⟩
 rw [lessBy_yes hszB]
 have sB := smallBouquet rB (by omega)
 obtain ⟨L12, hL12⟩ : ∃ L : Int, L = L9 - ((bulkBouquet xB : Nat) : Int) := ⟨_, rfl⟩
 rw [← hL12]
 have pL12 : 0 ≤ L12 := by omega
 have uL12 : L12 ≤ 1048576 := by omega
 clear hL12
 go_wp2_with (first | (refine wpList_load_mid rfl 26 _ rfl (w.heap.size) 0 rfl csM _ bxM.range Tryz.underlying26 rfl (by rw [lenM]; exact sizeLawModel) ?_))
 have SS13 : ∀ w', Below w11.heap.size w11 w' → (Below w11.heap.size w11 w' ∧ w'.rangeAt (w.heap.size) 0 csM ∧ w'.cell? ⟨w.heap.size + 1, 0, none⟩ = some (.int .i64 xQ.fVariableCount) ∧ w'.cell? ⟨w.heap.size + 1, 1, none⟩ = some (.slice AQAtoms nQAtoms cQAtoms) ∧ w'.cell? ⟨w.heap.size + 1 + 1, 0, none⟩ = some (.int .i64 xB.fVersion) ∧ w'.cell? ⟨w.heap.size + 1 + 1, 1, none⟩ = some (.int .i64 xB.fRatio) ∧ w'.cell? ⟨w.heap.size + 1 + 1, 2, none⟩ = some (.int .i64 xB.fSlack) ∧ w'.cell? ⟨w.heap.size + 1 + 1, 3, none⟩ = some (.slice ABBoxLow nBBoxLow cBBoxLow) ∧ w'.cell? ⟨w.heap.size + 1 + 1, 4, none⟩ = some (.slice ABBoxHigh nBBoxHigh cBBoxHigh) ∧ w'.cell? ⟨w.heap.size + 1 + 1, 5, none⟩ = some (.slice ABBudgets nBBudgets cBBudgets) ∧ w'.cell? ⟨w.heap.size + 1 + 1, 6, none⟩ = some (.slice ABPlans nBPlans cBPlans) ∧ w'.cell? ⟨w.heap.size + 1 + 1, 7, none⟩ = some (.slice ABContours nBContours cBContours)) := fun w' hb => ⟨hb, (bxM.below hb).range, bxQ.below hb 0 _ rfl, bxQ.below hb 1 _ rfl, bxB.below hb 0 _ rfl, bxB.below hb 1 _ rfl, bxB.below hb 2 _ rfl, bxB.below hb 3 _ rfl, bxB.below hb 4 _ rfl, bxB.below hb 5 _ rfl, bxB.below hb 6 _ rfl, bxB.below hb 7 _ rfl⟩
 have HSS13 := Lib.hid SS13; clear SS13
 refine hbg HSS13.out (Below.refl _ _).drew (fun hHeld => ?_)
 refine' wpAnyH_take (i := 0) (oi := ⟨some 37,_,_,_,_,_⟩) (v := _) rfl (by kernel_rfl) (by kernel_rfl) (by kernel_rfl) (fun _ _ _ h => h) (yieldsIf_load_mid (by rfl) _ _ rfl _ _ rfl _ _ (fun w h => h.2.1) Tryz.underlying26 rfl (by rw [lenM]; exact sizeLawModel)) hHeld ?_
 simp only [putS]
 refine tka 2 39 hHeld ?_; simp only [putS]
 refine tka 4 41 hHeld ?_; simp only [putS]
 refine tka 6 43 hHeld ?_; simp only [putS]
 refine wpAnyH_ready (rs := [1]) (by kernel_rfl) (by simp) ?_
 refine AllReadyH.cons (o := ⟨some 38, _, _, _, _, _⟩) rfl (fun K hK => ?_) AllReadyH.nil
 clear hHeld
 go_simp
 refine (toModel_c _ xM _ ((rModel_ok NB).keep sM (cells_below (hB.trans (Below.mono ((Below.refl w11.heap.size w11).drew) hB.size))))).mono ?_
 rintro e w15 ⟨csv14, fv14, rfl, ov14, frv14, hb16⟩
 have hC17 : Below w11.heap.size w11 w15 := Below.trans ((Below.refl w11.heap.size w11).drew) (hb16.mono ((Below.refl w11.heap.size w11).drew).size)
 have Rv14 := (rModel_ok NB).toRep ov14
 go_wp2_with fail
 refine hK.out _ _ (HSS13.out _ hC17) (fun hHeld => ?_)
 clear hK K
 try simp only [putS]
 refine wpAnyH_ready (rs := [3]) (by kernel_rfl) (by simp) ?_
 refine AllReadyH.cons (o := ⟨some 40, _, _, _, _, _⟩) rfl (fun K hK => ?_) AllReadyH.nil
 clear hHeld
 go_simp
 refine (toQuery_c _ xQ _ ((rQuery_ok NB).keep sQ (cells_below (hB.trans (Below.mono (hC17) hB.size))))).mono ?_
 rintro e w20 ⟨csv19, fv19, rfl, ov19, frv19, hb21⟩
 have hC22 : Below w11.heap.size w11 w20 := Below.trans (hC17) (hb21.mono (hC17).size)
 have Rv19 := (rQuery_ok NB).toRep ov19
 replace Rv14 := (rModel_ok NB).keep Rv14 (cells_below hb21)
 go_wp2_with fail
 refine hK.out _ _ (HSS13.out _ hC22) (fun hHeld => ?_)
 clear hK K
 try simp only [putS]
 refine wpAnyH_ready (rs := [5]) (by kernel_rfl) (by simp) ?_
 refine AllReadyH.cons (o := ⟨some 42, _, _, _, _, _⟩) rfl (fun K hK => ?_) AllReadyH.nil
 clear hHeld
 go_simp
 refine (toBouquet_c _ xB _ ((rBouquet_ok NB).keep sB (cells_below (hB.trans (Below.mono (hC22) hB.size))))).mono ?_
 rintro e w25 ⟨csv24, fv24, rfl, ov24, frv24, hb26⟩
 have hC27 : Below w11.heap.size w11 w25 := Below.trans (hC22) (hb26.mono (hC22).size)
 have Rv24 := (rBouquet_ok NB).toRep ov24
 replace Rv14 := (rModel_ok NB).keep Rv14 (cells_below hb26)
 replace Rv19 := (rQuery_ok NB).keep Rv19 (cells_below hb26)
 go_wp2_with fail
 refine hK.out _ _ (HSS13.out _ hC27) (fun hHeld => ?_)
 clear hK K
 try simp only [putS]
 refine wpAnyH_ready (rs := [7]) (by kernel_rfl) (by simp) ?_
 refine AllReadyH.cons (o := ⟨some 44, _, _, _, _, _⟩) rfl (fun K hK => ?_) AllReadyH.nil
 clear hHeld
 go_simp
 refine (toIntS_c _ _ _ _ _ (sLocation.below rInt_ok (hB.trans (Below.mono (hC27) hB.size)))).mono ?_
 rintro e w30 ⟨Av29, nv29, cv29, rfl, ⟨fv29, Mv29, frv29⟩, hb31⟩
 have hC32 : Below w11.heap.size w11 w30 := Below.trans (hC27) (hb31.mono (hC27).size)
 have Rv29 := Mv29.rs rInt_ok
 replace Rv14 := (rModel_ok NB).keep Rv14 (cells_below hb31)
 replace Rv19 := (rQuery_ok NB).keep Rv19 (cells_below hb31)
 replace Rv24 := (rBouquet_ok NB).keep Rv24 (cells_below hb31)
 go_wp2_with fail
 refine hK.out _ _ (HSS13.out _ hC32) (fun hHeld => ?_)
 clear hK K
 try simp only [putS]
 refine wpAnyH_ready (rs := [8]) (by kernel_rfl) (by simp) ?_
 refine AllReadyH.cons (o := ⟨some 45, _, _, _, _, _⟩) rfl (fun K hK => ?_) AllReadyH.nil
 clear hHeld
 go_simp
 refine (sSimulateBouquet_c _ xM _ xQ _ xB _ _ _ _ _ Rv14 Rv19 Rv24 Rv29 (sumLen_bulk (by omega))).mono ?_
 rintro e w34 ⟨rfl, hb35⟩
 have hC36 : Below w11.heap.size w11 w34 := Below.trans (hC32) (hb35.mono (hC32).size)
 go_wp2_with fail
 refine hK.out _ _ (HSS13.out _ hC36) (fun hHeld => ?_)
 clear hK K
 try simp only [putS]
 refine tka 9 36 hHeld ?_; simp only [putS]
 refine tka 10 46 hHeld ?_; simp only [putS]
 refine tka 11 47 hHeld ?_; simp only [putS]
 refine tka 12 10 hHeld ?_; simp only [putS]
 refine tka 13 11 hHeld ?_; simp only [putS]
 refine wpAnyH_done (by kernel_rfl) ?_ _
 clear hHeld
 replace hB := hB.trans (hC36.mono hB.size)
 replace bxM := bxM.below hC36
 replace bxQ := bxQ.below hC36
 replace bxB := bxB.below hC36
 clear HSS13 hC36
 go_wp2_with (first | (refine wpList_load_mid rfl 26 _ rfl (w.heap.size) 0 rfl csM _ bxM.range Tryz.underlying26 rfl (by rw [lenM]; exact sizeLawModel) ?_))
 refine (toModel_c _ xM _ ((rModel_ok NB).keep sM (cells_below hB))).mono ?_
 rintro e w38 ⟨csx0, fx0, rfl, ox0, frx0, hb39⟩
 replace hB := hB.trans (hb39.mono hB.size)
 replace bxM := bxM.below hb39
 replace bxQ := bxQ.below hb39
 replace bxB := bxB.below hb39
 clear hb39
 have lenx0 : csx0.length = 30 := (rModel_ok NB).len ((rModel_ok NB).toRep ox0)
 have hA40 : Below w38.heap.size w38 (World.setCells (w38.alloc (.cells #[.int .i64 0, .int .i64 0, .int .i64 0, .int .i64 0, .int .i64 0, .slice none 0 0, .int .i64 0, .int .i64 0, .int .i64 0, .int .i64 0, .int .i64 0, .slice none 0 0, .int .i64 0, .int .i64 0, .int .i64 0, .int .i64 0, .int .i64 0, .slice none 0 0, .int .i64 0, .int .i64 0, .int .i64 0, .int .i64 0, .int .i64 0, .slice none 0 0, .int .i64 0, .int .i64 0, .int .i64 0, .int .i64 0, .int .i64 0, .slice none 0 0] 46)) w38.heap.size 0 csx0) := by rw [setCells_kit]; exact Below.setCells ((Below.refl _ _).alloc (Nat.le_refl _) _) (Nat.le_refl _) _ _
 replace ox0 := (rModel_ok NB).ownB ox0 hA40
 replace hB := hB.trans (hA40.mono hB.size)
 replace bxM := bxM.below hA40
 replace bxQ := bxQ.below hA40
 replace bxB := bxB.below hA40
 have bxx0 : Bx (World.setCells (w38.alloc (.cells #[.int .i64 0, .int .i64 0, .int .i64 0, .int .i64 0, .int .i64 0, .slice none 0 0, .int .i64 0, .int .i64 0, .int .i64 0, .int .i64 0, .int .i64 0, .slice none 0 0, .int .i64 0, .int .i64 0, .int .i64 0, .int .i64 0, .int .i64 0, .slice none 0 0, .int .i64 0, .int .i64 0, .int .i64 0, .int .i64 0, .int .i64 0, .slice none 0 0, .int .i64 0, .int .i64 0, .int .i64 0, .int .i64 0, .int .i64 0, .slice none 0 0] 46)) w38.heap.size 0 csx0) w38.heap.size csx0 := by rw [setCells_kit]; exact ((Bk.new w38 [.int .i64 0, .int .i64 0, .int .i64 0, .int .i64 0, .int .i64 0, .slice none 0 0, .int .i64 0, .int .i64 0, .int .i64 0, .int .i64 0, .int .i64 0, .slice none 0 0, .int .i64 0, .int .i64 0, .int .i64 0, .int .i64 0, .int .i64 0, .slice none 0 0, .int .i64 0, .int .i64 0, .int .i64 0, .int .i64 0, .int .i64 0, .slice none 0 0, .int .i64 0, .int .i64 0, .int .i64 0, .int .i64 0, .int .i64 0, .slice none 0 0] 46).fill lenx0).bx
 have Onex0 := all_oneCell_toArray ((rModel_ok NB).one ((rModel_ok NB).toRep ox0))
 have Thex0 : (w38.alloc (.cells #[.int .i64 0, .int .i64 0, .int .i64 0, .int .i64 0, .int .i64 0, .slice none 0 0, .int .i64 0, .int .i64 0, .int .i64 0, .int .i64 0, .int .i64 0, .slice none 0 0, .int .i64 0, .int .i64 0, .int .i64 0, .int .i64 0, .int .i64 0, .slice none 0 0, .int .i64 0, .int .i64 0, .int .i64 0, .int .i64 0, .int .i64 0, .slice none 0 0, .int .i64 0, .int .i64 0, .int .i64 0, .int .i64 0, .int .i64 0, .slice none 0 0] 46)).there w38.heap.size 0 csx0.toArray.size := by rw [show csx0.toArray.size = 30 from List.size_toArray.trans lenx0]; exact (Bk.new w38 [.int .i64 0, .int .i64 0, .int .i64 0, .int .i64 0, .int .i64 0, .slice none 0 0, .int .i64 0, .int .i64 0, .int .i64 0, .int .i64 0, .int .i64 0, .slice none 0 0, .int .i64 0, .int .i64 0, .int .i64 0, .int .i64 0, .int .i64 0, .slice none 0 0, .int .i64 0, .int .i64 0, .int .i64 0, .int .i64 0, .int .i64 0, .slice none 0 0, .int .i64 0, .int .i64 0, .int .i64 0, .int .i64 0, .int .i64 0, .slice none 0 0] 46).there
 clear hA40
 have cbxQ_0 := bxQ 0 _ rfl
 have cbxQ_1 := bxQ 1 _ rfl
 go_wp2_with (first | (refine wpList_store_mid rfl 46 _ _ rfl (w38.heap.size) 0 (List.toArray csx0) rfl rfl Thex0 (by rw [show csx0.toArray.size = 30 from List.size_toArray.trans lenx0]; exact sizeModel) Onex0 ?_) | (refine wpList_load_mid rfl 26 _ rfl (w.heap.size) 0 rfl csM _ bxM.range Tryz.underlying26 rfl (by rw [lenM]; exact sizeLawModel) ?_) | (refine wpList_load_mid rfl 46 _ rfl (w38.heap.size) 0 rfl csx0 _ bxx0.range Tryz.underlying46 rfl (by rw [lenx0]; exact sizeModel) ?_))
 clear Onex0 Thex0
 refine (toQuery_c _ xQ _ ((rQuery_ok NB).keep sQ (cells_below hB))).mono ?_
 rintro e w41 ⟨csx1, fx1, rfl, ox1, frx1, hb42⟩
 replace ox0 := (rModel_ok NB).ownB ox0 hb42
 replace hB := hB.trans (hb42.mono hB.size)
 replace bxM := bxM.below hb42
 replace bxQ := bxQ.below hb42
 replace bxB := bxB.below hb42
 replace bxx0 := bxx0.below hb42
 clear hb42 cbxQ_0 cbxQ_1
 obtain ⟨Ax1Atoms, nx1Atoms, cx1Atoms, rfl, _, _⟩ := rQuery_rep.1 ((rQuery_ok NB).toRep ox1)
 have hA43 := (Below.refl w41.heap.size w41).alloc (Nat.le_refl _) (.cells #[.int .i64 xQ.fVariableCount, .slice Ax1Atoms nx1Atoms cx1Atoms] 50)
 replace ox0 := (rModel_ok NB).ownB ox0 hA43
 replace ox1 := (rQuery_ok NB).ownB ox1 hA43
 replace hB := hB.trans (hA43.mono hB.size)
 replace bxM := bxM.below hA43
 replace bxQ := bxQ.below hA43
 replace bxB := bxB.below hA43
 replace bxx0 := bxx0.below hA43
 have bxx1 := Bx.new w41 [.int .i64 xQ.fVariableCount, .slice Ax1Atoms nx1Atoms cx1Atoms] 50
 clear hA43
 have cbxB_0 := bxB 0 _ rfl
 have cbxB_1 := bxB 1 _ rfl
 have cbxB_2 := bxB 2 _ rfl
 have cbxB_3 := bxB 3 _ rfl
 have cbxB_4 := bxB 4 _ rfl
 have cbxB_5 := bxB 5 _ rfl
 have cbxB_6 := bxB 6 _ rfl
 have cbxB_7 := bxB 7 _ rfl
 go_wp2_with (first | (refine wpList_load_mid rfl 26 _ rfl (w.heap.size) 0 rfl csM _ bxM.range Tryz.underlying26 rfl (by rw [lenM]; exact sizeLawModel) ?_) | (refine wpList_load_mid rfl 46 _ rfl (w38.heap.size) 0 rfl csx0 _ bxx0.range Tryz.underlying46 rfl (by rw [lenx0]; exact sizeModel) ?_))
 refine (toBouquet_c _ xB _ ((rBouquet_ok NB).keep sB (cells_below hB))).mono ?_
 rintro e w44 ⟨csx2, fx2, rfl, ox2, frx2, hb45⟩
 replace ox0 := (rModel_ok NB).ownB ox0 hb45
 replace ox1 := (rQuery_ok NB).ownB ox1 hb45
 replace hB := hB.trans (hb45.mono hB.size)
 replace bxM := bxM.below hb45
 replace bxQ := bxQ.below hb45
 replace bxB := bxB.below hb45
 replace bxx0 := bxx0.below hb45
 replace bxx1 := bxx1.below hb45
 clear hb45 cbxB_0 cbxB_1 cbxB_2 cbxB_3 cbxB_4 cbxB_5 cbxB_6 cbxB_7
 obtain ⟨Ax2BoxLow, nx2BoxLow, cx2BoxLow, Ax2BoxHigh, nx2BoxHigh, cx2BoxHigh, Ax2Budgets, nx2Budgets, cx2Budgets, Ax2Plans, nx2Plans, cx2Plans, Ax2Contours, nx2Contours, cx2Contours, rfl, _, _, _, _, _, _, _, _⟩ := rBouquet_rep.1 ((rBouquet_ok NB).toRep ox2)
 have hA46 := (Below.refl w44.heap.size w44).alloc (Nat.le_refl _) (.cells #[.int .i64 xB.fVersion, .int .i64 xB.fRatio, .int .i64 xB.fSlack, .slice Ax2BoxLow nx2BoxLow cx2BoxLow, .slice Ax2BoxHigh nx2BoxHigh cx2BoxHigh, .slice Ax2Budgets nx2Budgets cx2Budgets, .slice Ax2Plans nx2Plans cx2Plans, .slice Ax2Contours nx2Contours cx2Contours] 55)
 replace ox0 := (rModel_ok NB).ownB ox0 hA46
 replace ox1 := (rQuery_ok NB).ownB ox1 hA46
 replace ox2 := (rBouquet_ok NB).ownB ox2 hA46
 replace hB := hB.trans (hA46.mono hB.size)
 replace bxM := bxM.below hA46
 replace bxQ := bxQ.below hA46
 replace bxB := bxB.below hA46
 replace bxx0 := bxx0.below hA46
 replace bxx1 := bxx1.below hA46
 have bxx2 := Bx.new w44 [.int .i64 xB.fVersion, .int .i64 xB.fRatio, .int .i64 xB.fSlack, .slice Ax2BoxLow nx2BoxLow cx2BoxLow, .slice Ax2BoxHigh nx2BoxHigh cx2BoxHigh, .slice Ax2Budgets nx2Budgets cx2Budgets, .slice Ax2Plans nx2Plans cx2Plans, .slice Ax2Contours nx2Contours cx2Contours] 55
 clear hA46
 go_wp2_with (first | (refine wpList_load_mid rfl 26 _ rfl (w.heap.size) 0 rfl csM _ bxM.range Tryz.underlying26 rfl (by rw [lenM]; exact sizeLawModel) ?_) | (refine wpList_load_mid rfl 46 _ rfl (w38.heap.size) 0 rfl csx0 _ bxx0.range Tryz.underlying46 rfl (by rw [lenx0]; exact sizeModel) ?_))
 refine (toIntS_c _ _ _ _ _ (sLocation.below rInt_ok hB)).mono ?_
 rintro e w47 ⟨Ax3, nx3, cx3, rfl, ⟨fx3, ox3, frx3⟩, hb48⟩
 replace ox0 := (rModel_ok NB).ownB ox0 hb48
 replace ox1 := (rQuery_ok NB).ownB ox1 hb48
 replace ox2 := (rBouquet_ok NB).ownB ox2 hb48
 replace hB := hB.trans (hb48.mono hB.size)
 replace bxM := bxM.below hb48
 replace bxQ := bxQ.below hb48
 replace bxB := bxB.below hb48
 replace bxx0 := bxx0.below hb48
 replace bxx1 := bxx1.below hb48
 replace bxx2 := bxx2.below hb48
 clear hb48
 have cbxx1_0 := bxx1 0 _ rfl
 have cbxx1_1 := bxx1 1 _ rfl
 have cbxx2_0 := bxx2 0 _ rfl
 have cbxx2_1 := bxx2 1 _ rfl
 have cbxx2_2 := bxx2 2 _ rfl
 have cbxx2_3 := bxx2 3 _ rfl
 have cbxx2_4 := bxx2 4 _ rfl
 have cbxx2_5 := bxx2 5 _ rfl
 have cbxx2_6 := bxx2 6 _ rfl
 have cbxx2_7 := bxx2 7 _ rfl
 go_wp2_with (first | (refine wpList_load_mid rfl 26 _ rfl (w.heap.size) 0 rfl csM _ bxM.range Tryz.underlying26 rfl (by rw [lenM]; exact sizeLawModel) ?_) | (refine wpList_load_mid rfl 46 _ rfl (w38.heap.size) 0 rfl csx0 _ bxx0.range Tryz.underlying46 rfl (by rw [lenx0]; exact sizeModel) ?_))
 refine (iSimulateBouquet_c _ xM _ xQ _ xB _ _ _ _ _ ((rModel_ok NB).toRep ox0) ((rQuery_ok NB).toRep ox1) ((rBouquet_ok NB).toRep ox2) (ox3.rs rInt_ok) (sumLen_bulk (by omega))).mono ?_
 rintro e w49 ⟨rfl, hb50⟩
 replace ox0 := (rModel_ok NB).ownB ox0 hb50
 replace ox1 := (rQuery_ok NB).ownB ox1 hb50
 replace ox2 := (rBouquet_ok NB).ownB ox2 hb50
 replace ox3 := ox3.belowS rInt_ok hb50
 replace hB := hB.trans (hb50.mono hB.size)
 replace bxM := bxM.below hb50
 replace bxQ := bxQ.below hb50
 replace bxB := bxB.below hb50
 replace bxx0 := bxx0.below hb50
 replace bxx1 := bxx1.below hb50
 replace bxx2 := bxx2.below hb50
 clear hb50 cbxx1_0 cbxx1_1 cbxx2_0 cbxx2_1 cbxx2_2 cbxx2_3 cbxx2_4 cbxx2_5 cbxx2_6 cbxx2_7
 have hnei : ∀ v : Int, (v != v) = false := fun v => by simp
 have hneb : ∀ v : Bool, (v == v) = true := fun v => by simp
 go_wp2_with (first | (refine wpList_load_mid rfl 26 _ rfl (w.heap.size) 0 rfl csM _ bxM.range Tryz.underlying26 rfl (by rw [lenM]; exact sizeLawModel) ?_) | (refine wpList_load_mid rfl 46 _ rfl (w38.heap.size) 0 rfl csx0 _ bxx0.range Tryz.underlying46 rfl (by rw [lenx0]; exact sizeModel) ?_))
 have HSS : ∀ w', Below w49.heap.size w49 w' → (Below w49.heap.size w49 w' ∧ w'.rangeAt (w.heap.size) 0 csM ∧ w'.rangeAt (w38.heap.size) 0 csx0) := fun w' hb => ⟨hb, (bxM.below hb).range, (bxx0.below hb).range⟩
 refine wp_region_held_drew (S := fun w' => Below w49.heap.size w49 w' ∧ w'.rangeAt (w.heap.size) 0 csM ∧ w'.rangeAt (w38.heap.size) 0 csx0) (by kernel_rfl) ?_ (fun hHeld => ?_)
 ·exact HSS _ (Below.refl _ _).drew
 refine' wpAnyH_take (i := 0) (v := _) rfl (by kernel_rfl) (by kernel_rfl) (by kernel_rfl) (fun _ _ _ h => h) (yieldsIf_load_mid (by rfl) _ _ rfl _ _ rfl _ _ (fun w h => h.2.2) Tryz.underlying46 rfl (by rw [lenx0]; exact sizeModel)) hHeld ?_
 simp only [Act.put, List.setIfInBounds_toArray, List.set_cons_zero, List.set_cons_succ]
 refine' wpAnyH_take (i := 1) (v := _) rfl (by kernel_rfl) (by kernel_rfl) (by kernel_rfl) (fun _ _ _ h => h) (yieldsIf_load_mid (by rfl) _ _ rfl _ _ rfl _ _ (fun w h => h.2.1) Tryz.underlying26 rfl (by rw [lenM]; exact sizeLawModel)) hHeld ?_
 simp only [Act.put, List.setIfInBounds_toArray, List.set_cons_zero, List.set_cons_succ]
 refine wpAnyH_ready (rs := [2]) (by kernel_rfl) (by simp) ?_
 refine AllReadyH.cons rfl (fun K hK => ?_) AllReadyH.nil
 have HSS' := Lib.hid HSS; clear HSS
 clear hHeld
 go_simp
 refine (toModel_c _ xM _ ((rModel_ok NB).keep sM (cells_below (hB.trans (Below.mono ((Below.refl w49.heap.size w49).drew) hB.size))))).mono ?_
 rintro e wq1 ⟨csq, fq, rfl, oq, frq, hbq1⟩
 have hCq1 : Below w49.heap.size w49 wq1 := Below.trans ((Below.refl w49.heap.size w49).drew) hbq1
 have Rq := (rModel_ok NB).toRep oq; clear oq frq hbq1
 go_wp2_with fail
 refine hK.out _ _ (HSS'.out _ hCq1) (fun hHeld => ?_)
 clear hK K hHeld
 try simp only [Act.put, List.setIfInBounds_toArray, List.set_cons_zero, List.set_cons_succ]
 refine wpAnyH_ready (rs := [3]) (by kernel_rfl) (by simp) ?_
 refine AllReadyH.cons rfl (fun K hK => ?_) AllReadyH.nil
 go_simp
 refine (eqModel_c _ _ xM xM _ ((rModel_ok NB).keep ((rModel_ok NB).toRep ox0) (cells_below hCq1)) Rq).mono ?_
 rintro e w57 ⟨rfl, hbq2⟩
 have hC59 : Below w49.heap.size w49 w57 := Below.trans hCq1 (hbq2.mono hCq1.size)
 clear hbq2 hCq1 Rq
 go_wp2_with fail
 refine hK.out _ _ (HSS'.out _ hC59) (fun hHeld => ?_)
 clear hK K hHeld
 try simp only [Act.put, List.setIfInBounds_toArray, List.set_cons_zero, List.set_cons_succ]
 refine wpAnyH_ready (rs := [4]) (by kernel_rfl) (by simp) ?_
 refine AllReadyH.cons rfl (fun K hK => ?_) AllReadyH.nil
 go_simp
 refine hK.out _ _ (HSS'.out _ hC59) (fun hHeld => ?_)
 clear hK K hHeld HSS'
 try simp only [Act.put, List.setIfInBounds_toArray, List.set_cons_zero, List.set_cons_succ]
 refine wpAnyH_done (by kernel_rfl) ?_ _
 replace ox0 := (rModel_ok NB).ownB ox0 hC59
 replace ox1 := (rQuery_ok NB).ownB ox1 hC59
 replace ox2 := (rBouquet_ok NB).ownB ox2 hC59
 replace ox3 := ox3.belowS rInt_ok hC59
 replace hB := hB.trans (hC59.mono hB.size)
 replace bxM := bxM.below hC59
 replace bxQ := bxQ.below hC59
 replace bxB := bxB.below hC59
 replace bxx0 := bxx0.below hC59
 replace bxx1 := bxx1.below hC59
 replace bxx2 := bxx2.below hC59
 clear hC59
 have hdx0 : decide (xM = xM) = true := by simp
 go_wp2_with (first | (refine wpList_load_mid rfl 26 _ rfl (w.heap.size) 0 rfl csM _ bxM.range Tryz.underlying26 rfl (by rw [lenM]; exact sizeLawModel) ?_) | (refine wpList_load_mid rfl 46 _ rfl (w38.heap.size) 0 rfl csx0 _ bxx0.range Tryz.underlying46 rfl (by rw [lenx0]; exact sizeModel) ?_))
 have SS61 : ∀ w', Below w57.heap.size w57 w' → (Below w57.heap.size w57 w' ∧ w'.cell? ⟨w.heap.size + 1, 0, none⟩ = some (.int .i64 xQ.fVariableCount) ∧ w'.cell? ⟨w.heap.size + 1, 1, none⟩ = some (.slice AQAtoms nQAtoms cQAtoms) ∧ w'.cell? ⟨w41.heap.size, 0, none⟩ = some (.int .i64 xQ.fVariableCount) ∧ w'.cell? ⟨w41.heap.size, 1, none⟩ = some (.slice Ax1Atoms nx1Atoms cx1Atoms)) := fun w' hb => ⟨hb, bxQ.below hb 0 _ rfl, bxQ.below hb 1 _ rfl, bxx1.below hb 0 _ rfl, bxx1.below hb 1 _ rfl⟩
 have HSS61 := Lib.hid SS61; clear SS61
 have tok66 : True := trivial
 have tok70 : True := trivial
 go_region_held3 (fun w' => Below w57.heap.size w57 w' ∧ w'.cell? ⟨w.heap.size + 1, 0, none⟩ = some (.int .i64 xQ.fVariableCount) ∧ w'.cell? ⟨w.heap.size + 1, 1, none⟩ = some (.slice AQAtoms nQAtoms cQAtoms) ∧ w'.cell? ⟨w41.heap.size, 0, none⟩ = some (.int .i64 xQ.fVariableCount) ∧ w'.cell? ⟨w41.heap.size, 1, none⟩ = some (.slice Ax1Atoms nx1Atoms cx1Atoms)) (first | exact HSS61.out _ (Below.refl _ _).drew | exact HSS61.out _ (by assumption)) (first | (go_at_call 9; have _t := tok66; refine (toQuery_c _ xQ _ ((rQuery_ok NB).keep sQ (cells_below (hB.trans (Below.mono ((Below.refl w57.heap.size w57).drew) hB.size))))).mono ?_; rintro e w63 ⟨csv62, fv62, rfl, ov62, frv62, hb64⟩; have hC65 : Below w57.heap.size w57 w63 := Below.trans ((Below.refl w57.heap.size w57).drew) (hb64.mono ((Below.refl w57.heap.size w57).drew).size); have Rv62 := (rQuery_ok NB).toRep ov62; clear tok66) | (go_at_call 14; have _t := tok70; refine (eqQuery_c _ _ xQ xQ _ ((rQuery_ok NB).keep ((rQuery_ok NB).toRep ox1) (cells_below (hC65))) Rv62).mono ?_; rintro e w67 ⟨rfl, hb68⟩; have hC69 : Below w57.heap.size w57 w67 := Below.trans (hC65) (hb68.mono (hC65).size); clear tok70))
 replace ox0 := (rModel_ok NB).ownB ox0 hC69
 replace ox1 := (rQuery_ok NB).ownB ox1 hC69
 replace ox2 := (rBouquet_ok NB).ownB ox2 hC69
 replace ox3 := ox3.belowS rInt_ok hC69
 replace hB := hB.trans (hC69.mono hB.size)
 replace bxM := bxM.below hC69
 replace bxQ := bxQ.below hC69
 replace bxB := bxB.below hC69
 replace bxx0 := bxx0.below hC69
 replace bxx1 := bxx1.below hC69
 replace bxx2 := bxx2.below hC69
 clear HSS61 hC69
 have hdx1 : decide (xQ = xQ) = true := by simp
 go_wp2_with (first | (refine wpList_load_mid rfl 26 _ rfl (w.heap.size) 0 rfl csM _ bxM.range Tryz.underlying26 rfl (by rw [lenM]; exact sizeLawModel) ?_) | (refine wpList_load_mid rfl 46 _ rfl (w38.heap.size) 0 rfl csx0 _ bxx0.range Tryz.underlying46 rfl (by rw [lenx0]; exact sizeModel) ?_))
 have SS71 : ∀ w', Below w67.heap.size w67 w' → (Below w67.heap.size w67 w' ∧ w'.cell? ⟨w.heap.size + 1 + 1, 0, none⟩ = some (.int .i64 xB.fVersion) ∧ w'.cell? ⟨w.heap.size + 1 + 1, 1, none⟩ = some (.int .i64 xB.fRatio) ∧ w'.cell? ⟨w.heap.size + 1 + 1, 2, none⟩ = some (.int .i64 xB.fSlack) ∧ w'.cell? ⟨w.heap.size + 1 + 1, 3, none⟩ = some (.slice ABBoxLow nBBoxLow cBBoxLow) ∧ w'.cell? ⟨w.heap.size + 1 + 1, 4, none⟩ = some (.slice ABBoxHigh nBBoxHigh cBBoxHigh) ∧ w'.cell? ⟨w.heap.size + 1 + 1, 5, none⟩ = some (.slice ABBudgets nBBudgets cBBudgets) ∧ w'.cell? ⟨w.heap.size + 1 + 1, 6, none⟩ = some (.slice ABPlans nBPlans cBPlans) ∧ w'.cell? ⟨w.heap.size + 1 + 1, 7, none⟩ = some (.slice ABContours nBContours cBContours) ∧ w'.cell? ⟨w44.heap.size, 0, none⟩ = some (.int .i64 xB.fVersion) ∧ w'.cell? ⟨w44.heap.size, 1, none⟩ = some (.int .i64 xB.fRatio) ∧ w'.cell? ⟨w44.heap.size, 2, none⟩ = some (.int .i64 xB.fSlack) ∧ w'.cell? ⟨w44.heap.size, 3, none⟩ = some (.slice Ax2BoxLow nx2BoxLow cx2BoxLow) ∧ w'.cell? ⟨w44.heap.size, 4, none⟩ = some (.slice Ax2BoxHigh nx2BoxHigh cx2BoxHigh) ∧ w'.cell? ⟨w44.heap.size, 5, none⟩ = some (.slice Ax2Budgets nx2Budgets cx2Budgets) ∧ w'.cell? ⟨w44.heap.size, 6, none⟩ = some (.slice Ax2Plans nx2Plans cx2Plans) ∧ w'.cell? ⟨w44.heap.size, 7, none⟩ = some (.slice Ax2Contours nx2Contours cx2Contours)) := fun w' hb => ⟨hb, bxB.below hb 0 _ rfl, bxB.below hb 1 _ rfl, bxB.below hb 2 _ rfl, bxB.below hb 3 _ rfl, bxB.below hb 4 _ rfl, bxB.below hb 5 _ rfl, bxB.below hb 6 _ rfl, bxB.below hb 7 _ rfl, bxx2.below hb 0 _ rfl, bxx2.below hb 1 _ rfl, bxx2.below hb 2 _ rfl, bxx2.below hb 3 _ rfl, bxx2.below hb 4 _ rfl, bxx2.below hb 5 _ rfl, bxx2.below hb 6 _ rfl, bxx2.below hb 7 _ rfl⟩
 have HSS71 := Lib.hid SS71; clear SS71
 have tok76 : True := trivial
 have tok80 : True := trivial
 go_region_held3 (fun w' => Below w67.heap.size w67 w' ∧ w'.cell? ⟨w.heap.size + 1 + 1, 0, none⟩ = some (.int .i64 xB.fVersion) ∧ w'.cell? ⟨w.heap.size + 1 + 1, 1, none⟩ = some (.int .i64 xB.fRatio) ∧ w'.cell? ⟨w.heap.size + 1 + 1, 2, none⟩ = some (.int .i64 xB.fSlack) ∧ w'.cell? ⟨w.heap.size + 1 + 1, 3, none⟩ = some (.slice ABBoxLow nBBoxLow cBBoxLow) ∧ w'.cell? ⟨w.heap.size + 1 + 1, 4, none⟩ = some (.slice ABBoxHigh nBBoxHigh cBBoxHigh) ∧ w'.cell? ⟨w.heap.size + 1 + 1, 5, none⟩ = some (.slice ABBudgets nBBudgets cBBudgets) ∧ w'.cell? ⟨w.heap.size + 1 + 1, 6, none⟩ = some (.slice ABPlans nBPlans cBPlans) ∧ w'.cell? ⟨w.heap.size + 1 + 1, 7, none⟩ = some (.slice ABContours nBContours cBContours) ∧ w'.cell? ⟨w44.heap.size, 0, none⟩ = some (.int .i64 xB.fVersion) ∧ w'.cell? ⟨w44.heap.size, 1, none⟩ = some (.int .i64 xB.fRatio) ∧ w'.cell? ⟨w44.heap.size, 2, none⟩ = some (.int .i64 xB.fSlack) ∧ w'.cell? ⟨w44.heap.size, 3, none⟩ = some (.slice Ax2BoxLow nx2BoxLow cx2BoxLow) ∧ w'.cell? ⟨w44.heap.size, 4, none⟩ = some (.slice Ax2BoxHigh nx2BoxHigh cx2BoxHigh) ∧ w'.cell? ⟨w44.heap.size, 5, none⟩ = some (.slice Ax2Budgets nx2Budgets cx2Budgets) ∧ w'.cell? ⟨w44.heap.size, 6, none⟩ = some (.slice Ax2Plans nx2Plans cx2Plans) ∧ w'.cell? ⟨w44.heap.size, 7, none⟩ = some (.slice Ax2Contours nx2Contours cx2Contours)) (first | exact HSS71.out _ (Below.refl _ _).drew | exact HSS71.out _ (by assumption)) (first | (go_at_call 10; have _t := tok76; refine (toBouquet_c _ xB _ ((rBouquet_ok NB).keep sB (cells_below (hB.trans (Below.mono ((Below.refl w67.heap.size w67).drew) hB.size))))).mono ?_; rintro e w73 ⟨csv72, fv72, rfl, ov72, frv72, hb74⟩; have hC75 : Below w67.heap.size w67 w73 := Below.trans ((Below.refl w67.heap.size w67).drew) (hb74.mono ((Below.refl w67.heap.size w67).drew).size); have Rv72 := (rBouquet_ok NB).toRep ov72; clear tok76) | (go_at_call 15; have _t := tok80; refine (eqBouquet_c _ _ xB xB _ ((rBouquet_ok NB).keep ((rBouquet_ok NB).toRep ox2) (cells_below (hC75))) Rv72).mono ?_; rintro e w77 ⟨rfl, hb78⟩; have hC79 : Below w67.heap.size w67 w77 := Below.trans (hC75) (hb78.mono (hC75).size); clear tok80))
 replace ox0 := (rModel_ok NB).ownB ox0 hC79
 replace ox1 := (rQuery_ok NB).ownB ox1 hC79
 replace ox2 := (rBouquet_ok NB).ownB ox2 hC79
 replace ox3 := ox3.belowS rInt_ok hC79
 replace hB := hB.trans (hC79.mono hB.size)
 replace bxM := bxM.below hC79
 replace bxQ := bxQ.below hC79
 replace bxB := bxB.below hC79
 replace bxx0 := bxx0.below hC79
 replace bxx1 := bxx1.below hC79
 replace bxx2 := bxx2.below hC79
 clear HSS71 hC79
 have hdx2 : decide (xB = xB) = true := by simp
 go_wp2_with (first | (refine wpList_load_mid rfl 26 _ rfl (w.heap.size) 0 rfl csM _ bxM.range Tryz.underlying26 rfl (by rw [lenM]; exact sizeLawModel) ?_) | (refine wpList_load_mid rfl 46 _ rfl (w38.heap.size) 0 rfl csx0 _ bxx0.range Tryz.underlying46 rfl (by rw [lenx0]; exact sizeModel) ?_))
 refine (toIntS_c _ _ _ _ _ (sLocation.below rInt_ok hB)).mono ?_
 rintro e w81 ⟨Av83, nv83, cv83, rfl, ⟨fv83, Mv83, frv83⟩, hb82⟩
 replace ox0 := (rModel_ok NB).ownB ox0 hb82
 replace ox1 := (rQuery_ok NB).ownB ox1 hb82
 replace ox2 := (rBouquet_ok NB).ownB ox2 hb82
 replace ox3 := ox3.belowS rInt_ok hb82
 replace hB := hB.trans (hb82.mono hB.size)
 replace bxM := bxM.below hb82
 replace bxQ := bxQ.below hb82
 replace bxB := bxB.below hb82
 replace bxx0 := bxx0.below hb82
 replace bxx1 := bxx1.below hb82
 replace bxx2 := bxx2.below hb82
 clear hb82
 have Rv83 := Mv83.rs rInt_ok
 go_wp2_with (first | (refine wpList_load_mid rfl 26 _ rfl (w.heap.size) 0 rfl csM _ bxM.range Tryz.underlying26 rfl (by rw [lenM]; exact sizeLawModel) ?_) | (refine wpList_load_mid rfl 46 _ rfl (w38.heap.size) 0 rfl csx0 _ bxx0.range Tryz.underlying46 rfl (by rw [lenx0]; exact sizeModel) ?_))
 refine (eqIntS_b _ _ _ _ _ _ _ _ _ (ox3.rs rInt_ok) Rv83).mono ?_
 rintro e w84 ⟨rfl, hb85⟩
 replace ox0 := (rModel_ok NB).ownB ox0 hb85
 replace ox1 := (rQuery_ok NB).ownB ox1 hb85
 replace ox2 := (rBouquet_ok NB).ownB ox2 hb85
 replace ox3 := ox3.belowS rInt_ok hb85
 replace hB := hB.trans (hb85.mono hB.size)
 replace bxM := bxM.below hb85
 replace bxQ := bxQ.below hb85
 replace bxB := bxB.below hb85
 replace bxx0 := bxx0.below hb85
 replace bxx1 := bxx1.below hb85
 replace bxx2 := bxx2.below hb85
 clear hb85
 have hdx3 : decide (lLocation = lLocation) = true := by simp
 go_wp2
 go_ret
 exact ⟨rfl, hB⟩

set_option maxRecDepth 100000 in
theorem lifted (os : Os) (started : os.Started) (H : Type) (enc : TypeId × Value → H) :
  ReturnsInHanded {} Tryz.checked os 3 .any (Rows.fnExactSimulateBouquetSpec.pre6 enc Tryz.prog Tryz.f3 Rows.fnExactSimulateBouquetRow.domain false) (Rows.fnExactSimulateBouquetSpec.post enc Tryz.prog Tryz.f3 false true false false) := by
 refine returnsInHanded_of_change (C := Tryz.checked) own started (by kernel_rfl) Tryz.func3
  (ChangeSpec.witness6 (enc := enc) (C := Tryz.checked) false ⟨#[], #[.agg #[.int .i64 0, .int .i64 0, .int .i64 0, .int .i64 0, .int .i64 0, .slice none 0 0, .int .i64 0, .int .i64 0, .int .i64 0, .int .i64 0, .int .i64 0, .slice none 0 0, .int .i64 0, .int .i64 0, .int .i64 0, .int .i64 0, .int .i64 0, .slice none 0 0, .int .i64 0, .int .i64 0, .int .i64 0, .int .i64 0, .int .i64 0, .slice none 0 0, .int .i64 0, .int .i64 0, .int .i64 0, .int .i64 0, .int .i64 0, .slice none 0 0], .agg #[.int .i64 0, .slice none 0 0], .agg #[.int .i64 0, .int .i64 0, .int .i64 0, .slice none 0 0, .slice none 0 0, .slice none 0 0, .slice none 0 0, .slice none 0 0], .slice none 0 0], []⟩ 8 (by kernel_rfl) (by kernel_rfl) (by kernel_rfl) (by kernel_rfl)) ?_
 intro W base args ds gs before hval0 hW hcnd _
 have hval : ∀ (j : Nat) t v, Tryz.f3.params[j]? = some t → args[j]? = some v → Value.okWide Tryz.prog W .any base t v := hval0
 have hW' := hW
 obtain ⟨p, q, hA0, hV, rfl, hfz, hnd⟩ := hW
 have hA : DataW.TrodAll enc Tryz.prog W 0 (fun _ => true) true Tryz.f3.params.toList args.toList ds p := hA0
 rw [Tryz.params3] at hA hval
 obtain ⟨v0, vs0, d0, ds0, p0, q0, hargs, rfl, rfl, h0, r0⟩ := trodAll_cons hA
 obtain ⟨v1, vs1, d1, ds1, p1, q1, rfl, rfl, rfl, h1, r1⟩ := trodAll_cons r0
 obtain ⟨v2, vs2, d2, ds2, p2, q2, rfl, rfl, rfl, h2, r2⟩ := trodAll_cons r1
 obtain ⟨v3, vs3, d3, ds3, p3, q3, rfl, rfl, rfl, h3, r3⟩ := trodAll_cons r2
 obtain ⟨rfl, rfl, rfl⟩ := trodAll_nil r3
 obtain rfl : args = #[v0, v1, v2, v3] := by cases args; simp_all
 obtain ⟨rfl, rfl⟩ := trodVars_none hV
 obtain ⟨ca0, rfl, _⟩ := okWide_struct Tryz.underlying26 (hval 0 26 v0 rfl rfl)
 obtain ⟨cl0⟩ := ca0
 have k0 := h0
 have lt0 : ∀ x ∈ p0, x.block < W.heap.size := by obtain ⟨m, hm⟩ := k0; exact DataW.trod_lt m _ _ _ hm
 obtain ⟨x0, g0⟩ : ∃ x, (rModel maxLen).rep W cl0 x := by
  obtain ⟨fuel, hf⟩ := h0
  exact opensModel hf
 obtain ⟨ca1, rfl, _⟩ := okWide_struct Tryz.underlying29 (hval 1 29 v1 rfl rfl)
 obtain ⟨cl1⟩ := ca1
 have k1 := h1
 have lt1 : ∀ x ∈ p1, x.block < W.heap.size := by obtain ⟨m, hm⟩ := k1; exact DataW.trod_lt m _ _ _ hm
 obtain ⟨x1, g1⟩ : ∃ x, (rQuery maxLen).rep W cl1 x := by
  obtain ⟨fuel, hf⟩ := h1
  exact opensQuery hf
 obtain ⟨ca2, rfl, _⟩ := okWide_struct Tryz.underlying36 (hval 2 36 v2 rfl rfl)
 obtain ⟨cl2⟩ := ca2
 have k2 := h2
 have lt2 : ∀ x ∈ p2, x.block < W.heap.size := by obtain ⟨m, hm⟩ := k2; exact DataW.trod_lt m _ _ _ hm
 obtain ⟨x2, g2⟩ : ∃ x, (rBouquet maxLen).rep W cl2 x := by
  obtain ⟨fuel, hf⟩ := h2
  exact opensBouquet hf
 obtain ⟨A3, n3, c3, rfl⟩ := okWide_slice Tryz.underlying30 (hval 3 30 v3 rfl rfl)
 have k3 := h3
 have lt3 : ∀ x ∈ p3, x.block < W.heap.size := by obtain ⟨m, hm⟩ := k3; exact DataW.trod_lt m _ _ _ hm
 obtain ⟨l3, g3⟩ : ∃ l, RS maxLen rInt W A3 n3 c3 l := by
  obtain ⟨fuel, hf⟩ := h3
  obtain ⟨l, A, n, c, e, hr⟩ := (opens_slice rInt_ok Tryz.underlying30 (by kernel_rfl) (opens_int Tryz.underlying3)) hf
  simp [Value.cells] at e
  obtain ⟨rfl, rfl, rfl⟩ := e
  exact ⟨l, hr⟩
 clear hA0 hval0
 refine (walk cl0 x0 cl1 x1 cl2 x2 A3 n3 c3 l3 W g0 g1 g2 g3).mono fun e W' ⟨he, bel⟩ => ?_
 subst he
 exact ⟨_, rfl, _, _, _, [], _, [], hW', trodAll_mk1 (shut_bool Tryz.underlying4 _), (trodAll_cons_mk (Below.trod laidOut (by kernel_rfl) (of_decide_eq_true (by kernel_rfl)) k0 bel lt0) (trodAll_cons_mk (Below.trod laidOut (by kernel_rfl) (of_decide_eq_true (by kernel_rfl)) k1 bel lt1) (trodAll_cons_mk (Below.trod laidOut (by kernel_rfl) (of_decide_eq_true (by kernel_rfl)) k2 bel lt2) (trodAll_cons_mk (Below.trod laidOut (by kernel_rfl) (of_decide_eq_true (by kernel_rfl)) k3 bel lt3) trodAll_mk0)))), rfl, bel.frame _, fun h => by cases h⟩

theorem over : Rows.fnExactSimulateBouquetRow.holds Tryz.pinned (OpenSpec.ofChange Rows.fnExactSimulateBouquetSpec) :=
 OpenClaim.holds_of_wide 3 Tryz.f3 rfl rfl rfl rfl rfl rfl rfl ⟨rfl, rfl, rfl, rfl, rfl⟩ rfl rfl rfl rfl rfl (by kernel_rfl) Tryz.func3 (by kernel_rfl)
  (of_decide_eq_true (by kernel_rfl)) (by unfold Func.isWrapper; first | (rw [if_pos (by decide +kernel)]; kernel_rfl) | (rw [if_neg (by decide +kernel)]; exact ⟨rfl, rfl⟩))
  (fun os started H enc _ => lifted os started H enc)

theorem proved : Rows.FnExactSimulateBouquetSaid := over
#print axioms proved
end Go.Proofs.YtnbikckbnbgjkaaGreat.fnExactSimulateBouquet
