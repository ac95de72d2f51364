/-
  For every input the law FnExactCoversLocation returns true and leaves its arguments as they were; no condition beyond the statement's own.
-/
import Derived.Test.YtpdccgnapgneaaaGreatRows
import Derived.Test.YtpdccgnapgneaaaGreatTa
import Derived.Test.YtpdccgnapgneaaaGreatCvl
import Derived.Test.YtpdccgnapgneaaaGreatToM
import Derived.Test.YtpdccgnapgneaaaGreatOpens
import Derived.Test.YtpdccgnapgneaaaGreatTo
import Derived.Test.YtpdccgnapgneaaaGreatEq
import Derived.WalkKit
import Derived.ProofKit
import Derived.OpenShut
import Derived.ShutString
import Derived.ChangeOld
import Derived.Below
import Derived.Deep.RegionHeld3
namespace Go.Proofs.YtpdccgnapgneaaaGreat.fnExactCoversLocation
open Go.ChangeShapes Go.WideShapes Go.ChangeAt Go.RowKit
open Go.ChangeMaps (open_string shut_string)
set_option linter.unusedVariables false
set_option linter.unusedSimpArgs false

theorem sizeLawModel : (Tryz.prog.info? 26).map (·.size) = some 30 := by kernel_rfl
theorem own : ownKnob Tryz.prog.godebug = none := by kernel_rfl
theorem laidOut : laidOutB Tryz.prog = true := by kernel_rfl

set_option maxRecDepth 100000 in
set_option maxHeartbeats 4000000 in
theorem walk (csM : List Value) (xM : ModelD) (csQ : List Value) (xQ : QueryD) (csS : List Value) (xS : SpaceD) (aPlan : Int) (aLocation : Int) (aBudget : Int) (w : World) (rM : (rModel maxLen).rep w csM xM) (rQ : (rQuery maxLen).rep w csQ xQ) (rS : (rSpace maxLen).rep w csS xS) (iPlan : I64 aPlan) (iLocation : I64 aLocation) (iBudget : I64 aBudget) :
    Calls Tryz.prog 3 #[.agg csM.toArray, .agg csQ.toArray, .agg csS.toArray, .int .i64 aPlan, .int .i64 aLocation, .int .i64 aBudget] w fun e w' => e = .returned (.bool true) ∧ Below w.heap.size w w' := by
  have hB : Below w.heap.size w w := Below.refl _ _
  have lenM : csM.length = 30 := (rModel_ok maxLen).len rM
  have qQ := rQ
  obtain ⟨AQAtoms, nQAtoms, cQAtoms, rfl, hQVariableCount, hQAtoms⟩ := rQuery_rep.1 qQ
  clear qQ
  have qS := rS
  obtain ⟨ASBoxLow, nSBoxLow, cSBoxLow, ASBoxHigh, nSBoxHigh, cSBoxHigh, ASCosts, nSCosts, cSCosts, ASChoices, nSChoices, cSChoices, ASPlans, nSPlans, cSPlans, rfl, hSBoxLow, hSBoxHigh, hSCosts, hSChoices, hSPlans⟩ := rSpace_rep.1 qS
  clear qS
  go_enter Tryz.func3, Tryz.ntmps3
  have hA1 := (Below.refl (World.heap (w)).size (w)).alloc (Nat.le_refl _) (.cells csM.toArray 26)
  replace hB := hB.trans (hA1.mono hB.size)
  have bxM := Bx.new (w) csM 26
  clear hA1
  have hA2 := (Below.refl (World.heap ((w).alloc (.cells csM.toArray 26))).size ((w).alloc (.cells csM.toArray 26))).alloc (Nat.le_refl _) (.cells #[.int .i64 xQ.fVariableCount, .slice AQAtoms nQAtoms cQAtoms] 29)
  replace hB := hB.trans (hA2.mono hB.size)
  replace bxM := bxM.below hA2
  have bxQ := Bx.new ((w).alloc (.cells csM.toArray 26)) [.int .i64 xQ.fVariableCount, .slice AQAtoms nQAtoms cQAtoms] 29
  simp only [World.size_alloc] at bxQ
  clear hA2
  have hA3 := (Below.refl (World.heap (((w).alloc (.cells csM.toArray 26)).alloc (.cells #[.int .i64 xQ.fVariableCount, .slice AQAtoms nQAtoms cQAtoms] 29))).size (((w).alloc (.cells csM.toArray 26)).alloc (.cells #[.int .i64 xQ.fVariableCount, .slice AQAtoms nQAtoms cQAtoms] 29))).alloc (Nat.le_refl _) (.cells #[.slice ASBoxLow nSBoxLow cSBoxLow, .slice ASBoxHigh nSBoxHigh cSBoxHigh, .slice ASCosts nSCosts cSCosts, .slice ASChoices nSChoices cSChoices, .slice ASPlans nSPlans cSPlans] 35)
  replace hB := hB.trans (hA3.mono hB.size)
  replace bxM := bxM.below hA3
  replace bxQ := bxQ.below hA3
  have bxS := Bx.new (((w).alloc (.cells csM.toArray 26)).alloc (.cells #[.int .i64 xQ.fVariableCount, .slice AQAtoms nQAtoms cQAtoms] 29)) [.slice ASBoxLow nSBoxLow cSBoxLow, .slice ASBoxHigh nSBoxHigh cSBoxHigh, .slice ASCosts nSCosts cSCosts, .slice ASChoices nSChoices cSChoices, .slice ASPlans nSPlans cSPlans] 35
  simp only [World.size_alloc] at bxS
  clear hA3
  go_wp2_with (first | (refine wpList_load_mid rfl 26 _ rfl (w.heap.size) 0 rfl csM _ bxM.range Tryz.underlying26 rfl (by rw [lenM]; exact sizeLawModel) ?_))
  refine (szModel_c _ xM _ _ ((rModel_ok maxLen).keep rM (cells_below hB)) (by omega) (by omega)).mono ?_
  rintro e w5 ⟨rfl, hb4⟩
  replace hB := hB.trans (hb4.mono hB.size)
  replace bxM := bxM.below hb4
  replace bxQ := bxQ.below hb4
  replace bxS := bxS.below hb4
  clear hb4
  by_cases hszM : ((bulkModel xM : Nat) : Int) ≤ 1048576
  rotate_left
  · rw [lessBy_no hszM]
    go_wp2
    go_ret
    exact ⟨rfl, hB⟩
  rw [lessBy_yes hszM]
  have sM := smallModel rM (by omega)
  obtain ⟨L6, hL6⟩ : ∃ L : Int, L = 1048576 - ((bulkModel xM : Nat) : Int) := ⟨_, rfl⟩
  rw [← hL6]
  have pL6 : 0 ≤ L6 := by omega
  have uL6 : L6 ≤ 1048576 := by omega
  clear hL6
  have cbxQ_0 := bxQ 0 _ rfl
  have cbxQ_1 := bxQ 1 _ rfl
  go_wp2_with (first | (refine wpList_load_mid rfl 26 _ rfl (w.heap.size) 0 rfl csM _ bxM.range Tryz.underlying26 rfl (by rw [lenM]; exact sizeLawModel) ?_))
  refine (szQuery_c _ xQ _ _ ((rQuery_ok maxLen).keep rQ (cells_below hB)) (by omega) (by omega)).mono ?_
  rintro e w8 ⟨rfl, hb7⟩
  replace hB := hB.trans (hb7.mono hB.size)
  replace bxM := bxM.below hb7
  replace bxQ := bxQ.below hb7
  replace bxS := bxS.below hb7
  clear hb7 cbxQ_0 cbxQ_1
  by_cases hszQ : ((bulkQuery xQ : Nat) : Int) ≤ L6
  rotate_left
  · rw [lessBy_no hszQ]
    go_wp2
    go_ret
    exact ⟨rfl, hB⟩
  rw [lessBy_yes hszQ]
  have sQ := smallQuery rQ (by omega)
  obtain ⟨L9, hL9⟩ : ∃ L : Int, L = L6 - ((bulkQuery xQ : Nat) : Int) := ⟨_, rfl⟩
  rw [← hL9]
  have pL9 : 0 ≤ L9 := by omega
  have uL9 : L9 ≤ 1048576 := by omega
  clear hL9
  have cbxS_0 := bxS 0 _ rfl
  have cbxS_1 := bxS 1 _ rfl
  have cbxS_2 := bxS 2 _ rfl
  have cbxS_3 := bxS 3 _ rfl
  have cbxS_4 := bxS 4 _ rfl
  go_wp2_with (first | (refine wpList_load_mid rfl 26 _ rfl (w.heap.size) 0 rfl csM _ bxM.range Tryz.underlying26 rfl (by rw [lenM]; exact sizeLawModel) ?_))
  refine (szSpace_c _ xS _ _ ((rSpace_ok maxLen).keep rS (cells_below hB)) (by omega) (by omega)).mono ?_
  rintro e w11 ⟨rfl, hb10⟩
  replace hB := hB.trans (hb10.mono hB.size)
  replace bxM := bxM.below hb10
  replace bxQ := bxQ.below hb10
  replace bxS := bxS.below hb10
  clear hb10 cbxS_0 cbxS_1 cbxS_2 cbxS_3 cbxS_4
  by_cases hszS : ((bulkSpace xS : Nat) : Int) ≤ L9
  rotate_left
  · rw [lessBy_no hszS]
    go_wp2
    go_ret
    exact ⟨rfl, hB⟩
  rw [lessBy_yes hszS]
  have sS := smallSpace rS (by omega)
  obtain ⟨L12, hL12⟩ : ∃ L : Int, L = L9 - ((bulkSpace xS : Nat) : Int) := ⟨_, rfl⟩
  rw [← hL12]
  have pL12 : 0 ≤ L12 := by omega
  have uL12 : L12 ≤ 1048576 := by omega
  clear hL12
  go_wp2_with (first | (refine wpList_load_mid rfl 26 _ rfl (w.heap.size) 0 rfl csM _ bxM.range Tryz.underlying26 rfl (by rw [lenM]; exact sizeLawModel) ?_))
  have SS13 : ∀ w', Below w11.heap.size w11 w' → (Below w11.heap.size w11 w' ∧ w'.rangeAt (w.heap.size) 0 csM ∧ w'.cell? ⟨w.heap.size + 1, 0, none⟩ = some (.int .i64 xQ.fVariableCount) ∧ w'.cell? ⟨w.heap.size + 1, 1, none⟩ = some (.slice AQAtoms nQAtoms cQAtoms) ∧ w'.cell? ⟨w.heap.size + 1 + 1, 0, none⟩ = some (.slice ASBoxLow nSBoxLow cSBoxLow) ∧ w'.cell? ⟨w.heap.size + 1 + 1, 1, none⟩ = some (.slice ASBoxHigh nSBoxHigh cSBoxHigh) ∧ w'.cell? ⟨w.heap.size + 1 + 1, 2, none⟩ = some (.slice ASCosts nSCosts cSCosts) ∧ w'.cell? ⟨w.heap.size + 1 + 1, 3, none⟩ = some (.slice ASChoices nSChoices cSChoices) ∧ w'.cell? ⟨w.heap.size + 1 + 1, 4, none⟩ = some (.slice ASPlans nSPlans cSPlans)) := fun w' hb => ⟨hb, (bxM.below hb).range, bxQ.below hb 0 _ rfl, bxQ.below hb 1 _ rfl, bxS.below hb 0 _ rfl, bxS.below hb 1 _ rfl, bxS.below hb 2 _ rfl, bxS.below hb 3 _ rfl, bxS.below hb 4 _ rfl⟩
  have HSS13 := Lib.hid SS13; clear SS13
  refine hbg HSS13.out (Below.refl _ _).drew (fun hHeld => ?_)
  refine' wpAnyH_take (i := 0) (oi := ⟨some 34,_,_,_,_,_⟩) (v := _) rfl (by kernel_rfl) (by kernel_rfl) (by kernel_rfl) (fun _ _ _ h => h) (yieldsIf_load_mid (by rfl) _ _ rfl _ _ rfl _ _ (fun w h => h.2.1) Tryz.underlying26 rfl (by rw [lenM]; exact sizeLawModel)) hHeld ?_
  simp only [putS]
  refine tka 2 (some 36) hHeld ?_; try simp only [putS]
  refine tka 4 (some 38) hHeld ?_; try simp only [putS]
  refine tka 6 (some 40) hHeld ?_; try simp only [putS]
  refine tka 7 (some 41) hHeld ?_; try simp only [putS]
  refine tka 8 (some 42) hHeld ?_; try simp only [putS]
  refine wpAnyH_ready (rs := [1]) (by kernel_rfl) (by simp) ?_
  refine AllReadyH.cons (o := ⟨some 35, _, _, _, _, _⟩) rfl (fun K hK => ?_) AllReadyH.nil
  clear hHeld
  go_simp
  refine (toModel_c _ xM _ ((rModel_ok NB).keep sM (cells_below (hB.trans (Below.mono ((Below.refl w11.heap.size w11).drew) hB.size))))).mono ?_
  rintro e w15 ⟨csv14, fv14, rfl, ov14, frv14, hb16⟩
  have hC17 : Below w11.heap.size w11 w15 := Below.trans ((Below.refl w11.heap.size w11).drew) (hb16.mono ((Below.refl w11.heap.size w11).drew).size)
  have Rv14 := (rModel_ok NB).toRep ov14
  go_wp2_with fail
  refine hK.out _ _ (HSS13.out _ hC17) (fun hHeld => ?_)
  clear hK K
  try simp only [putS]
  refine wpAnyH_ready (rs := [3]) (by kernel_rfl) (by simp) ?_
  refine AllReadyH.cons (o := ⟨some 37, _, _, _, _, _⟩) rfl (fun K hK => ?_) AllReadyH.nil
  clear hHeld
  go_simp
  refine (toQuery_c _ xQ _ ((rQuery_ok NB).keep sQ (cells_below (hB.trans (Below.mono (hC17) hB.size))))).mono ?_
  rintro e w20 ⟨csv19, fv19, rfl, ov19, frv19, hb21⟩
  have hC22 : Below w11.heap.size w11 w20 := Below.trans (hC17) (hb21.mono (hC17).size)
  have Rv19 := (rQuery_ok NB).toRep ov19
  replace Rv14 := (rModel_ok NB).keep Rv14 (cells_below hb21)
  go_wp2_with fail
  refine hK.out _ _ (HSS13.out _ hC22) (fun hHeld => ?_)
  clear hK K
  try simp only [putS]
  refine wpAnyH_ready (rs := [5]) (by kernel_rfl) (by simp) ?_
  refine AllReadyH.cons (o := ⟨some 39, _, _, _, _, _⟩) rfl (fun K hK => ?_) AllReadyH.nil
  clear hHeld
  go_simp
  refine (toSpace_c _ xS _ ((rSpace_ok NB).keep sS (cells_below (hB.trans (Below.mono (hC22) hB.size))))).mono ?_
  rintro e w25 ⟨csv24, fv24, rfl, ov24, frv24, hb26⟩
  have hC27 : Below w11.heap.size w11 w25 := Below.trans (hC22) (hb26.mono (hC22).size)
  have Rv24 := (rSpace_ok NB).toRep ov24
  replace Rv14 := (rModel_ok NB).keep Rv14 (cells_below hb26)
  replace Rv19 := (rQuery_ok NB).keep Rv19 (cells_below hb26)
  go_wp2_with fail
  refine hK.out _ _ (HSS13.out _ hC27) (fun hHeld => ?_)
  clear hK K
  try simp only [putS]
  refine wpAnyH_ready (rs := [9]) (by kernel_rfl) (by simp) ?_
  refine AllReadyH.cons (o := ⟨some 43, _, _, _, _, _⟩) rfl (fun K hK => ?_) AllReadyH.nil
  clear hHeld
  go_simp
  refine (sCoversLocation_c _ xM _ xQ _ xS _ _ _ _ Rv14 Rv19 Rv24 iLocation).mono ?_
  rintro e w29 ⟨rfl, hb30⟩
  have hC31 : Below w11.heap.size w11 w29 := Below.trans (hC27) (hb30.mono (hC27).size)
  go_wp2_with fail
  refine hK.out _ _ (HSS13.out _ hC31) (fun hHeld => ?_)
  clear hK K
  try simp only [putS]
  refine tka 10 (some 14) hHeld ?_; try simp only [putS]
  refine wpAnyH_done (by kernel_rfl) ?_ _
  clear hHeld
  replace hB := hB.trans (hC31.mono hB.size)
  replace bxM := bxM.below hC31
  replace bxQ := bxQ.below hC31
  replace bxS := bxS.below hC31
  clear HSS13 hC31
  go_wp2_with (first | (refine wpList_load_mid rfl 26 _ rfl (w.heap.size) 0 rfl csM _ bxM.range Tryz.underlying26 rfl (by rw [lenM]; exact sizeLawModel) ?_))
  refine (toModel_c _ xM _ ((rModel_ok NB).keep sM (cells_below hB))).mono ?_
  rintro e w33 ⟨csx0, fx0, rfl, ox0, frx0, hb34⟩
  replace hB := hB.trans (hb34.mono hB.size)
  replace bxM := bxM.below hb34
  replace bxQ := bxQ.below hb34
  replace bxS := bxS.below hb34
  clear hb34
  have lenx0 : csx0.length = 30 := (rModel_ok NB).len ((rModel_ok NB).toRep ox0)
  have hA35 : Below w33.heap.size w33 (World.setCells (w33.alloc (.cells #[.int .i64 0, .int .i64 0, .int .i64 0, .int .i64 0, .int .i64 0, .slice none 0 0, .int .i64 0, .int .i64 0, .int .i64 0, .int .i64 0, .int .i64 0, .slice none 0 0, .int .i64 0, .int .i64 0, .int .i64 0, .int .i64 0, .int .i64 0, .slice none 0 0, .int .i64 0, .int .i64 0, .int .i64 0, .int .i64 0, .int .i64 0, .slice none 0 0, .int .i64 0, .int .i64 0, .int .i64 0, .int .i64 0, .int .i64 0, .slice none 0 0] 44)) w33.heap.size 0 csx0) := by rw [setCells_kit]; exact Below.setCells ((Below.refl _ _).alloc (Nat.le_refl _) _) (Nat.le_refl _) _ _
  replace ox0 := (rModel_ok NB).ownB ox0 hA35
  replace hB := hB.trans (hA35.mono hB.size)
  replace bxM := bxM.below hA35
  replace bxQ := bxQ.below hA35
  replace bxS := bxS.below hA35
  have bxx0 : Bx (World.setCells (w33.alloc (.cells #[.int .i64 0, .int .i64 0, .int .i64 0, .int .i64 0, .int .i64 0, .slice none 0 0, .int .i64 0, .int .i64 0, .int .i64 0, .int .i64 0, .int .i64 0, .slice none 0 0, .int .i64 0, .int .i64 0, .int .i64 0, .int .i64 0, .int .i64 0, .slice none 0 0, .int .i64 0, .int .i64 0, .int .i64 0, .int .i64 0, .int .i64 0, .slice none 0 0, .int .i64 0, .int .i64 0, .int .i64 0, .int .i64 0, .int .i64 0, .slice none 0 0] 44)) w33.heap.size 0 csx0) w33.heap.size csx0 := by rw [setCells_kit]; exact ((Bk.new w33 [.int .i64 0, .int .i64 0, .int .i64 0, .int .i64 0, .int .i64 0, .slice none 0 0, .int .i64 0, .int .i64 0, .int .i64 0, .int .i64 0, .int .i64 0, .slice none 0 0, .int .i64 0, .int .i64 0, .int .i64 0, .int .i64 0, .int .i64 0, .slice none 0 0, .int .i64 0, .int .i64 0, .int .i64 0, .int .i64 0, .int .i64 0, .slice none 0 0, .int .i64 0, .int .i64 0, .int .i64 0, .int .i64 0, .int .i64 0, .slice none 0 0] 44).fill lenx0).bx
  have Onex0 := all_oneCell_toArray ((rModel_ok NB).one ((rModel_ok NB).toRep ox0))
  have Thex0 : (w33.alloc (.cells #[.int .i64 0, .int .i64 0, .int .i64 0, .int .i64 0, .int .i64 0, .slice none 0 0, .int .i64 0, .int .i64 0, .int .i64 0, .int .i64 0, .int .i64 0, .slice none 0 0, .int .i64 0, .int .i64 0, .int .i64 0, .int .i64 0, .int .i64 0, .slice none 0 0, .int .i64 0, .int .i64 0, .int .i64 0, .int .i64 0, .int .i64 0, .slice none 0 0, .int .i64 0, .int .i64 0, .int .i64 0, .int .i64 0, .int .i64 0, .slice none 0 0] 44)).there w33.heap.size 0 csx0.toArray.size := by rw [show csx0.toArray.size = 30 from List.size_toArray.trans lenx0]; exact (Bk.new w33 [.int .i64 0, .int .i64 0, .int .i64 0, .int .i64 0, .int .i64 0, .slice none 0 0, .int .i64 0, .int .i64 0, .int .i64 0, .int .i64 0, .int .i64 0, .slice none 0 0, .int .i64 0, .int .i64 0, .int .i64 0, .int .i64 0, .int .i64 0, .slice none 0 0, .int .i64 0, .int .i64 0, .int .i64 0, .int .i64 0, .int .i64 0, .slice none 0 0, .int .i64 0, .int .i64 0, .int .i64 0, .int .i64 0, .int .i64 0, .slice none 0 0] 44).there
  clear hA35
  have cbxQ_0 := bxQ 0 _ rfl
  have cbxQ_1 := bxQ 1 _ rfl
  go_wp2_with (first | (refine wpList_store_mid rfl 44 _ _ rfl (w33.heap.size) 0 (List.toArray csx0) rfl rfl Thex0 (by rw [show csx0.toArray.size = 30 from List.size_toArray.trans lenx0]; exact sizeModel) Onex0 ?_) | (refine wpList_load_mid rfl 26 _ rfl (w.heap.size) 0 rfl csM _ bxM.range Tryz.underlying26 rfl (by rw [lenM]; exact sizeLawModel) ?_) | (refine wpList_load_mid rfl 44 _ rfl (w33.heap.size) 0 rfl csx0 _ bxx0.range Tryz.underlying44 rfl (by rw [lenx0]; exact sizeModel) ?_))
  clear Onex0 Thex0
  refine (toQuery_c _ xQ _ ((rQuery_ok NB).keep sQ (cells_below hB))).mono ?_
  rintro e w36 ⟨csx1, fx1, rfl, ox1, frx1, hb37⟩
  replace ox0 := (rModel_ok NB).ownB ox0 hb37
  replace hB := hB.trans (hb37.mono hB.size)
  replace bxM := bxM.below hb37
  replace bxQ := bxQ.below hb37
  replace bxS := bxS.below hb37
  replace bxx0 := bxx0.below hb37
  clear hb37 cbxQ_0 cbxQ_1
  obtain ⟨Ax1Atoms, nx1Atoms, cx1Atoms, rfl, _, _⟩ := rQuery_rep.1 ((rQuery_ok NB).toRep ox1)
  have hA38 := (Below.refl w36.heap.size w36).alloc (Nat.le_refl _) (.cells #[.int .i64 xQ.fVariableCount, .slice Ax1Atoms nx1Atoms cx1Atoms] 48)
  replace ox0 := (rModel_ok NB).ownB ox0 hA38
  replace ox1 := (rQuery_ok NB).ownB ox1 hA38
  replace hB := hB.trans (hA38.mono hB.size)
  replace bxM := bxM.below hA38
  replace bxQ := bxQ.below hA38
  replace bxS := bxS.below hA38
  replace bxx0 := bxx0.below hA38
  have bxx1 := Bx.new w36 [.int .i64 xQ.fVariableCount, .slice Ax1Atoms nx1Atoms cx1Atoms] 48
  clear hA38
  have cbxS_0 := bxS 0 _ rfl
  have cbxS_1 := bxS 1 _ rfl
  have cbxS_2 := bxS 2 _ rfl
  have cbxS_3 := bxS 3 _ rfl
  have cbxS_4 := bxS 4 _ rfl
  go_wp2_with (first | (refine wpList_load_mid rfl 26 _ rfl (w.heap.size) 0 rfl csM _ bxM.range Tryz.underlying26 rfl (by rw [lenM]; exact sizeLawModel) ?_) | (refine wpList_load_mid rfl 44 _ rfl (w33.heap.size) 0 rfl csx0 _ bxx0.range Tryz.underlying44 rfl (by rw [lenx0]; exact sizeModel) ?_))
  refine (toSpace_c _ xS _ ((rSpace_ok NB).keep sS (cells_below hB))).mono ?_
  rintro e w39 ⟨csx2, fx2, rfl, ox2, frx2, hb40⟩
  replace ox0 := (rModel_ok NB).ownB ox0 hb40
  replace ox1 := (rQuery_ok NB).ownB ox1 hb40
  replace hB := hB.trans (hb40.mono hB.size)
  replace bxM := bxM.below hb40
  replace bxQ := bxQ.below hb40
  replace bxS := bxS.below hb40
  replace bxx0 := bxx0.below hb40
  replace bxx1 := bxx1.below hb40
  clear hb40 cbxS_0 cbxS_1 cbxS_2 cbxS_3 cbxS_4
  obtain ⟨Ax2BoxLow, nx2BoxLow, cx2BoxLow, Ax2BoxHigh, nx2BoxHigh, cx2BoxHigh, Ax2Costs, nx2Costs, cx2Costs, Ax2Choices, nx2Choices, cx2Choices, Ax2Plans, nx2Plans, cx2Plans, rfl, _, _, _, _, _⟩ := rSpace_rep.1 ((rSpace_ok NB).toRep ox2)
  have hA41 := (Below.refl w39.heap.size w39).alloc (Nat.le_refl _) (.cells #[.slice Ax2BoxLow nx2BoxLow cx2BoxLow, .slice Ax2BoxHigh nx2BoxHigh cx2BoxHigh, .slice Ax2Costs nx2Costs cx2Costs, .slice Ax2Choices nx2Choices cx2Choices, .slice Ax2Plans nx2Plans cx2Plans] 53)
  replace ox0 := (rModel_ok NB).ownB ox0 hA41
  replace ox1 := (rQuery_ok NB).ownB ox1 hA41
  replace ox2 := (rSpace_ok NB).ownB ox2 hA41
  replace hB := hB.trans (hA41.mono hB.size)
  replace bxM := bxM.below hA41
  replace bxQ := bxQ.below hA41
  replace bxS := bxS.below hA41
  replace bxx0 := bxx0.below hA41
  replace bxx1 := bxx1.below hA41
  have bxx2 := Bx.new w39 [.slice Ax2BoxLow nx2BoxLow cx2BoxLow, .slice Ax2BoxHigh nx2BoxHigh cx2BoxHigh, .slice Ax2Costs nx2Costs cx2Costs, .slice Ax2Choices nx2Choices cx2Choices, .slice Ax2Plans nx2Plans cx2Plans] 53
  clear hA41
  have cbxx1_0 := bxx1 0 _ rfl
  have cbxx1_1 := bxx1 1 _ rfl
  have cbxx2_0 := bxx2 0 _ rfl
  have cbxx2_1 := bxx2 1 _ rfl
  have cbxx2_2 := bxx2 2 _ rfl
  have cbxx2_3 := bxx2 3 _ rfl
  have cbxx2_4 := bxx2 4 _ rfl
  go_wp2_with (first | (refine wpList_load_mid rfl 26 _ rfl (w.heap.size) 0 rfl csM _ bxM.range Tryz.underlying26 rfl (by rw [lenM]; exact sizeLawModel) ?_) | (refine wpList_load_mid rfl 44 _ rfl (w33.heap.size) 0 rfl csx0 _ bxx0.range Tryz.underlying44 rfl (by rw [lenx0]; exact sizeModel) ?_))
  refine (iCoversLocation_c _ xM _ xQ _ xS _ _ _ _ ((rModel_ok NB).toRep ox0) ((rQuery_ok NB).toRep ox1) ((rSpace_ok NB).toRep ox2) iLocation).mono ?_
  rintro e w42 ⟨rfl, hb43⟩
  replace ox0 := (rModel_ok NB).ownB ox0 hb43
  replace ox1 := (rQuery_ok NB).ownB ox1 hb43
  replace ox2 := (rSpace_ok NB).ownB ox2 hb43
  replace hB := hB.trans (hb43.mono hB.size)
  replace bxM := bxM.below hb43
  replace bxQ := bxQ.below hb43
  replace bxS := bxS.below hb43
  replace bxx0 := bxx0.below hb43
  replace bxx1 := bxx1.below hb43
  replace bxx2 := bxx2.below hb43
  clear hb43 cbxx1_0 cbxx1_1 cbxx2_0 cbxx2_1 cbxx2_2 cbxx2_3 cbxx2_4
  have hnei : ∀ v : Int, (v != v) = false := fun v => by simp
  have hneb : ∀ v : Bool, (v == v) = true := fun v => by simp
  go_wp2_with (first | (refine wpList_load_mid rfl 26 _ rfl (w.heap.size) 0 rfl csM _ bxM.range Tryz.underlying26 rfl (by rw [lenM]; exact sizeLawModel) ?_) | (refine wpList_load_mid rfl 44 _ rfl (w33.heap.size) 0 rfl csx0 _ bxx0.range Tryz.underlying44 rfl (by rw [lenx0]; exact sizeModel) ?_))
  have HSS : ∀ w', Below w42.heap.size w42 w' → (Below w42.heap.size w42 w' ∧ w'.rangeAt (w.heap.size) 0 csM ∧ w'.rangeAt (w33.heap.size) 0 csx0) := fun w' hb => ⟨hb, (bxM.below hb).range, (bxx0.below hb).range⟩
  refine wp_region_held_drew (S := fun w' => Below w42.heap.size w42 w' ∧ w'.rangeAt (w.heap.size) 0 csM ∧ w'.rangeAt (w33.heap.size) 0 csx0) (by kernel_rfl) ?_ (fun hHeld => ?_)
  · exact HSS _ (Below.refl _ _).drew
  refine' wpAnyH_take (i := 0) (v := _) rfl (by kernel_rfl) (by kernel_rfl) (by kernel_rfl) (fun _ _ _ h => h) (yieldsIf_load_mid (by rfl) _ _ rfl _ _ rfl _ _ (fun w h => h.2.2) Tryz.underlying44 rfl (by rw [lenx0]; exact sizeModel)) hHeld ?_
  simp only [Act.put, List.setIfInBounds_toArray, List.set_cons_zero, List.set_cons_succ]
  refine' wpAnyH_take (i := 1) (v := _) rfl (by kernel_rfl) (by kernel_rfl) (by kernel_rfl) (fun _ _ _ h => h) (yieldsIf_load_mid (by rfl) _ _ rfl _ _ rfl _ _ (fun w h => h.2.1) Tryz.underlying26 rfl (by rw [lenM]; exact sizeLawModel)) hHeld ?_
  simp only [Act.put, List.setIfInBounds_toArray, List.set_cons_zero, List.set_cons_succ]
  refine wpAnyH_ready (rs := [2]) (by kernel_rfl) (by simp) ?_
  refine AllReadyH.cons rfl (fun K hK => ?_) AllReadyH.nil
  have HSS' := Lib.hid HSS; clear HSS
  clear hHeld
  go_simp
  refine (toModel_c _ xM _ ((rModel_ok NB).keep sM (cells_below (hB.trans (Below.mono ((Below.refl w42.heap.size w42).drew) hB.size))))).mono ?_
  rintro e wq1 ⟨csq, fq, rfl, oq, frq, hbq1⟩
  have hCq1 : Below w42.heap.size w42 wq1 := Below.trans ((Below.refl w42.heap.size w42).drew) hbq1
  have Rq := (rModel_ok NB).toRep oq; clear oq frq hbq1
  go_wp2_with fail
  refine hK.out _ _ (HSS'.out _ hCq1) (fun hHeld => ?_)
  clear hK K hHeld
  try simp only [Act.put, List.setIfInBounds_toArray, List.set_cons_zero, List.set_cons_succ]
  refine wpAnyH_ready (rs := [3]) (by kernel_rfl) (by simp) ?_
  refine AllReadyH.cons rfl (fun K hK => ?_) AllReadyH.nil
  go_simp
  refine (eqModel_c _ _ xM xM _ ((rModel_ok NB).keep ((rModel_ok NB).toRep ox0) (cells_below hCq1)) Rq).mono ?_
  rintro e w50 ⟨rfl, hbq2⟩
  have hC52 : Below w42.heap.size w42 w50 := Below.trans hCq1 (hbq2.mono hCq1.size)
  clear hbq2 hCq1 Rq
  go_wp2_with fail
  refine hK.out _ _ (HSS'.out _ hC52) (fun hHeld => ?_)
  clear hK K hHeld
  try simp only [Act.put, List.setIfInBounds_toArray, List.set_cons_zero, List.set_cons_succ]
  refine wpAnyH_ready (rs := [4]) (by kernel_rfl) (by simp) ?_
  refine AllReadyH.cons rfl (fun K hK => ?_) AllReadyH.nil
  go_simp
  refine hK.out _ _ (HSS'.out _ hC52) (fun hHeld => ?_)
  clear hK K hHeld HSS'
  try simp only [Act.put, List.setIfInBounds_toArray, List.set_cons_zero, List.set_cons_succ]
  refine wpAnyH_done (by kernel_rfl) ?_ _
  replace ox0 := (rModel_ok NB).ownB ox0 hC52
  replace ox1 := (rQuery_ok NB).ownB ox1 hC52
  replace ox2 := (rSpace_ok NB).ownB ox2 hC52
  replace hB := hB.trans (hC52.mono hB.size)
  replace bxM := bxM.below hC52
  replace bxQ := bxQ.below hC52
  replace bxS := bxS.below hC52
  replace bxx0 := bxx0.below hC52
  replace bxx1 := bxx1.below hC52
  replace bxx2 := bxx2.below hC52
  clear hC52
  have hdx0 : decide (xM = xM) = true := by simp
  go_wp2_with (first | (refine wpList_load_mid rfl 26 _ rfl (w.heap.size) 0 rfl csM _ bxM.range Tryz.underlying26 rfl (by rw [lenM]; exact sizeLawModel) ?_) | (refine wpList_load_mid rfl 44 _ rfl (w33.heap.size) 0 rfl csx0 _ bxx0.range Tryz.underlying44 rfl (by rw [lenx0]; exact sizeModel) ?_))
  have SS54 : ∀ w', Below w50.heap.size w50 w' → (Below w50.heap.size w50 w' ∧ w'.cell? ⟨w.heap.size + 1, 0, none⟩ = some (.int .i64 xQ.fVariableCount) ∧ w'.cell? ⟨w.heap.size + 1, 1, none⟩ = some (.slice AQAtoms nQAtoms cQAtoms) ∧ w'.cell? ⟨w36.heap.size, 0, none⟩ = some (.int .i64 xQ.fVariableCount) ∧ w'.cell? ⟨w36.heap.size, 1, none⟩ = some (.slice Ax1Atoms nx1Atoms cx1Atoms)) := fun w' hb => ⟨hb, bxQ.below hb 0 _ rfl, bxQ.below hb 1 _ rfl, bxx1.below hb 0 _ rfl, bxx1.below hb 1 _ rfl⟩
  have HSS54 := Lib.hid SS54; clear SS54
  have tok59 : True := trivial
  have tok63 : True := trivial
  go_region_held3 (fun w' => Below w50.heap.size w50 w' ∧ w'.cell? ⟨w.heap.size + 1, 0, none⟩ = some (.int .i64 xQ.fVariableCount) ∧ w'.cell? ⟨w.heap.size + 1, 1, none⟩ = some (.slice AQAtoms nQAtoms cQAtoms) ∧ w'.cell? ⟨w36.heap.size, 0, none⟩ = some (.int .i64 xQ.fVariableCount) ∧ w'.cell? ⟨w36.heap.size, 1, none⟩ = some (.slice Ax1Atoms nx1Atoms cx1Atoms)) (first | exact HSS54.out _ (Below.refl _ _).drew | exact HSS54.out _ (by assumption)) (first | (go_at_call 12; have _t := tok59; refine (toQuery_c _ xQ _ ((rQuery_ok NB).keep sQ (cells_below (hB.trans (Below.mono ((Below.refl w50.heap.size w50).drew) hB.size))))).mono ?_; rintro e w56 ⟨csv55, fv55, rfl, ov55, frv55, hb57⟩; have hC58 : Below w50.heap.size w50 w56 := Below.trans ((Below.refl w50.heap.size w50).drew) (hb57.mono ((Below.refl w50.heap.size w50).drew).size); have Rv55 := (rQuery_ok NB).toRep ov55; clear tok59) | (go_at_call 16; have _t := tok63; refine (eqQuery_c _ _ xQ xQ _ ((rQuery_ok NB).keep ((rQuery_ok NB).toRep ox1) (cells_below (hC58))) Rv55).mono ?_; rintro e w60 ⟨rfl, hb61⟩; have hC62 : Below w50.heap.size w50 w60 := Below.trans (hC58) (hb61.mono (hC58).size); clear tok63))
  replace ox0 := (rModel_ok NB).ownB ox0 hC62
  replace ox1 := (rQuery_ok NB).ownB ox1 hC62
  replace ox2 := (rSpace_ok NB).ownB ox2 hC62
  replace hB := hB.trans (hC62.mono hB.size)
  replace bxM := bxM.below hC62
  replace bxQ := bxQ.below hC62
  replace bxS := bxS.below hC62
  replace bxx0 := bxx0.below hC62
  replace bxx1 := bxx1.below hC62
  replace bxx2 := bxx2.below hC62
  clear HSS54 hC62
  have hdx1 : decide (xQ = xQ) = true := by simp
  go_wp2_with (first | (refine wpList_load_mid rfl 26 _ rfl (w.heap.size) 0 rfl csM _ bxM.range Tryz.underlying26 rfl (by rw [lenM]; exact sizeLawModel) ?_) | (refine wpList_load_mid rfl 44 _ rfl (w33.heap.size) 0 rfl csx0 _ bxx0.range Tryz.underlying44 rfl (by rw [lenx0]; exact sizeModel) ?_))
  have SS64 : ∀ w', Below w60.heap.size w60 w' → (Below w60.heap.size w60 w' ∧ w'.cell? ⟨w.heap.size + 1 + 1, 0, none⟩ = some (.slice ASBoxLow nSBoxLow cSBoxLow) ∧ w'.cell? ⟨w.heap.size + 1 + 1, 1, none⟩ = some (.slice ASBoxHigh nSBoxHigh cSBoxHigh) ∧ w'.cell? ⟨w.heap.size + 1 + 1, 2, none⟩ = some (.slice ASCosts nSCosts cSCosts) ∧ w'.cell? ⟨w.heap.size + 1 + 1, 3, none⟩ = some (.slice ASChoices nSChoices cSChoices) ∧ w'.cell? ⟨w.heap.size + 1 + 1, 4, none⟩ = some (.slice ASPlans nSPlans cSPlans) ∧ w'.cell? ⟨w39.heap.size, 0, none⟩ = some (.slice Ax2BoxLow nx2BoxLow cx2BoxLow) ∧ w'.cell? ⟨w39.heap.size, 1, none⟩ = some (.slice Ax2BoxHigh nx2BoxHigh cx2BoxHigh) ∧ w'.cell? ⟨w39.heap.size, 2, none⟩ = some (.slice Ax2Costs nx2Costs cx2Costs) ∧ w'.cell? ⟨w39.heap.size, 3, none⟩ = some (.slice Ax2Choices nx2Choices cx2Choices) ∧ w'.cell? ⟨w39.heap.size, 4, none⟩ = some (.slice Ax2Plans nx2Plans cx2Plans)) := fun w' hb => ⟨hb, bxS.below hb 0 _ rfl, bxS.below hb 1 _ rfl, bxS.below hb 2 _ rfl, bxS.below hb 3 _ rfl, bxS.below hb 4 _ rfl, bxx2.below hb 0 _ rfl, bxx2.below hb 1 _ rfl, bxx2.below hb 2 _ rfl, bxx2.below hb 3 _ rfl, bxx2.below hb 4 _ rfl⟩
  have HSS64 := Lib.hid SS64; clear SS64
  have tok69 : True := trivial
  have tok73 : True := trivial
  go_region_held3 (fun w' => Below w60.heap.size w60 w' ∧ w'.cell? ⟨w.heap.size + 1 + 1, 0, none⟩ = some (.slice ASBoxLow nSBoxLow cSBoxLow) ∧ w'.cell? ⟨w.heap.size + 1 + 1, 1, none⟩ = some (.slice ASBoxHigh nSBoxHigh cSBoxHigh) ∧ w'.cell? ⟨w.heap.size + 1 + 1, 2, none⟩ = some (.slice ASCosts nSCosts cSCosts) ∧ w'.cell? ⟨w.heap.size + 1 + 1, 3, none⟩ = some (.slice ASChoices nSChoices cSChoices) ∧ w'.cell? ⟨w.heap.size + 1 + 1, 4, none⟩ = some (.slice ASPlans nSPlans cSPlans) ∧ w'.cell? ⟨w39.heap.size, 0, none⟩ = some (.slice Ax2BoxLow nx2BoxLow cx2BoxLow) ∧ w'.cell? ⟨w39.heap.size, 1, none⟩ = some (.slice Ax2BoxHigh nx2BoxHigh cx2BoxHigh) ∧ w'.cell? ⟨w39.heap.size, 2, none⟩ = some (.slice Ax2Costs nx2Costs cx2Costs) ∧ w'.cell? ⟨w39.heap.size, 3, none⟩ = some (.slice Ax2Choices nx2Choices cx2Choices) ∧ w'.cell? ⟨w39.heap.size, 4, none⟩ = some (.slice Ax2Plans nx2Plans cx2Plans)) (first | exact HSS64.out _ (Below.refl _ _).drew | exact HSS64.out _ (by assumption)) (first | (go_at_call 13; have _t := tok69; refine (toSpace_c _ xS _ ((rSpace_ok NB).keep sS (cells_below (hB.trans (Below.mono ((Below.refl w60.heap.size w60).drew) hB.size))))).mono ?_; rintro e w66 ⟨csv65, fv65, rfl, ov65, frv65, hb67⟩; have hC68 : Below w60.heap.size w60 w66 := Below.trans ((Below.refl w60.heap.size w60).drew) (hb67.mono ((Below.refl w60.heap.size w60).drew).size); have Rv65 := (rSpace_ok NB).toRep ov65; clear tok69) | (go_at_call 17; have _t := tok73; refine (eqSpace_c _ _ xS xS _ ((rSpace_ok NB).keep ((rSpace_ok NB).toRep ox2) (cells_below (hC68))) Rv65).mono ?_; rintro e w70 ⟨rfl, hb71⟩; have hC72 : Below w60.heap.size w60 w70 := Below.trans (hC68) (hb71.mono (hC68).size); clear tok73))
  replace ox0 := (rModel_ok NB).ownB ox0 hC72
  replace ox1 := (rQuery_ok NB).ownB ox1 hC72
  replace ox2 := (rSpace_ok NB).ownB ox2 hC72
  replace hB := hB.trans (hC72.mono hB.size)
  replace bxM := bxM.below hC72
  replace bxQ := bxQ.below hC72
  replace bxS := bxS.below hC72
  replace bxx0 := bxx0.below hC72
  replace bxx1 := bxx1.below hC72
  replace bxx2 := bxx2.below hC72
  clear HSS64 hC72
  have hdx2 : decide (xS = xS) = true := by simp
  go_wp2
  go_ret
  exact ⟨rfl, hB⟩

set_option maxRecDepth 100000 in
theorem lifted (os : Os) (started : os.Started) (H : Type) (enc : TypeId × Value → H) :
    ReturnsInHanded {} Tryz.checked os 3 .any (Rows.fnExactCoversLocationSpec.pre6 enc Tryz.prog Tryz.f3 Rows.fnExactCoversLocationRow.domain false) (Rows.fnExactCoversLocationSpec.post enc Tryz.prog Tryz.f3 false true false false) := by
  refine returnsInHanded_of_change (C := Tryz.checked) own started (by kernel_rfl) Tryz.func3
    (ChangeSpec.witness6 (enc := enc) (C := Tryz.checked) false ⟨#[], #[.agg #[.int .i64 0, .int .i64 0, .int .i64 0, .int .i64 0, .int .i64 0, .slice none 0 0, .int .i64 0, .int .i64 0, .int .i64 0, .int .i64 0, .int .i64 0, .slice none 0 0, .int .i64 0, .int .i64 0, .int .i64 0, .int .i64 0, .int .i64 0, .slice none 0 0, .int .i64 0, .int .i64 0, .int .i64 0, .int .i64 0, .int .i64 0, .slice none 0 0, .int .i64 0, .int .i64 0, .int .i64 0, .int .i64 0, .int .i64 0, .slice none 0 0], .agg #[.int .i64 0, .slice none 0 0], .agg #[.slice none 0 0, .slice none 0 0, .slice none 0 0, .slice none 0 0, .slice none 0 0], .int .i64 0, .int .i64 0, .int .i64 0], []⟩ 8 (by kernel_rfl) (by kernel_rfl) (by kernel_rfl) (by kernel_rfl)) ?_
  intro W base args ds gs before hval0 hW hcnd _
  have hval : ∀ (j : Nat) t v, Tryz.f3.params[j]? = some t → args[j]? = some v → Value.okWide Tryz.prog W .any base t v := hval0
  have hW' := hW
  obtain ⟨p, q, hA0, hV, rfl, hfz, hnd⟩ := hW
  have hA : DataW.TrodAll enc Tryz.prog W 0 (fun _ => true) true Tryz.f3.params.toList args.toList ds p := hA0
  rw [Tryz.params3] at hA hval
  obtain ⟨v0, vs0, d0, ds0, p0, q0, hargs, rfl, rfl, h0, r0⟩ := trodAll_cons hA
  obtain ⟨v1, vs1, d1, ds1, p1, q1, rfl, rfl, rfl, h1, r1⟩ := trodAll_cons r0
  obtain ⟨v2, vs2, d2, ds2, p2, q2, rfl, rfl, rfl, h2, r2⟩ := trodAll_cons r1
  obtain ⟨v3, vs3, d3, ds3, p3, q3, rfl, rfl, rfl, h3, r3⟩ := trodAll_cons r2
  obtain ⟨v4, vs4, d4, ds4, p4, q4, rfl, rfl, rfl, h4, r4⟩ := trodAll_cons r3
  obtain ⟨v5, vs5, d5, ds5, p5, q5, rfl, rfl, rfl, h5, r5⟩ := trodAll_cons r4
  obtain ⟨rfl, rfl, rfl⟩ := trodAll_nil r5
  obtain rfl : args = #[v0, v1, v2, v3, v4, v5] := by cases args; simp_all
  obtain ⟨rfl, rfl⟩ := trodVars_none hV
  obtain ⟨ca0, rfl, _⟩ := okWide_struct Tryz.underlying26 (hval 0 26 v0 rfl rfl)
  obtain ⟨cl0⟩ := ca0
  have k0 := h0
  have lt0 : ∀ x ∈ p0, x.block < W.heap.size := by obtain ⟨m, hm⟩ := k0; exact DataW.trod_lt m _ _ _ hm
  obtain ⟨x0, g0⟩ : ∃ x, (rModel maxLen).rep W cl0 x := by
    obtain ⟨fuel, hf⟩ := h0
    exact opensModel hf
  obtain ⟨ca1, rfl, _⟩ := okWide_struct Tryz.underlying29 (hval 1 29 v1 rfl rfl)
  obtain ⟨cl1⟩ := ca1
  have k1 := h1
  have lt1 : ∀ x ∈ p1, x.block < W.heap.size := by obtain ⟨m, hm⟩ := k1; exact DataW.trod_lt m _ _ _ hm
  obtain ⟨x1, g1⟩ : ∃ x, (rQuery maxLen).rep W cl1 x := by
    obtain ⟨fuel, hf⟩ := h1
    exact opensQuery hf
  obtain ⟨ca2, rfl, _⟩ := okWide_struct Tryz.underlying35 (hval 2 35 v2 rfl rfl)
  obtain ⟨cl2⟩ := ca2
  have k2 := h2
  have lt2 : ∀ x ∈ p2, x.block < W.heap.size := by obtain ⟨m, hm⟩ := k2; exact DataW.trod_lt m _ _ _ hm
  obtain ⟨x2, g2⟩ : ∃ x, (rSpace maxLen).rep W cl2 x := by
    obtain ⟨fuel, hf⟩ := h2
    exact opensSpace hf
  obtain ⟨a3, rfl, rfl, rfl, w3⟩ := open_int Tryz.underlying3 (hval 3 3 v3 rfl rfl) h3
  obtain ⟨a4, rfl, rfl, rfl, w4⟩ := open_int Tryz.underlying3 (hval 4 3 v4 rfl rfl) h4
  obtain ⟨a5, rfl, rfl, rfl, w5⟩ := open_int Tryz.underlying3 (hval 5 3 v5 rfl rfl) h5
  clear hA0 hval0
  refine (walk cl0 x0 cl1 x1 cl2 x2 a3 a4 a5 W g0 g1 g2 (bounds_i64 w3) (bounds_i64 w4) (bounds_i64 w5)).mono fun e W' ⟨he, bel⟩ => ?_
  subst he
  exact ⟨_, rfl, _, _, _, [], _, [], hW', trodAll_mk1 (shut_bool Tryz.underlying4 _), (trodAll_cons_mk (Below.trod laidOut (by kernel_rfl) (of_decide_eq_true (by kernel_rfl)) k0 bel lt0) (trodAll_cons_mk (Below.trod laidOut (by kernel_rfl) (of_decide_eq_true (by kernel_rfl)) k1 bel lt1) (trodAll_cons_mk (Below.trod laidOut (by kernel_rfl) (of_decide_eq_true (by kernel_rfl)) k2 bel lt2) (trodAll_cons_mk (shut_int Tryz.underlying3 w3) (trodAll_cons_mk (shut_int Tryz.underlying3 w4) (trodAll_cons_mk (shut_int Tryz.underlying3 w5) trodAll_mk0)))))), rfl, bel.frame _, fun h => by cases h⟩

theorem over : Rows.fnExactCoversLocationRow.holds Tryz.pinned (OpenSpec.ofChange Rows.fnExactCoversLocationSpec) :=
  OpenClaim.holds_of_wide 3 Tryz.f3 rfl rfl rfl rfl rfl rfl rfl ⟨rfl, rfl, rfl, rfl, rfl⟩ rfl rfl rfl rfl rfl (by kernel_rfl) Tryz.func3 (by kernel_rfl)
    (of_decide_eq_true (by kernel_rfl)) (by unfold Func.isWrapper; first | (rw [if_pos (by decide +kernel)]; kernel_rfl) | (rw [if_neg (by decide +kernel)]; exact ⟨rfl, rfl⟩))
    (fun os started H enc _ => lifted os started H enc)

theorem proved : Rows.FnExactCoversLocationSaid := over
#print axioms proved
end Go.Proofs.YtpdccgnapgneaaaGreat.fnExactCoversLocation
