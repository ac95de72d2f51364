/-
  For every input the law FnExactIsPlanCover returns true and leaves its arguments as they were; no condition beyond the statement's own.
-/
import Derived.Test.YtpdccgnapgneaaaGreatRows
import Derived.Test.YtpdccgnapgneaaaGreatTa
import Derived.Test.YtpdccgnapgneaaaGreatCvl
import Derived.Test.YtpdccgnapgneaaaGreatCvp
import Derived.Test.YtpdccgnapgneaaaGreatToM
import Derived.Test.YtpdccgnapgneaaaGreatOpens
import Derived.Test.YtpdccgnapgneaaaGreatTo
import Derived.Test.YtpdccgnapgneaaaGreatEq
import Derived.WalkKit
import Derived.ProofKit
import Derived.OpenShut
import Derived.ShutString
import Derived.ChangeOld
import Derived.Below
import Derived.Deep.RegionHeld3
namespace Go.Proofs.YtpdccgnapgneaaaGreat.fnExactIsPlanCover
open Go.ChangeShapes Go.WideShapes Go.ChangeAt Go.RowKit
open Go.ChangeMaps (open_string shut_string)
set_option linter.unusedVariables false
set_option linter.unusedSimpArgs false

theorem sizeLawModel : (Tryz.prog.info? 26).map (·.size) = some 30 := by kernel_rfl
theorem own : ownKnob Tryz.prog.godebug = none := by kernel_rfl
theorem laidOut : laidOutB Tryz.prog = true := by kernel_rfl

set_option maxRecDepth 100000 in
set_option maxHeartbeats 4000000 in
theorem walk (csM : List Value) (xM : ModelD) (csQ : List Value) (xQ : QueryD) (csS : List Value) (xS : SpaceD) (APlans : Option Addr) (nPlans kPlans : Nat) (lPlans : List Int) (AFrontier : Option Addr) (nFrontier kFrontier : Nat) (lFrontier : List Int) (aBudget : Int) (w : World) (rM : (rModel maxLen).rep w csM xM) (rQ : (rQuery maxLen).rep w csQ xQ) (rS : (rSpace maxLen).rep w csS xS) (rPlans : RS maxLen rInt w APlans nPlans kPlans lPlans) (rFrontier : RS maxLen rInt w AFrontier nFrontier kFrontier lFrontier) (iBudget : I64 aBudget) :
    Calls Tryz.prog 4 #[.agg csM.toArray, .agg csQ.toArray, .agg csS.toArray, .slice APlans nPlans kPlans, .slice AFrontier nFrontier kFrontier, .int .i64 aBudget] w fun e w' => e = .returned (.bool true) ∧ Below w.heap.size w w' := by
  have hB : Below w.heap.size w w := Below.refl _ _
  have lenM : csM.length = 30 := (rModel_ok maxLen).len rM
  have qQ := rQ
  obtain ⟨AQAtoms, nQAtoms, cQAtoms, rfl, hQVariableCount, hQAtoms⟩ := rQuery_rep.1 qQ
  clear qQ
  have qS := rS
  obtain ⟨ASBoxLow, nSBoxLow, cSBoxLow, ASBoxHigh, nSBoxHigh, cSBoxHigh, ASCosts, nSCosts, cSCosts, ASChoices, nSChoices, cSChoices, ASPlans, nSPlans, cSPlans, rfl, hSBoxLow, hSBoxHigh, hSCosts, hSChoices, hSPlans⟩ := rSpace_rep.1 qS
  clear qS
  have hnPlans : nPlans ≤ 9223372036854775807 := rPlans.nb
  by_cases hszPlans : nPlans ≤ 1048576
  rotate_left
  · go_enter Tryz.func4, Tryz.ntmps4
    go_wp2
    go_ret
    exact ⟨rfl, (by repeat' (first | with_reducible exact hB | with_reducible refine Below.setCell ?_ ?_ _ | with_reducible refine Below.alloc ?_ ?_ _ | (simp; done) | (simp; omega) | omega))⟩
  have sPlans := smallIntS rPlans (by have := rPlans.len; omega)
  have hnFrontier : nFrontier ≤ 9223372036854775807 := rFrontier.nb
  by_cases hszFrontier : nFrontier ≤ 1048576
  rotate_left
  · go_enter Tryz.func4, Tryz.ntmps4
    go_wp2
    go_ret
    exact ⟨rfl, (by repeat' (first | with_reducible exact hB | with_reducible refine Below.setCell ?_ ?_ _ | with_reducible refine Below.alloc ?_ ?_ _ | (simp; done) | (simp; omega) | omega))⟩
  have sFrontier := smallIntS rFrontier (by have := rFrontier.len; omega)
  go_enter Tryz.func4, Tryz.ntmps4
  have hA1 := (Below.refl (World.heap (w)).size (w)).alloc (Nat.le_refl _) (.cells csM.toArray 26)
  replace hB := hB.trans (hA1.mono hB.size)
  have bxM := Bx.new (w) csM 26
  clear hA1
  have hA2 := (Below.refl (World.heap ((w).alloc (.cells csM.toArray 26))).size ((w).alloc (.cells csM.toArray 26))).alloc (Nat.le_refl _) (.cells #[.int .i64 xQ.fVariableCount, .slice AQAtoms nQAtoms cQAtoms] 29)
  replace hB := hB.trans (hA2.mono hB.size)
  replace bxM := bxM.below hA2
  have bxQ := Bx.new ((w).alloc (.cells csM.toArray 26)) [.int .i64 xQ.fVariableCount, .slice AQAtoms nQAtoms cQAtoms] 29
  simp only [World.size_alloc] at bxQ
  clear hA2
  have hA3 := (Below.refl (World.heap (((w).alloc (.cells csM.toArray 26)).alloc (.cells #[.int .i64 xQ.fVariableCount, .slice AQAtoms nQAtoms cQAtoms] 29))).size (((w).alloc (.cells csM.toArray 26)).alloc (.cells #[.int .i64 xQ.fVariableCount, .slice AQAtoms nQAtoms cQAtoms] 29))).alloc (Nat.le_refl _) (.cells #[.slice ASBoxLow nSBoxLow cSBoxLow, .slice ASBoxHigh nSBoxHigh cSBoxHigh, .slice ASCosts nSCosts cSCosts, .slice ASChoices nSChoices cSChoices, .slice ASPlans nSPlans cSPlans] 35)
  replace hB := hB.trans (hA3.mono hB.size)
  replace bxM := bxM.below hA3
  replace bxQ := bxQ.below hA3
  have bxS := Bx.new (((w).alloc (.cells csM.toArray 26)).alloc (.cells #[.int .i64 xQ.fVariableCount, .slice AQAtoms nQAtoms cQAtoms] 29)) [.slice ASBoxLow nSBoxLow cSBoxLow, .slice ASBoxHigh nSBoxHigh cSBoxHigh, .slice ASCosts nSCosts cSCosts, .slice ASChoices nSChoices cSChoices, .slice ASPlans nSPlans cSPlans] 35
  simp only [World.size_alloc] at bxS
  clear hA3
  go_wp2_with (first | (refine wpList_load_mid rfl 26 _ rfl (w.heap.size) 0 rfl csM _ bxM.range Tryz.underlying26 rfl (by rw [lenM]; exact sizeLawModel) ?_))
  refine (szModel_c _ xM _ _ ((rModel_ok maxLen).keep rM (cells_below hB)) (by omega) (by omega)).mono ?_
  rintro e w5 ⟨rfl, hb4⟩
  replace hB := hB.trans (hb4.mono hB.size)
  replace bxM := bxM.below hb4
  replace bxQ := bxQ.below hb4
  replace bxS := bxS.below hb4
  clear hb4
  by_cases hszM : ((bulkModel xM : Nat) : Int) ≤ 1048576
  rotate_left
  · rw [lessBy_no hszM]
    go_wp2
    go_ret
    exact ⟨rfl, hB⟩
  rw [lessBy_yes hszM]
  have sM := smallModel rM (by omega)
  obtain ⟨L6, hL6⟩ : ∃ L : Int, L = 1048576 - ((bulkModel xM : Nat) : Int) := ⟨_, rfl⟩
  rw [← hL6]
  have pL6 : 0 ≤ L6 := by omega
  have uL6 : L6 ≤ 1048576 := by omega
  clear hL6
  have cbxQ_0 := bxQ 0 _ rfl
  have cbxQ_1 := bxQ 1 _ rfl
  go_wp2_with (first | (refine wpList_load_mid rfl 26 _ rfl (w.heap.size) 0 rfl csM _ bxM.range Tryz.underlying26 rfl (by rw [lenM]; exact sizeLawModel) ?_))
  refine (szQuery_c _ xQ _ _ ((rQuery_ok maxLen).keep rQ (cells_below hB)) (by omega) (by omega)).mono ?_
  rintro e w8 ⟨rfl, hb7⟩
  replace hB := hB.trans (hb7.mono hB.size)
  replace bxM := bxM.below hb7
  replace bxQ := bxQ.below hb7
  replace bxS := bxS.below hb7
  clear hb7 cbxQ_0 cbxQ_1
  by_cases hszQ : ((bulkQuery xQ : Nat) : Int) ≤ L6
  rotate_left
  · rw [lessBy_no hszQ]
    go_wp2
    go_ret
    exact ⟨rfl, hB⟩
  rw [lessBy_yes hszQ]
  have sQ := smallQuery rQ (by omega)
  obtain ⟨L9, hL9⟩ : ∃ L : Int, L = L6 - ((bulkQuery xQ : Nat) : Int) := ⟨_, rfl⟩
  rw [← hL9]
  have pL9 : 0 ≤ L9 := by omega
  have uL9 : L9 ≤ 1048576 := by omega
  clear hL9
  have cbxS_0 := bxS 0 _ rfl
  have cbxS_1 := bxS 1 _ rfl
  have cbxS_2 := bxS 2 _ rfl
  have cbxS_3 := bxS 3 _ rfl
  have cbxS_4 := bxS 4 _ rfl
  go_wp2_with (first | (refine wpList_load_mid rfl 26 _ rfl (w.heap.size) 0 rfl csM _ bxM.range Tryz.underlying26 rfl (by rw [lenM]; exact sizeLawModel) ?_))
  refine (szSpace_c _ xS _ _ ((rSpace_ok maxLen).keep rS (cells_below hB)) (by omega) (by omega)).mono ?_
  rintro e w11 ⟨rfl, hb10⟩
  replace hB := hB.trans (hb10.mono hB.size)
  replace bxM := bxM.below hb10
  replace bxQ := bxQ.below hb10
  replace bxS := bxS.below hb10
  clear hb10 cbxS_0 cbxS_1 cbxS_2 cbxS_3 cbxS_4
  by_cases hszS : ((bulkSpace xS : Nat) : Int) ≤ L9
  rotate_left
  · rw [lessBy_no hszS]
    go_wp2
    go_ret
    exact ⟨rfl, hB⟩
  rw [lessBy_yes hszS]
  have sS := smallSpace rS (by omega)
  obtain ⟨L12, hL12⟩ : ∃ L : Int, L = L9 - ((bulkSpace xS : Nat) : Int) := ⟨_, rfl⟩
  rw [← hL12]
  have pL12 : 0 ≤ L12 := by omega
  have uL12 : L12 ≤ 1048576 := by omega
  clear hL12
  go_wp2_with (first | (refine wpList_load_mid rfl 26 _ rfl (w.heap.size) 0 rfl csM _ bxM.range Tryz.underlying26 rfl (by rw [lenM]; exact sizeLawModel) ?_))
  have SS13 : ∀ w', Below w11.heap.size w11 w' → (Below w11.heap.size w11 w' ∧ w'.rangeAt (w.heap.size) 0 csM ∧ w'.cell? ⟨w.heap.size + 1, 0, none⟩ = some (.int .i64 xQ.fVariableCount) ∧ w'.cell? ⟨w.heap.size + 1, 1, none⟩ = some (.slice AQAtoms nQAtoms cQAtoms) ∧ w'.cell? ⟨w.heap.size + 1 + 1, 0, none⟩ = some (.slice ASBoxLow nSBoxLow cSBoxLow) ∧ w'.cell? ⟨w.heap.size + 1 + 1, 1, none⟩ = some (.slice ASBoxHigh nSBoxHigh cSBoxHigh) ∧ w'.cell? ⟨w.heap.size + 1 + 1, 2, none⟩ = some (.slice ASCosts nSCosts cSCosts) ∧ w'.cell? ⟨w.heap.size + 1 + 1, 3, none⟩ = some (.slice ASChoices nSChoices cSChoices) ∧ w'.cell? ⟨w.heap.size + 1 + 1, 4, none⟩ = some (.slice ASPlans nSPlans cSPlans)) := fun w' hb => ⟨hb, (bxM.below hb).range, bxQ.below hb 0 _ rfl, bxQ.below hb 1 _ rfl, bxS.below hb 0 _ rfl, bxS.below hb 1 _ rfl, bxS.below hb 2 _ rfl, bxS.below hb 3 _ rfl, bxS.below hb 4 _ rfl⟩
  have HSS13 := Lib.hid SS13; clear SS13
  refine hbg HSS13.out (Below.refl _ _).drew (fun hHeld => ?_)
  refine' wpAnyH_take (i := 0) (oi := ⟨some 42,_,_,_,_,_⟩) (v := _) rfl (by kernel_rfl) (by kernel_rfl) (by kernel_rfl) (fun _ _ _ h => h) (yieldsIf_load_mid (by rfl) _ _ rfl _ _ rfl _ _ (fun w h => h.2.1) Tryz.underlying26 rfl (by rw [lenM]; exact sizeLawModel)) hHeld ?_
  simp only [putS]
  refine tka 2 (some 44) hHeld ?_; try simp only [putS]
  refine tka 4 (some 46) hHeld ?_; try simp only [putS]
  refine tka 6 (some 48) hHeld ?_; try simp only [putS]
  refine tka 8 (some 50) hHeld ?_; try simp only [putS]
  refine tka 10 (some 52) hHeld ?_; try simp only [putS]
  refine wpAnyH_ready (rs := [1]) (by kernel_rfl) (by simp) ?_
  refine AllReadyH.cons (o := ⟨some 43, _, _, _, _, _⟩) rfl (fun K hK => ?_) AllReadyH.nil
  clear hHeld
  go_simp
  refine (toModel_c _ xM _ ((rModel_ok NB).keep sM (cells_below (hB.trans (Below.mono ((Below.refl w11.heap.size w11).drew) hB.size))))).mono ?_
  rintro e w15 ⟨csv14, fv14, rfl, ov14, frv14, hb16⟩
  have hC17 : Below w11.heap.size w11 w15 := Below.trans ((Below.refl w11.heap.size w11).drew) (hb16.mono ((Below.refl w11.heap.size w11).drew).size)
  have Rv14 := (rModel_ok NB).toRep ov14
  go_wp2_with fail
  refine hK.out _ _ (HSS13.out _ hC17) (fun hHeld => ?_)
  clear hK K
  try simp only [putS]
  refine wpAnyH_ready (rs := [3]) (by kernel_rfl) (by simp) ?_
  refine AllReadyH.cons (o := ⟨some 45, _, _, _, _, _⟩) rfl (fun K hK => ?_) AllReadyH.nil
  clear hHeld
  go_simp
  refine (toQuery_c _ xQ _ ((rQuery_ok NB).keep sQ (cells_below (hB.trans (Below.mono (hC17) hB.size))))).mono ?_
  rintro e w20 ⟨csv19, fv19, rfl, ov19, frv19, hb21⟩
  have hC22 : Below w11.heap.size w11 w20 := Below.trans (hC17) (hb21.mono (hC17).size)
  have Rv19 := (rQuery_ok NB).toRep ov19
  replace Rv14 := (rModel_ok NB).keep Rv14 (cells_below hb21)
  go_wp2_with fail
  refine hK.out _ _ (HSS13.out _ hC22) (fun hHeld => ?_)
  clear hK K
  try simp only [putS]
  refine wpAnyH_ready (rs := [5]) (by kernel_rfl) (by simp) ?_
  refine AllReadyH.cons (o := ⟨some 47, _, _, _, _, _⟩) rfl (fun K hK => ?_) AllReadyH.nil
  clear hHeld
  go_simp
  refine (toSpace_c _ xS _ ((rSpace_ok NB).keep sS (cells_below (hB.trans (Below.mono (hC22) hB.size))))).mono ?_
  rintro e w25 ⟨csv24, fv24, rfl, ov24, frv24, hb26⟩
  have hC27 : Below w11.heap.size w11 w25 := Below.trans (hC22) (hb26.mono (hC22).size)
  have Rv24 := (rSpace_ok NB).toRep ov24
  replace Rv14 := (rModel_ok NB).keep Rv14 (cells_below hb26)
  replace Rv19 := (rQuery_ok NB).keep Rv19 (cells_below hb26)
  go_wp2_with fail
  refine hK.out _ _ (HSS13.out _ hC27) (fun hHeld => ?_)
  clear hK K
  try simp only [putS]
  refine wpAnyH_ready (rs := [7]) (by kernel_rfl) (by simp) ?_
  refine AllReadyH.cons (o := ⟨some 49, _, _, _, _, _⟩) rfl (fun K hK => ?_) AllReadyH.nil
  clear hHeld
  go_simp
  refine (toIntS_c _ _ _ _ _ (sPlans.below rInt_ok (hB.trans (Below.mono (hC27) hB.size)))).mono ?_
  rintro e w30 ⟨Av29, nv29, cv29, rfl, ⟨fv29, Mv29, frv29⟩, hb31⟩
  have hC32 : Below w11.heap.size w11 w30 := Below.trans (hC27) (hb31.mono (hC27).size)
  have Rv29 := Mv29.rs rInt_ok
  replace Rv14 := (rModel_ok NB).keep Rv14 (cells_below hb31)
  replace Rv19 := (rQuery_ok NB).keep Rv19 (cells_below hb31)
  replace Rv24 := (rSpace_ok NB).keep Rv24 (cells_below hb31)
  go_wp2_with fail
  refine hK.out _ _ (HSS13.out _ hC32) (fun hHeld => ?_)
  clear hK K
  try simp only [putS]
  refine wpAnyH_ready (rs := [9]) (by kernel_rfl) (by simp) ?_
  refine AllReadyH.cons (o := ⟨some 51, _, _, _, _, _⟩) rfl (fun K hK => ?_) AllReadyH.nil
  clear hHeld
  go_simp
  refine (toIntS_c _ _ _ _ _ (sFrontier.below rInt_ok (hB.trans (Below.mono (hC32) hB.size)))).mono ?_
  rintro e w35 ⟨Av34, nv34, cv34, rfl, ⟨fv34, Mv34, frv34⟩, hb36⟩
  have hC37 : Below w11.heap.size w11 w35 := Below.trans (hC32) (hb36.mono (hC32).size)
  have Rv34 := Mv34.rs rInt_ok
  replace Rv14 := (rModel_ok NB).keep Rv14 (cells_below hb36)
  replace Rv19 := (rQuery_ok NB).keep Rv19 (cells_below hb36)
  replace Rv24 := (rSpace_ok NB).keep Rv24 (cells_below hb36)
  replace Rv29 := Rv29.below rInt_ok hb36
  go_wp2_with fail
  refine hK.out _ _ (HSS13.out _ hC37) (fun hHeld => ?_)
  clear hK K
  try simp only [putS]
  refine wpAnyH_ready (rs := [11]) (by kernel_rfl) (by simp) ?_
  refine AllReadyH.cons (o := ⟨some 53, _, _, _, _, _⟩) rfl (fun K hK => ?_) AllReadyH.nil
  clear hHeld
  go_simp
  refine (sIsPlanCover_c _ xM _ xQ _ xS _ _ _ _ _ _ _ _ _ _ Rv14 Rv19 Rv24 Rv29 Rv34).mono ?_
  rintro e w39 ⟨rfl, hb40⟩
  have hC41 : Below w11.heap.size w11 w39 := Below.trans (hC37) (hb40.mono (hC37).size)
  go_wp2_with fail
  refine hK.out _ _ (HSS13.out _ hC41) (fun hHeld => ?_)
  clear hK K
  try simp only [putS]
  refine tka 12 (some 14) hHeld ?_; try simp only [putS]
  refine wpAnyH_done (by kernel_rfl) ?_ _
  clear hHeld
  replace hB := hB.trans (hC41.mono hB.size)
  replace bxM := bxM.below hC41
  replace bxQ := bxQ.below hC41
  replace bxS := bxS.below hC41
  clear HSS13 hC41
  go_wp2_with (first | (refine wpList_load_mid rfl 26 _ rfl (w.heap.size) 0 rfl csM _ bxM.range Tryz.underlying26 rfl (by rw [lenM]; exact sizeLawModel) ?_))
  refine (toModel_c _ xM _ ((rModel_ok NB).keep sM (cells_below hB))).mono ?_
  rintro e w43 ⟨csx0, fx0, rfl, ox0, frx0, hb44⟩
  replace hB := hB.trans (hb44.mono hB.size)
  replace bxM := bxM.below hb44
  replace bxQ := bxQ.below hb44
  replace bxS := bxS.below hb44
  clear hb44
  have lenx0 : csx0.length = 30 := (rModel_ok NB).len ((rModel_ok NB).toRep ox0)
  have hA45 : Below w43.heap.size w43 (World.setCells (w43.alloc (.cells #[.int .i64 0, .int .i64 0, .int .i64 0, .int .i64 0, .int .i64 0, .slice none 0 0, .int .i64 0, .int .i64 0, .int .i64 0, .int .i64 0, .int .i64 0, .slice none 0 0, .int .i64 0, .int .i64 0, .int .i64 0, .int .i64 0, .int .i64 0, .slice none 0 0, .int .i64 0, .int .i64 0, .int .i64 0, .int .i64 0, .int .i64 0, .slice none 0 0, .int .i64 0, .int .i64 0, .int .i64 0, .int .i64 0, .int .i64 0, .slice none 0 0] 44)) w43.heap.size 0 csx0) := by rw [setCells_kit]; exact Below.setCells ((Below.refl _ _).alloc (Nat.le_refl _) _) (Nat.le_refl _) _ _
  replace ox0 := (rModel_ok NB).ownB ox0 hA45
  replace hB := hB.trans (hA45.mono hB.size)
  replace bxM := bxM.below hA45
  replace bxQ := bxQ.below hA45
  replace bxS := bxS.below hA45
  have bxx0 : Bx (World.setCells (w43.alloc (.cells #[.int .i64 0, .int .i64 0, .int .i64 0, .int .i64 0, .int .i64 0, .slice none 0 0, .int .i64 0, .int .i64 0, .int .i64 0, .int .i64 0, .int .i64 0, .slice none 0 0, .int .i64 0, .int .i64 0, .int .i64 0, .int .i64 0, .int .i64 0, .slice none 0 0, .int .i64 0, .int .i64 0, .int .i64 0, .int .i64 0, .int .i64 0, .slice none 0 0, .int .i64 0, .int .i64 0, .int .i64 0, .int .i64 0, .int .i64 0, .slice none 0 0] 44)) w43.heap.size 0 csx0) w43.heap.size csx0 := by rw [setCells_kit]; exact ((Bk.new w43 [.int .i64 0, .int .i64 0, .int .i64 0, .int .i64 0, .int .i64 0, .slice none 0 0, .int .i64 0, .int .i64 0, .int .i64 0, .int .i64 0, .int .i64 0, .slice none 0 0, .int .i64 0, .int .i64 0, .int .i64 0, .int .i64 0, .int .i64 0, .slice none 0 0, .int .i64 0, .int .i64 0, .int .i64 0, .int .i64 0, .int .i64 0, .slice none 0 0, .int .i64 0, .int .i64 0, .int .i64 0, .int .i64 0, .int .i64 0, .slice none 0 0] 44).fill lenx0).bx
  have Onex0 := all_oneCell_toArray ((rModel_ok NB).one ((rModel_ok NB).toRep ox0))
  have Thex0 : (w43.alloc (.cells #[.int .i64 0, .int .i64 0, .int .i64 0, .int .i64 0, .int .i64 0, .slice none 0 0, .int .i64 0, .int .i64 0, .int .i64 0, .int .i64 0, .int .i64 0, .slice none 0 0, .int .i64 0, .int .i64 0, .int .i64 0, .int .i64 0, .int .i64 0, .slice none 0 0, .int .i64 0, .int .i64 0, .int .i64 0, .int .i64 0, .int .i64 0, .slice none 0 0, .int .i64 0, .int .i64 0, .int .i64 0, .int .i64 0, .int .i64 0, .slice none 0 0] 44)).there w43.heap.size 0 csx0.toArray.size := by rw [show csx0.toArray.size = 30 from List.size_toArray.trans lenx0]; exact (Bk.new w43 [.int .i64 0, .int .i64 0, .int .i64 0, .int .i64 0, .int .i64 0, .slice none 0 0, .int .i64 0, .int .i64 0, .int .i64 0, .int .i64 0, .int .i64 0, .slice none 0 0, .int .i64 0, .int .i64 0, .int .i64 0, .int .i64 0, .int .i64 0, .slice none 0 0, .int .i64 0, .int .i64 0, .int .i64 0, .int .i64 0, .int .i64 0, .slice none 0 0, .int .i64 0, .int .i64 0, .int .i64 0, .int .i64 0, .int .i64 0, .slice none 0 0] 44).there
  clear hA45
  have cbxQ_0 := bxQ 0 _ rfl
  have cbxQ_1 := bxQ 1 _ rfl
  go_wp2_with (first | (refine wpList_store_mid rfl 44 _ _ rfl (w43.heap.size) 0 (List.toArray csx0) rfl rfl Thex0 (by rw [show csx0.toArray.size = 30 from List.size_toArray.trans lenx0]; exact sizeModel) Onex0 ?_) | (refine wpList_load_mid rfl 26 _ rfl (w.heap.size) 0 rfl csM _ bxM.range Tryz.underlying26 rfl (by rw [lenM]; exact sizeLawModel) ?_) | (refine wpList_load_mid rfl 44 _ rfl (w43.heap.size) 0 rfl csx0 _ bxx0.range Tryz.underlying44 rfl (by rw [lenx0]; exact sizeModel) ?_))
  clear Onex0 Thex0
  refine (toQuery_c _ xQ _ ((rQuery_ok NB).keep sQ (cells_below hB))).mono ?_
  rintro e w46 ⟨csx1, fx1, rfl, ox1, frx1, hb47⟩
  replace ox0 := (rModel_ok NB).ownB ox0 hb47
  replace hB := hB.trans (hb47.mono hB.size)
  replace bxM := bxM.below hb47
  replace bxQ := bxQ.below hb47
  replace bxS := bxS.below hb47
  replace bxx0 := bxx0.below hb47
  clear hb47 cbxQ_0 cbxQ_1
  obtain ⟨Ax1Atoms, nx1Atoms, cx1Atoms, rfl, _, _⟩ := rQuery_rep.1 ((rQuery_ok NB).toRep ox1)
  have hA48 := (Below.refl w46.heap.size w46).alloc (Nat.le_refl _) (.cells #[.int .i64 xQ.fVariableCount, .slice Ax1Atoms nx1Atoms cx1Atoms] 48)
  replace ox0 := (rModel_ok NB).ownB ox0 hA48
  replace ox1 := (rQuery_ok NB).ownB ox1 hA48
  replace hB := hB.trans (hA48.mono hB.size)
  replace bxM := bxM.below hA48
  replace bxQ := bxQ.below hA48
  replace bxS := bxS.below hA48
  replace bxx0 := bxx0.below hA48
  have bxx1 := Bx.new w46 [.int .i64 xQ.fVariableCount, .slice Ax1Atoms nx1Atoms cx1Atoms] 48
  clear hA48
  have cbxS_0 := bxS 0 _ rfl
  have cbxS_1 := bxS 1 _ rfl
  have cbxS_2 := bxS 2 _ rfl
  have cbxS_3 := bxS 3 _ rfl
  have cbxS_4 := bxS 4 _ rfl
  go_wp2_with (first | (refine wpList_load_mid rfl 26 _ rfl (w.heap.size) 0 rfl csM _ bxM.range Tryz.underlying26 rfl (by rw [lenM]; exact sizeLawModel) ?_) | (refine wpList_load_mid rfl 44 _ rfl (w43.heap.size) 0 rfl csx0 _ bxx0.range Tryz.underlying44 rfl (by rw [lenx0]; exact sizeModel) ?_))
  refine (toSpace_c _ xS _ ((rSpace_ok NB).keep sS (cells_below hB))).mono ?_
  rintro e w49 ⟨csx2, fx2, rfl, ox2, frx2, hb50⟩
  replace ox0 := (rModel_ok NB).ownB ox0 hb50
  replace ox1 := (rQuery_ok NB).ownB ox1 hb50
  replace hB := hB.trans (hb50.mono hB.size)
  replace bxM := bxM.below hb50
  replace bxQ := bxQ.below hb50
  replace bxS := bxS.below hb50
  replace bxx0 := bxx0.below hb50
  replace bxx1 := bxx1.below hb50
  clear hb50 cbxS_0 cbxS_1 cbxS_2 cbxS_3 cbxS_4
  obtain ⟨Ax2BoxLow, nx2BoxLow, cx2BoxLow, Ax2BoxHigh, nx2BoxHigh, cx2BoxHigh, Ax2Costs, nx2Costs, cx2Costs, Ax2Choices, nx2Choices, cx2Choices, Ax2Plans, nx2Plans, cx2Plans, rfl, _, _, _, _, _⟩ := rSpace_rep.1 ((rSpace_ok NB).toRep ox2)
  have hA51 := (Below.refl w49.heap.size w49).alloc (Nat.le_refl _) (.cells #[.slice Ax2BoxLow nx2BoxLow cx2BoxLow, .slice Ax2BoxHigh nx2BoxHigh cx2BoxHigh, .slice Ax2Costs nx2Costs cx2Costs, .slice Ax2Choices nx2Choices cx2Choices, .slice Ax2Plans nx2Plans cx2Plans] 53)
  replace ox0 := (rModel_ok NB).ownB ox0 hA51
  replace ox1 := (rQuery_ok NB).ownB ox1 hA51
  replace ox2 := (rSpace_ok NB).ownB ox2 hA51
  replace hB := hB.trans (hA51.mono hB.size)
  replace bxM := bxM.below hA51
  replace bxQ := bxQ.below hA51
  replace bxS := bxS.below hA51
  replace bxx0 := bxx0.below hA51
  replace bxx1 := bxx1.below hA51
  have bxx2 := Bx.new w49 [.slice Ax2BoxLow nx2BoxLow cx2BoxLow, .slice Ax2BoxHigh nx2BoxHigh cx2BoxHigh, .slice Ax2Costs nx2Costs cx2Costs, .slice Ax2Choices nx2Choices cx2Choices, .slice Ax2Plans nx2Plans cx2Plans] 53
  clear hA51
  go_wp2_with (first | (refine wpList_load_mid rfl 26 _ rfl (w.heap.size) 0 rfl csM _ bxM.range Tryz.underlying26 rfl (by rw [lenM]; exact sizeLawModel) ?_) | (refine wpList_load_mid rfl 44 _ rfl (w43.heap.size) 0 rfl csx0 _ bxx0.range Tryz.underlying44 rfl (by rw [lenx0]; exact sizeModel) ?_))
  refine (toIntS_c _ _ _ _ _ (sPlans.below rInt_ok hB)).mono ?_
  rintro e w52 ⟨Ax3, nx3, cx3, rfl, ⟨fx3, ox3, frx3⟩, hb53⟩
  replace ox0 := (rModel_ok NB).ownB ox0 hb53
  replace ox1 := (rQuery_ok NB).ownB ox1 hb53
  replace ox2 := (rSpace_ok NB).ownB ox2 hb53
  replace hB := hB.trans (hb53.mono hB.size)
  replace bxM := bxM.below hb53
  replace bxQ := bxQ.below hb53
  replace bxS := bxS.below hb53
  replace bxx0 := bxx0.below hb53
  replace bxx1 := bxx1.below hb53
  replace bxx2 := bxx2.below hb53
  clear hb53
  go_wp2_with (first | (refine wpList_load_mid rfl 26 _ rfl (w.heap.size) 0 rfl csM _ bxM.range Tryz.underlying26 rfl (by rw [lenM]; exact sizeLawModel) ?_) | (refine wpList_load_mid rfl 44 _ rfl (w43.heap.size) 0 rfl csx0 _ bxx0.range Tryz.underlying44 rfl (by rw [lenx0]; exact sizeModel) ?_))
  refine (toIntS_c _ _ _ _ _ (sFrontier.below rInt_ok hB)).mono ?_
  rintro e w54 ⟨Ax4, nx4, cx4, rfl, ⟨fx4, ox4, frx4⟩, hb55⟩
  replace ox0 := (rModel_ok NB).ownB ox0 hb55
  replace ox1 := (rQuery_ok NB).ownB ox1 hb55
  replace ox2 := (rSpace_ok NB).ownB ox2 hb55
  replace ox3 := ox3.belowS rInt_ok hb55
  replace hB := hB.trans (hb55.mono hB.size)
  replace bxM := bxM.below hb55
  replace bxQ := bxQ.below hb55
  replace bxS := bxS.below hb55
  replace bxx0 := bxx0.below hb55
  replace bxx1 := bxx1.below hb55
  replace bxx2 := bxx2.below hb55
  clear hb55
  have cbxx1_0 := bxx1 0 _ rfl
  have cbxx1_1 := bxx1 1 _ rfl
  have cbxx2_0 := bxx2 0 _ rfl
  have cbxx2_1 := bxx2 1 _ rfl
  have cbxx2_2 := bxx2 2 _ rfl
  have cbxx2_3 := bxx2 3 _ rfl
  have cbxx2_4 := bxx2 4 _ rfl
  go_wp2_with (first | (refine wpList_load_mid rfl 26 _ rfl (w.heap.size) 0 rfl csM _ bxM.range Tryz.underlying26 rfl (by rw [lenM]; exact sizeLawModel) ?_) | (refine wpList_load_mid rfl 44 _ rfl (w43.heap.size) 0 rfl csx0 _ bxx0.range Tryz.underlying44 rfl (by rw [lenx0]; exact sizeModel) ?_))
  refine (iIsPlanCover_c _ xM _ xQ _ xS _ _ _ _ _ _ _ _ _ _ ((rModel_ok NB).toRep ox0) ((rQuery_ok NB).toRep ox1) ((rSpace_ok NB).toRep ox2) (ox3.rs rInt_ok) (ox4.rs rInt_ok)).mono ?_
  rintro e w56 ⟨rfl, hb57⟩
  replace ox0 := (rModel_ok NB).ownB ox0 hb57
  replace ox1 := (rQuery_ok NB).ownB ox1 hb57
  replace ox2 := (rSpace_ok NB).ownB ox2 hb57
  replace ox3 := ox3.belowS rInt_ok hb57
  replace ox4 := ox4.belowS rInt_ok hb57
  replace hB := hB.trans (hb57.mono hB.size)
  replace bxM := bxM.below hb57
  replace bxQ := bxQ.below hb57
  replace bxS := bxS.below hb57
  replace bxx0 := bxx0.below hb57
  replace bxx1 := bxx1.below hb57
  replace bxx2 := bxx2.below hb57
  clear hb57 cbxx1_0 cbxx1_1 cbxx2_0 cbxx2_1 cbxx2_2 cbxx2_3 cbxx2_4
  have hnei : ∀ v : Int, (v != v) = false := fun v => by simp
  have hneb : ∀ v : Bool, (v == v) = true := fun v => by simp
  go_wp2_with (first | (refine wpList_load_mid rfl 26 _ rfl (w.heap.size) 0 rfl csM _ bxM.range Tryz.underlying26 rfl (by rw [lenM]; exact sizeLawModel) ?_) | (refine wpList_load_mid rfl 44 _ rfl (w43.heap.size) 0 rfl csx0 _ bxx0.range Tryz.underlying44 rfl (by rw [lenx0]; exact sizeModel) ?_))
  have HSS : ∀ w', Below w56.heap.size w56 w' → (Below w56.heap.size w56 w' ∧ w'.rangeAt (w.heap.size) 0 csM ∧ w'.rangeAt (w43.heap.size) 0 csx0) := fun w' hb => ⟨hb, (bxM.below hb).range, (bxx0.below hb).range⟩
  refine wp_region_held_drew (S := fun w' => Below w56.heap.size w56 w' ∧ w'.rangeAt (w.heap.size) 0 csM ∧ w'.rangeAt (w43.heap.size) 0 csx0) (by kernel_rfl) ?_ (fun hHeld => ?_)
  · exact HSS _ (Below.refl _ _).drew
  refine' wpAnyH_take (i := 0) (v := _) rfl (by kernel_rfl) (by kernel_rfl) (by kernel_rfl) (fun _ _ _ h => h) (yieldsIf_load_mid (by rfl) _ _ rfl _ _ rfl _ _ (fun w h => h.2.2) Tryz.underlying44 rfl (by rw [lenx0]; exact sizeModel)) hHeld ?_
  simp only [Act.put, List.setIfInBounds_toArray, List.set_cons_zero, List.set_cons_succ]
  refine' wpAnyH_take (i := 1) (v := _) rfl (by kernel_rfl) (by kernel_rfl) (by kernel_rfl) (fun _ _ _ h => h) (yieldsIf_load_mid (by rfl) _ _ rfl _ _ rfl _ _ (fun w h => h.2.1) Tryz.underlying26 rfl (by rw [lenM]; exact sizeLawModel)) hHeld ?_
  simp only [Act.put, List.setIfInBounds_toArray, List.set_cons_zero, List.set_cons_succ]
  refine wpAnyH_ready (rs := [2]) (by kernel_rfl) (by simp) ?_
  refine AllReadyH.cons rfl (fun K hK => ?_) AllReadyH.nil
  have HSS' := Lib.hid HSS; clear HSS
  clear hHeld
  go_simp
  refine (toModel_c _ xM _ ((rModel_ok NB).keep sM (cells_below (hB.trans (Below.mono ((Below.refl w56.heap.size w56).drew) hB.size))))).mono ?_
  rintro e wq1 ⟨csq, fq, rfl, oq, frq, hbq1⟩
  have hCq1 : Below w56.heap.size w56 wq1 := Below.trans ((Below.refl w56.heap.size w56).drew) hbq1
  have Rq := (rModel_ok NB).toRep oq; clear oq frq hbq1
  go_wp2_with fail
  refine hK.out _ _ (HSS'.out _ hCq1) (fun hHeld => ?_)
  clear hK K hHeld
  try simp only [Act.put, List.setIfInBounds_toArray, List.set_cons_zero, List.set_cons_succ]
  refine wpAnyH_ready (rs := [3]) (by kernel_rfl) (by simp) ?_
  refine AllReadyH.cons rfl (fun K hK => ?_) AllReadyH.nil
  go_simp
  refine (eqModel_c _ _ xM xM _ ((rModel_ok NB).keep ((rModel_ok NB).toRep ox0) (cells_below hCq1)) Rq).mono ?_
  rintro e w64 ⟨rfl, hbq2⟩
  have hC66 : Below w56.heap.size w56 w64 := Below.trans hCq1 (hbq2.mono hCq1.size)
  clear hbq2 hCq1 Rq
  go_wp2_with fail
  refine hK.out _ _ (HSS'.out _ hC66) (fun hHeld => ?_)
  clear hK K hHeld
  try simp only [Act.put, List.setIfInBounds_toArray, List.set_cons_zero, List.set_cons_succ]
  refine wpAnyH_ready (rs := [4]) (by kernel_rfl) (by simp) ?_
  refine AllReadyH.cons rfl (fun K hK => ?_) AllReadyH.nil
  go_simp
  refine hK.out _ _ (HSS'.out _ hC66) (fun hHeld => ?_)
  clear hK K hHeld HSS'
  try simp only [Act.put, List.setIfInBounds_toArray, List.set_cons_zero, List.set_cons_succ]
  refine wpAnyH_done (by kernel_rfl) ?_ _
  replace ox0 := (rModel_ok NB).ownB ox0 hC66
  replace ox1 := (rQuery_ok NB).ownB ox1 hC66
  replace ox2 := (rSpace_ok NB).ownB ox2 hC66
  replace ox3 := ox3.belowS rInt_ok hC66
  replace ox4 := ox4.belowS rInt_ok hC66
  replace hB := hB.trans (hC66.mono hB.size)
  replace bxM := bxM.below hC66
  replace bxQ := bxQ.below hC66
  replace bxS := bxS.below hC66
  replace bxx0 := bxx0.below hC66
  replace bxx1 := bxx1.below hC66
  replace bxx2 := bxx2.below hC66
  clear hC66
  have hdx0 : decide (xM = xM) = true := by simp
  go_wp2_with (first | (refine wpList_load_mid rfl 26 _ rfl (w.heap.size) 0 rfl csM _ bxM.range Tryz.underlying26 rfl (by rw [lenM]; exact sizeLawModel) ?_) | (refine wpList_load_mid rfl 44 _ rfl (w43.heap.size) 0 rfl csx0 _ bxx0.range Tryz.underlying44 rfl (by rw [lenx0]; exact sizeModel) ?_))
  have SS68 : ∀ w', Below w64.heap.size w64 w' → (Below w64.heap.size w64 w' ∧ w'.cell? ⟨w.heap.size + 1, 0, none⟩ = some (.int .i64 xQ.fVariableCount) ∧ w'.cell? ⟨w.heap.size + 1, 1, none⟩ = some (.slice AQAtoms nQAtoms cQAtoms) ∧ w'.cell? ⟨w46.heap.size, 0, none⟩ = some (.int .i64 xQ.fVariableCount) ∧ w'.cell? ⟨w46.heap.size, 1, none⟩ = some (.slice Ax1Atoms nx1Atoms cx1Atoms)) := fun w' hb => ⟨hb, bxQ.below hb 0 _ rfl, bxQ.below hb 1 _ rfl, bxx1.below hb 0 _ rfl, bxx1.below hb 1 _ rfl⟩
  have HSS68 := Lib.hid SS68; clear SS68
  have tok73 : True := trivial
  have tok77 : True := trivial
  go_region_held3 (fun w' => Below w64.heap.size w64 w' ∧ w'.cell? ⟨w.heap.size + 1, 0, none⟩ = some (.int .i64 xQ.fVariableCount) ∧ w'.cell? ⟨w.heap.size + 1, 1, none⟩ = some (.slice AQAtoms nQAtoms cQAtoms) ∧ w'.cell? ⟨w46.heap.size, 0, none⟩ = some (.int .i64 xQ.fVariableCount) ∧ w'.cell? ⟨w46.heap.size, 1, none⟩ = some (.slice Ax1Atoms nx1Atoms cx1Atoms)) (first | exact HSS68.out _ (Below.refl _ _).drew | exact HSS68.out _ (by assumption)) (first | (go_at_call 12; have _t := tok73; refine (toQuery_c _ xQ _ ((rQuery_ok NB).keep sQ (cells_below (hB.trans (Below.mono ((Below.refl w64.heap.size w64).drew) hB.size))))).mono ?_; rintro e w70 ⟨csv69, fv69, rfl, ov69, frv69, hb71⟩; have hC72 : Below w64.heap.size w64 w70 := Below.trans ((Below.refl w64.heap.size w64).drew) (hb71.mono ((Below.refl w64.heap.size w64).drew).size); have Rv69 := (rQuery_ok NB).toRep ov69; clear tok73) | (go_at_call 16; have _t := tok77; refine (eqQuery_c _ _ xQ xQ _ ((rQuery_ok NB).keep ((rQuery_ok NB).toRep ox1) (cells_below (hC72))) Rv69).mono ?_; rintro e w74 ⟨rfl, hb75⟩; have hC76 : Below w64.heap.size w64 w74 := Below.trans (hC72) (hb75.mono (hC72).size); clear tok77))
  replace ox0 := (rModel_ok NB).ownB ox0 hC76
  replace ox1 := (rQuery_ok NB).ownB ox1 hC76
  replace ox2 := (rSpace_ok NB).ownB ox2 hC76
  replace ox3 := ox3.belowS rInt_ok hC76
  replace ox4 := ox4.belowS rInt_ok hC76
  replace hB := hB.trans (hC76.mono hB.size)
  replace bxM := bxM.below hC76
  replace bxQ := bxQ.below hC76
  replace bxS := bxS.below hC76
  replace bxx0 := bxx0.below hC76
  replace bxx1 := bxx1.below hC76
  replace bxx2 := bxx2.below hC76
  clear HSS68 hC76
  have hdx1 : decide (xQ = xQ) = true := by simp
  go_wp2_with (first | (refine wpList_load_mid rfl 26 _ rfl (w.heap.size) 0 rfl csM _ bxM.range Tryz.underlying26 rfl (by rw [lenM]; exact sizeLawModel) ?_) | (refine wpList_load_mid rfl 44 _ rfl (w43.heap.size) 0 rfl csx0 _ bxx0.range Tryz.underlying44 rfl (by rw [lenx0]; exact sizeModel) ?_))
  have SS78 : ∀ w', Below w74.heap.size w74 w' → (Below w74.heap.size w74 w' ∧ w'.cell? ⟨w.heap.size + 1 + 1, 0, none⟩ = some (.slice ASBoxLow nSBoxLow cSBoxLow) ∧ w'.cell? ⟨w.heap.size + 1 + 1, 1, none⟩ = some (.slice ASBoxHigh nSBoxHigh cSBoxHigh) ∧ w'.cell? ⟨w.heap.size + 1 + 1, 2, none⟩ = some (.slice ASCosts nSCosts cSCosts) ∧ w'.cell? ⟨w.heap.size + 1 + 1, 3, none⟩ = some (.slice ASChoices nSChoices cSChoices) ∧ w'.cell? ⟨w.heap.size + 1 + 1, 4, none⟩ = some (.slice ASPlans nSPlans cSPlans) ∧ w'.cell? ⟨w49.heap.size, 0, none⟩ = some (.slice Ax2BoxLow nx2BoxLow cx2BoxLow) ∧ w'.cell? ⟨w49.heap.size, 1, none⟩ = some (.slice Ax2BoxHigh nx2BoxHigh cx2BoxHigh) ∧ w'.cell? ⟨w49.heap.size, 2, none⟩ = some (.slice Ax2Costs nx2Costs cx2Costs) ∧ w'.cell? ⟨w49.heap.size, 3, none⟩ = some (.slice Ax2Choices nx2Choices cx2Choices) ∧ w'.cell? ⟨w49.heap.size, 4, none⟩ = some (.slice Ax2Plans nx2Plans cx2Plans)) := fun w' hb => ⟨hb, bxS.below hb 0 _ rfl, bxS.below hb 1 _ rfl, bxS.below hb 2 _ rfl, bxS.below hb 3 _ rfl, bxS.below hb 4 _ rfl, bxx2.below hb 0 _ rfl, bxx2.below hb 1 _ rfl, bxx2.below hb 2 _ rfl, bxx2.below hb 3 _ rfl, bxx2.below hb 4 _ rfl⟩
  have HSS78 := Lib.hid SS78; clear SS78
  have tok83 : True := trivial
  have tok87 : True := trivial
  go_region_held3 (fun w' => Below w74.heap.size w74 w' ∧ w'.cell? ⟨w.heap.size + 1 + 1, 0, none⟩ = some (.slice ASBoxLow nSBoxLow cSBoxLow) ∧ w'.cell? ⟨w.heap.size + 1 + 1, 1, none⟩ = some (.slice ASBoxHigh nSBoxHigh cSBoxHigh) ∧ w'.cell? ⟨w.heap.size + 1 + 1, 2, none⟩ = some (.slice ASCosts nSCosts cSCosts) ∧ w'.cell? ⟨w.heap.size + 1 + 1, 3, none⟩ = some (.slice ASChoices nSChoices cSChoices) ∧ w'.cell? ⟨w.heap.size + 1 + 1, 4, none⟩ = some (.slice ASPlans nSPlans cSPlans) ∧ w'.cell? ⟨w49.heap.size, 0, none⟩ = some (.slice Ax2BoxLow nx2BoxLow cx2BoxLow) ∧ w'.cell? ⟨w49.heap.size, 1, none⟩ = some (.slice Ax2BoxHigh nx2BoxHigh cx2BoxHigh) ∧ w'.cell? ⟨w49.heap.size, 2, none⟩ = some (.slice Ax2Costs nx2Costs cx2Costs) ∧ w'.cell? ⟨w49.heap.size, 3, none⟩ = some (.slice Ax2Choices nx2Choices cx2Choices) ∧ w'.cell? ⟨w49.heap.size, 4, none⟩ = some (.slice Ax2Plans nx2Plans cx2Plans)) (first | exact HSS78.out _ (Below.refl _ _).drew | exact HSS78.out _ (by assumption)) (first | (go_at_call 13; have _t := tok83; refine (toSpace_c _ xS _ ((rSpace_ok NB).keep sS (cells_below (hB.trans (Below.mono ((Below.refl w74.heap.size w74).drew) hB.size))))).mono ?_; rintro e w80 ⟨csv79, fv79, rfl, ov79, frv79, hb81⟩; have hC82 : Below w74.heap.size w74 w80 := Below.trans ((Below.refl w74.heap.size w74).drew) (hb81.mono ((Below.refl w74.heap.size w74).drew).size); have Rv79 := (rSpace_ok NB).toRep ov79; clear tok83) | (go_at_call 17; have _t := tok87; refine (eqSpace_c _ _ xS xS _ ((rSpace_ok NB).keep ((rSpace_ok NB).toRep ox2) (cells_below (hC82))) Rv79).mono ?_; rintro e w84 ⟨rfl, hb85⟩; have hC86 : Below w74.heap.size w74 w84 := Below.trans (hC82) (hb85.mono (hC82).size); clear tok87))
  replace ox0 := (rModel_ok NB).ownB ox0 hC86
  replace ox1 := (rQuery_ok NB).ownB ox1 hC86
  replace ox2 := (rSpace_ok NB).ownB ox2 hC86
  replace ox3 := ox3.belowS rInt_ok hC86
  replace ox4 := ox4.belowS rInt_ok hC86
  replace hB := hB.trans (hC86.mono hB.size)
  replace bxM := bxM.below hC86
  replace bxQ := bxQ.below hC86
  replace bxS := bxS.below hC86
  replace bxx0 := bxx0.below hC86
  replace bxx1 := bxx1.below hC86
  replace bxx2 := bxx2.below hC86
  clear HSS78 hC86
  have hdx2 : decide (xS = xS) = true := by simp
  go_wp2_with (first | (refine wpList_load_mid rfl 26 _ rfl (w.heap.size) 0 rfl csM _ bxM.range Tryz.underlying26 rfl (by rw [lenM]; exact sizeLawModel) ?_) | (refine wpList_load_mid rfl 44 _ rfl (w43.heap.size) 0 rfl csx0 _ bxx0.range Tryz.underlying44 rfl (by rw [lenx0]; exact sizeModel) ?_))
  refine (toIntS_c _ _ _ _ _ (sPlans.below rInt_ok hB)).mono ?_
  rintro e w88 ⟨Av90, nv90, cv90, rfl, ⟨fv90, Mv90, frv90⟩, hb89⟩
  replace ox0 := (rModel_ok NB).ownB ox0 hb89
  replace ox1 := (rQuery_ok NB).ownB ox1 hb89
  replace ox2 := (rSpace_ok NB).ownB ox2 hb89
  replace ox3 := ox3.belowS rInt_ok hb89
  replace ox4 := ox4.belowS rInt_ok hb89
  replace hB := hB.trans (hb89.mono hB.size)
  replace bxM := bxM.below hb89
  replace bxQ := bxQ.below hb89
  replace bxS := bxS.below hb89
  replace bxx0 := bxx0.below hb89
  replace bxx1 := bxx1.below hb89
  replace bxx2 := bxx2.below hb89
  clear hb89
  have Rv90 := Mv90.rs rInt_ok
  go_wp2_with (first | (refine wpList_load_mid rfl 26 _ rfl (w.heap.size) 0 rfl csM _ bxM.range Tryz.underlying26 rfl (by rw [lenM]; exact sizeLawModel) ?_) | (refine wpList_load_mid rfl 44 _ rfl (w43.heap.size) 0 rfl csx0 _ bxx0.range Tryz.underlying44 rfl (by rw [lenx0]; exact sizeModel) ?_))
  refine (eqIntS_b _ _ _ _ _ _ _ _ _ (ox3.rs rInt_ok) Rv90).mono ?_
  rintro e w91 ⟨rfl, hb92⟩
  replace ox0 := (rModel_ok NB).ownB ox0 hb92
  replace ox1 := (rQuery_ok NB).ownB ox1 hb92
  replace ox2 := (rSpace_ok NB).ownB ox2 hb92
  replace ox3 := ox3.belowS rInt_ok hb92
  replace ox4 := ox4.belowS rInt_ok hb92
  replace hB := hB.trans (hb92.mono hB.size)
  replace bxM := bxM.below hb92
  replace bxQ := bxQ.below hb92
  replace bxS := bxS.below hb92
  replace bxx0 := bxx0.below hb92
  replace bxx1 := bxx1.below hb92
  replace bxx2 := bxx2.below hb92
  clear hb92
  have hdx3 : decide (lPlans = lPlans) = true := by simp
  go_wp2_with (first | (refine wpList_load_mid rfl 26 _ rfl (w.heap.size) 0 rfl csM _ bxM.range Tryz.underlying26 rfl (by rw [lenM]; exact sizeLawModel) ?_) | (refine wpList_load_mid rfl 44 _ rfl (w43.heap.size) 0 rfl csx0 _ bxx0.range Tryz.underlying44 rfl (by rw [lenx0]; exact sizeModel) ?_))
  refine (toIntS_c _ _ _ _ _ (sFrontier.below rInt_ok hB)).mono ?_
  rintro e w93 ⟨Av95, nv95, cv95, rfl, ⟨fv95, Mv95, frv95⟩, hb94⟩
  replace ox0 := (rModel_ok NB).ownB ox0 hb94
  replace ox1 := (rQuery_ok NB).ownB ox1 hb94
  replace ox2 := (rSpace_ok NB).ownB ox2 hb94
  replace ox3 := ox3.belowS rInt_ok hb94
  replace ox4 := ox4.belowS rInt_ok hb94
  replace hB := hB.trans (hb94.mono hB.size)
  replace bxM := bxM.below hb94
  replace bxQ := bxQ.below hb94
  replace bxS := bxS.below hb94
  replace bxx0 := bxx0.below hb94
  replace bxx1 := bxx1.below hb94
  replace bxx2 := bxx2.below hb94
  clear hb94
  have Rv95 := Mv95.rs rInt_ok
  go_wp2_with (first | (refine wpList_load_mid rfl 26 _ rfl (w.heap.size) 0 rfl csM _ bxM.range Tryz.underlying26 rfl (by rw [lenM]; exact sizeLawModel) ?_) | (refine wpList_load_mid rfl 44 _ rfl (w43.heap.size) 0 rfl csx0 _ bxx0.range Tryz.underlying44 rfl (by rw [lenx0]; exact sizeModel) ?_))
  refine (eqIntS_b _ _ _ _ _ _ _ _ _ (ox4.rs rInt_ok) Rv95).mono ?_
  rintro e w96 ⟨rfl, hb97⟩
  replace ox0 := (rModel_ok NB).ownB ox0 hb97
  replace ox1 := (rQuery_ok NB).ownB ox1 hb97
  replace ox2 := (rSpace_ok NB).ownB ox2 hb97
  replace ox3 := ox3.belowS rInt_ok hb97
  replace ox4 := ox4.belowS rInt_ok hb97
  replace hB := hB.trans (hb97.mono hB.size)
  replace bxM := bxM.below hb97
  replace bxQ := bxQ.below hb97
  replace bxS := bxS.below hb97
  replace bxx0 := bxx0.below hb97
  replace bxx1 := bxx1.below hb97
  replace bxx2 := bxx2.below hb97
  clear hb97
  have hdx4 : decide (lFrontier = lFrontier) = true := by simp
  go_wp2
  go_ret
  exact ⟨rfl, hB⟩

set_option maxRecDepth 100000 in
theorem lifted (os : Os) (started : os.Started) (H : Type) (enc : TypeId × Value → H) :
    ReturnsInHanded {} Tryz.checked os 4 .any (Rows.fnExactIsPlanCoverSpec.pre6 enc Tryz.prog Tryz.f4 Rows.fnExactIsPlanCoverRow.domain false) (Rows.fnExactIsPlanCoverSpec.post enc Tryz.prog Tryz.f4 false true false false) := by
  refine returnsInHanded_of_change (C := Tryz.checked) own started (by kernel_rfl) Tryz.func4
    (ChangeSpec.witness6 (enc := enc) (C := Tryz.checked) false ⟨#[], #[.agg #[.int .i64 0, .int .i64 0, .int .i64 0, .int .i64 0, .int .i64 0, .slice none 0 0, .int .i64 0, .int .i64 0, .int .i64 0, .int .i64 0, .int .i64 0, .slice none 0 0, .int .i64 0, .int .i64 0, .int .i64 0, .int .i64 0, .int .i64 0, .slice none 0 0, .int .i64 0, .int .i64 0, .int .i64 0, .int .i64 0, .int .i64 0, .slice none 0 0, .int .i64 0, .int .i64 0, .int .i64 0, .int .i64 0, .int .i64 0, .slice none 0 0], .agg #[.int .i64 0, .slice none 0 0], .agg #[.slice none 0 0, .slice none 0 0, .slice none 0 0, .slice none 0 0, .slice none 0 0], .slice none 0 0, .slice none 0 0, .int .i64 0], []⟩ 8 (by kernel_rfl) (by kernel_rfl) (by kernel_rfl) (by kernel_rfl)) ?_
  intro W base args ds gs before hval0 hW hcnd _
  have hval : ∀ (j : Nat) t v, Tryz.f4.params[j]? = some t → args[j]? = some v → Value.okWide Tryz.prog W .any base t v := hval0
  have hW' := hW
  obtain ⟨p, q, hA0, hV, rfl, hfz, hnd⟩ := hW
  have hA : DataW.TrodAll enc Tryz.prog W 0 (fun _ => true) true Tryz.f4.params.toList args.toList ds p := hA0
  rw [Tryz.params4] at hA hval
  obtain ⟨v0, vs0, d0, ds0, p0, q0, hargs, rfl, rfl, h0, r0⟩ := trodAll_cons hA
  obtain ⟨v1, vs1, d1, ds1, p1, q1, rfl, rfl, rfl, h1, r1⟩ := trodAll_cons r0
  obtain ⟨v2, vs2, d2, ds2, p2, q2, rfl, rfl, rfl, h2, r2⟩ := trodAll_cons r1
  obtain ⟨v3, vs3, d3, ds3, p3, q3, rfl, rfl, rfl, h3, r3⟩ := trodAll_cons r2
  obtain ⟨v4, vs4, d4, ds4, p4, q4, rfl, rfl, rfl, h4, r4⟩ := trodAll_cons r3
  obtain ⟨v5, vs5, d5, ds5, p5, q5, rfl, rfl, rfl, h5, r5⟩ := trodAll_cons r4
  obtain ⟨rfl, rfl, rfl⟩ := trodAll_nil r5
  obtain rfl : args = #[v0, v1, v2, v3, v4, v5] := by cases args; simp_all
  obtain ⟨rfl, rfl⟩ := trodVars_none hV
  obtain ⟨ca0, rfl, _⟩ := okWide_struct Tryz.underlying26 (hval 0 26 v0 rfl rfl)
  obtain ⟨cl0⟩ := ca0
  have k0 := h0
  have lt0 : ∀ x ∈ p0, x.block < W.heap.size := by obtain ⟨m, hm⟩ := k0; exact DataW.trod_lt m _ _ _ hm
  obtain ⟨x0, g0⟩ : ∃ x, (rModel maxLen).rep W cl0 x := by
    obtain ⟨fuel, hf⟩ := h0
    exact opensModel hf
  obtain ⟨ca1, rfl, _⟩ := okWide_struct Tryz.underlying29 (hval 1 29 v1 rfl rfl)
  obtain ⟨cl1⟩ := ca1
  have k1 := h1
  have lt1 : ∀ x ∈ p1, x.block < W.heap.size := by obtain ⟨m, hm⟩ := k1; exact DataW.trod_lt m _ _ _ hm
  obtain ⟨x1, g1⟩ : ∃ x, (rQuery maxLen).rep W cl1 x := by
    obtain ⟨fuel, hf⟩ := h1
    exact opensQuery hf
  obtain ⟨ca2, rfl, _⟩ := okWide_struct Tryz.underlying35 (hval 2 35 v2 rfl rfl)
  obtain ⟨cl2⟩ := ca2
  have k2 := h2
  have lt2 : ∀ x ∈ p2, x.block < W.heap.size := by obtain ⟨m, hm⟩ := k2; exact DataW.trod_lt m _ _ _ hm
  obtain ⟨x2, g2⟩ : ∃ x, (rSpace maxLen).rep W cl2 x := by
    obtain ⟨fuel, hf⟩ := h2
    exact opensSpace hf
  obtain ⟨A3, n3, c3, rfl⟩ := okWide_slice Tryz.underlying30 (hval 3 30 v3 rfl rfl)
  have k3 := h3
  have lt3 : ∀ x ∈ p3, x.block < W.heap.size := by obtain ⟨m, hm⟩ := k3; exact DataW.trod_lt m _ _ _ hm
  obtain ⟨l3, g3⟩ : ∃ l, RS maxLen rInt W A3 n3 c3 l := by
    obtain ⟨fuel, hf⟩ := h3
    obtain ⟨l, A, n, c, e, hr⟩ := (opens_slice rInt_ok Tryz.underlying30 (by kernel_rfl) (opens_int Tryz.underlying3)) hf
    simp [Value.cells] at e
    obtain ⟨rfl, rfl, rfl⟩ := e
    exact ⟨l, hr⟩
  obtain ⟨A4, n4, c4, rfl⟩ := okWide_slice Tryz.underlying30 (hval 4 30 v4 rfl rfl)
  have k4 := h4
  have lt4 : ∀ x ∈ p4, x.block < W.heap.size := by obtain ⟨m, hm⟩ := k4; exact DataW.trod_lt m _ _ _ hm
  obtain ⟨l4, g4⟩ : ∃ l, RS maxLen rInt W A4 n4 c4 l := by
    obtain ⟨fuel, hf⟩ := h4
    obtain ⟨l, A, n, c, e, hr⟩ := (opens_slice rInt_ok Tryz.underlying30 (by kernel_rfl) (opens_int Tryz.underlying3)) hf
    simp [Value.cells] at e
    obtain ⟨rfl, rfl, rfl⟩ := e
    exact ⟨l, hr⟩
  obtain ⟨a5, rfl, rfl, rfl, w5⟩ := open_int Tryz.underlying3 (hval 5 3 v5 rfl rfl) h5
  clear hA0 hval0
  refine (walk cl0 x0 cl1 x1 cl2 x2 A3 n3 c3 l3 A4 n4 c4 l4 a5 W g0 g1 g2 g3 g4 (bounds_i64 w5)).mono fun e W' ⟨he, bel⟩ => ?_
  subst he
  exact ⟨_, rfl, _, _, _, [], _, [], hW', trodAll_mk1 (shut_bool Tryz.underlying4 _), (trodAll_cons_mk (Below.trod laidOut (by kernel_rfl) (of_decide_eq_true (by kernel_rfl)) k0 bel lt0) (trodAll_cons_mk (Below.trod laidOut (by kernel_rfl) (of_decide_eq_true (by kernel_rfl)) k1 bel lt1) (trodAll_cons_mk (Below.trod laidOut (by kernel_rfl) (of_decide_eq_true (by kernel_rfl)) k2 bel lt2) (trodAll_cons_mk (Below.trod laidOut (by kernel_rfl) (of_decide_eq_true (by kernel_rfl)) k3 bel lt3) (trodAll_cons_mk (Below.trod laidOut (by kernel_rfl) (of_decide_eq_true (by kernel_rfl)) k4 bel lt4) (trodAll_cons_mk (shut_int Tryz.underlying3 w5) trodAll_mk0)))))), rfl, bel.frame _, fun h => by cases h⟩

theorem over : Rows.fnExactIsPlanCoverRow.holds Tryz.pinned (OpenSpec.ofChange Rows.fnExactIsPlanCoverSpec) :=
  OpenClaim.holds_of_wide 4 Tryz.f4 rfl rfl rfl rfl rfl rfl rfl ⟨rfl, rfl, rfl, rfl, rfl⟩ rfl rfl rfl rfl rfl (by kernel_rfl) Tryz.func4 (by kernel_rfl)
    (of_decide_eq_true (by kernel_rfl)) (by unfold Func.isWrapper; first | (rw [if_pos (by decide +kernel)]; kernel_rfl) | (rw [if_neg (by decide +kernel)]; exact ⟨rfl, rfl⟩))
    (fun os started H enc _ => lifted os started H enc)

theorem proved : Rows.FnExactIsPlanCoverSaid := over
#print axioms proved
end Go.Proofs.YtpdccgnapgneaaaGreat.fnExactIsPlanCover
