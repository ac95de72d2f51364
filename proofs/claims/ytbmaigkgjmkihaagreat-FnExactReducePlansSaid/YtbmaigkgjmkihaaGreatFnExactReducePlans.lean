/-
  FnExactReducePlans
-/
import Derived.Test.YtbmaigkgjmkihaaGreatRows
import Derived.Test.YtbmaigkgjmkihaaGreatKeep
import Derived.Test.YtbmaigkgjmkihaaGreatRed
import Derived.Test.YtbmaigkgjmkihaaGreatRei
import Derived.Test.YtbmaigkgjmkihaaGreatToM
import Derived.Test.YtbmaigkgjmkihaaGreatOpens
import Derived.Test.YtbmaigkgjmkihaaGreatTo
import Derived.Test.YtbmaigkgjmkihaaGreatEq
import Derived.WalkKit
import Derived.ProofKit
import Derived.OpenShut
import Derived.ShutString
import Derived.ChangeOld
import Derived.Below
import Derived.Deep.RegionHeld3
import Derived.Test.YtbmaigkgjmkihaaGreatMark
import Derived.Test.YtbmaigkgjmkihaaGreatMarkC
namespace Go.Proofs.YtbmaigkgjmkihaaGreat.fnExactReducePlans
open Go.ChangeShapes Go.WideShapes Go.ChangeAt Go.RowKit
open Go.ChangeMaps (open_string shut_string)
set_option linter.unusedVariables false
set_option linter.unusedSimpArgs false

theorem sizeLawModel : (Tryz.prog.info? 26).map (·.size) = some 30 := by kernel_rfl
theorem own : ownKnob Tryz.prog.godebug = none := by kernel_rfl
theorem laidOut : laidOutB Tryz.prog = true := by kernel_rfl

set_option maxRecDepth 100000 in
set_option maxHeartbeats 4000000 in
theorem walk (csM : List Value) (xM : ModelD) (csQ : List Value) (xQ : QueryD) (csS : List Value) (xS : SpaceD) (AFrontier : Option Addr) (nFrontier kFrontier : Nat) (lFrontier : List Int) (aBudget : Int) (w : World) (rM : (rModel maxLen).rep w csM xM) (rQ : (rQuery maxLen).rep w csQ xQ) (rS : (rSpace maxLen).rep w csS xS) (rFrontier : RS maxLen rInt w AFrontier nFrontier kFrontier lFrontier) (iBudget : I64 aBudget) :
  Calls Tryz.prog 3 #[.agg csM.toArray, .agg csQ.toArray, .agg csS.toArray, .slice AFrontier nFrontier kFrontier, .int .i64 aBudget] w fun e w' => e = .returned (.bool true) ∧ Below w.heap.size w w' := by
 have hB : Below w.heap.size w w := Below.refl _ _
 have lenM : csM.length = 30 := (rModel_ok maxLen).len rM
 have qQ := rQ
 obtain ⟨AQAtoms, nQAtoms, cQAtoms, rfl, hQVariableCount, hQAtoms⟩ := rQuery_rep.1 qQ
 clear qQ
 have qS := rS
 obtain ⟨ASBoxLow, nSBoxLow, cSBoxLow, ASBoxHigh, nSBoxHigh, cSBoxHigh, ASCosts, nSCosts, cSCosts, ASChoices, nSChoices, cSChoices, ASPlans, nSPlans, cSPlans, rfl, hSBoxLow, hSBoxHigh, hSCosts, hSChoices, hSPlans⟩ := rSpace_rep.1 qS
 clear qS
 have hnFrontier : nFrontier ≤ 9223372036854775807 := rFrontier.nb
 by_cases hszFrontier : nFrontier ≤ 1048576
 rotate_left
 ·go_enter Tryz.func3, Tryz.ntmps3
  go_wp2
  go_ret
  exact ⟨rfl, (by repeat' (first | with_reducible exact hB | with_reducible refine Below.setCell ?_ ?_ _ | with_reducible refine Below.alloc ?_ ?_ _ | (simp; done) | (simp; omega) | omega))⟩
 have sFrontier := smallIntS rFrontier (by have := rFrontier.len; omega)
 go_enter Tryz.func3, Tryz.ntmps3
 have hA1 := (Below.refl (World.heap (w)).size (w)).alloc (Nat.le_refl _) (.cells csM.toArray 26)
 replace hB := hB.trans (hA1.mono hB.size)
 have bxM := Bx.new (w) csM 26
 clear hA1
 have hA2 := (Below.refl (World.heap ((w).alloc (.cells csM.toArray 26))).size ((w).alloc (.cells csM.toArray 26))).alloc (Nat.le_refl _) (.cells #[.int .i64 xQ.fVariableCount, .slice AQAtoms nQAtoms cQAtoms] 29)
 replace hB := hB.trans (hA2.mono hB.size)
 replace bxM := bxM.below hA2
 have bxQ := Bx.new ((w).alloc (.cells csM.toArray 26)) [.int .i64 xQ.fVariableCount, .slice AQAtoms nQAtoms cQAtoms] 29
 simp only [World.size_alloc] at bxQ
 clear hA2
 have hA3 := (Below.refl (World.heap (((w).alloc (.cells csM.toArray 26)).alloc (.cells #[.int .i64 xQ.fVariableCount, .slice AQAtoms nQAtoms cQAtoms] 29))).size (((w).alloc (.cells csM.toArray 26)).alloc (.cells #[.int .i64 xQ.fVariableCount, .slice AQAtoms nQAtoms cQAtoms] 29))).alloc (Nat.le_refl _) (.cells #[.slice ASBoxLow nSBoxLow cSBoxLow, .slice ASBoxHigh nSBoxHigh cSBoxHigh, .slice ASCosts nSCosts cSCosts, .slice ASChoices nSChoices cSChoices, .slice ASPlans nSPlans cSPlans] 35)
 replace hB := hB.trans (hA3.mono hB.size)
 replace bxM := bxM.below hA3
 replace bxQ := bxQ.below hA3
 have bxS := Bx.new (((w).alloc (.cells csM.toArray 26)).alloc (.cells #[.int .i64 xQ.fVariableCount, .slice AQAtoms nQAtoms cQAtoms] 29)) [.slice ASBoxLow nSBoxLow cSBoxLow, .slice ASBoxHigh nSBoxHigh cSBoxHigh, .slice ASCosts nSCosts cSCosts, .slice ASChoices nSChoices cSChoices, .slice ASPlans nSPlans cSPlans] 35
 simp only [World.size_alloc] at bxS
 clear hA3
 go_wp2_with (first | (refine wpList_load_mid rfl 26 _ rfl (w.heap.size) 0 rfl csM _ bxM.range Tryz.underlying26 rfl (by rw [lenM]; exact sizeLawModel) ?_))
 refine (szModel_c _ xM _ _ ((rModel_ok maxLen).keep rM (cells_below hB)) (by omega) (by omega)).mono ?_
 rintro e w5 ⟨rfl, hb4⟩
 have z6 := hb4.size
 try simp only [setCells_kit, setCells_size, World.size_alloc] at z6
 have Hz6 := Lib.hid z6; clear z6
 replace hB := hB.trans (hb4.mono hB.size)
 replace bxM := bxM.below hb4
 replace bxQ := bxQ.below hb4
 replace bxS := bxS.below hb4
 clear hb4
 by_cases hszM : ((bulkModel xM : Nat) : Int) ≤ 1048576
 rotate_left
 ·rw [lessBy_no hszM]
  go_wp2
  go_ret
  exact ⟨rfl, hB⟩
 rw [lessBy_yes hszM]
 have sM := smallModel rM (by omega)
 obtain ⟨L7, hL7⟩ : ∃ L : Int, L = 1048576 - ((bulkModel xM : Nat) : Int) := ⟨_, rfl⟩
 rw [← hL7]
 have pL7 : 0 ≤ L7 := by omega
 have uL7 : L7 ≤ 1048576 := by omega
 clear hL7
 have cbxQ_0 := bxQ 0 _ rfl
 have cbxQ_1 := bxQ 1 _ rfl
 go_wp2_with (first | (refine wpList_load_mid rfl 26 _ rfl (w.heap.size) 0 rfl csM _ bxM.range Tryz.underlying26 rfl (by rw [lenM]; exact sizeLawModel) ?_))
 refine (szQuery_c _ xQ _ _ ((rQuery_ok maxLen).keep rQ (cells_below hB)) (by omega) (by omega)).mono ?_
 rintro e w9 ⟨rfl, hb8⟩
 have z10 := hb8.size
 try simp only [setCells_kit, setCells_size, World.size_alloc] at z10
 have Hz10 := Lib.hid z10; clear z10
 replace hB := hB.trans (hb8.mono hB.size)
 replace bxM := bxM.below hb8
 replace bxQ := bxQ.below hb8
 replace bxS := bxS.below hb8
 clear hb8 cbxQ_0 cbxQ_1
 by_cases hszQ : ((bulkQuery xQ : Nat) : Int) ≤ L7
 rotate_left
 ·rw [lessBy_no hszQ]
  go_wp2
  go_ret
  exact ⟨rfl, hB⟩
 rw [lessBy_yes hszQ]
 have sQ := smallQuery rQ (by omega)
 obtain ⟨L11, hL11⟩ : ∃ L : Int, L = L7 - ((bulkQuery xQ : Nat) : Int) := ⟨_, rfl⟩
 rw [← hL11]
 have pL11 : 0 ≤ L11 := by omega
 have uL11 : L11 ≤ 1048576 := by omega
 clear hL11
 have cbxS_0 := bxS 0 _ rfl
 have cbxS_1 := bxS 1 _ rfl
 have cbxS_2 := bxS 2 _ rfl
 have cbxS_3 := bxS 3 _ rfl
 have cbxS_4 := bxS 4 _ rfl
 go_wp2_with (first | (refine wpList_load_mid rfl 26 _ rfl (w.heap.size) 0 rfl csM _ bxM.range Tryz.underlying26 rfl (by rw [lenM]; exact sizeLawModel) ?_))
 refine (szSpace_c _ xS _ _ ((rSpace_ok maxLen).keep rS (cells_below hB)) (by omega) (by omega)).mono ?_
 rintro e w13 ⟨rfl, hb12⟩
 have z14 := hb12.size
 try simp only [setCells_kit, setCells_size, World.size_alloc] at z14
 have Hz14 := Lib.hid z14; clear z14
 replace hB := hB.trans (hb12.mono hB.size)
 replace bxM := bxM.below hb12
 replace bxQ := bxQ.below hb12
 replace bxS := bxS.below hb12
 clear hb12 cbxS_0 cbxS_1 cbxS_2 cbxS_3 cbxS_4
 by_cases hszS : ((bulkSpace xS : Nat) : Int) ≤ L11
 rotate_left
 ·rw [lessBy_no hszS]
  go_wp2
  go_ret
  exact ⟨rfl, hB⟩
 rw [lessBy_yes hszS]
 have sS := smallSpace rS (by omega)
 obtain ⟨L15, hL15⟩ : ∃ L : Int, L = L11 - ((bulkSpace xS : Nat) : Int) := ⟨_, rfl⟩
 rw [← hL15]
 have pL15 : 0 ≤ L15 := by omega
 have uL15 : L15 ≤ 1048576 := by omega
 clear hL15
 go_wp2_with (first | (refine wpList_load_mid rfl 26 _ rfl (w.heap.size) 0 rfl csM _ bxM.range Tryz.underlying26 rfl (by rw [lenM]; exact sizeLawModel) ?_))
 have SS16 : ∀ w', Below w13.heap.size w13 w' → (Below w13.heap.size w13 w' ∧ w'.rangeAt (w.heap.size) 0 csM ∧ w'.cell? ⟨w.heap.size + 1, 0, none⟩ = some (.int .i64 xQ.fVariableCount) ∧ w'.cell? ⟨w.heap.size + 1, 1, none⟩ = some (.slice AQAtoms nQAtoms cQAtoms) ∧ w'.cell? ⟨w.heap.size + 1 + 1, 0, none⟩ = some (.slice ASBoxLow nSBoxLow cSBoxLow) ∧ w'.cell? ⟨w.heap.size + 1 + 1, 1, none⟩ = some (.slice ASBoxHigh nSBoxHigh cSBoxHigh) ∧ w'.cell? ⟨w.heap.size + 1 + 1, 2, none⟩ = some (.slice ASCosts nSCosts cSCosts) ∧ w'.cell? ⟨w.heap.size + 1 + 1, 3, none⟩ = some (.slice ASChoices nSChoices cSChoices) ∧ w'.cell? ⟨w.heap.size + 1 + 1, 4, none⟩ = some (.slice ASPlans nSPlans cSPlans)) := fun w' hb => ⟨hb, (bxM.below hb).range, bxQ.below hb 0 _ rfl, bxQ.below hb 1 _ rfl, bxS.below hb 0 _ rfl, bxS.below hb 1 _ rfl, bxS.below hb 2 _ rfl, bxS.below hb 3 _ rfl, bxS.below hb 4 _ rfl⟩
 have HSS16 := Lib.hid SS16; clear SS16
 refine hbg HSS16.out (Below.refl _ _).drew (fun hHeld => ?_)
 refine' wpAnyH_take (i := 0) (oi := ⟨some 40,_,_,_,_,_⟩) (v := _) rfl (by kernel_rfl) (by kernel_rfl) (by kernel_rfl) (fun _ _ _ h => h) (yieldsIf_load_mid (by rfl) _ _ rfl _ _ rfl _ _ (fun w h => h.2.1) Tryz.underlying26 rfl (by rw [lenM]; exact sizeLawModel)) hHeld ?_
 simp only [putS]
 refine tka 2 42 hHeld ?_; simp only [putS]
 refine tka 4 44 hHeld ?_; simp only [putS]
 refine tka 6 46 hHeld ?_; simp only [putS]
 refine tka 8 48 hHeld ?_; simp only [putS]
 refine wpAnyH_ready (rs := [1]) (by kernel_rfl) (by simp) ?_
 refine AllReadyH.cons (o := ⟨some 41, _, _, _, _, _⟩) rfl (fun K hK => ?_) AllReadyH.nil
 clear hHeld
 go_simp
 refine (toModel_c _ xM _ ((rModel_ok NB).keep sM (cells_below (hB.trans (Below.mono ((Below.refl w13.heap.size w13).drew) hB.size))))).mono ?_
 rintro e w18 ⟨csv17, fv17, rfl, ov17, frv17, hb19⟩
 have hC20 : Below w13.heap.size w13 w18 := Below.trans ((Below.refl w13.heap.size w13).drew) (hb19.mono ((Below.refl w13.heap.size w13).drew).size)
 have Rv17 := (rModel_ok NB).toRep ov17
 go_wp2_with fail
 refine hK.out _ _ (HSS16.out _ hC20) (fun hHeld => ?_)
 clear hK K
 try simp only [putS]
 refine wpAnyH_ready (rs := [3]) (by kernel_rfl) (by simp) ?_
 refine AllReadyH.cons (o := ⟨some 43, _, _, _, _, _⟩) rfl (fun K hK => ?_) AllReadyH.nil
 clear hHeld
 go_simp
 refine (toQuery_c _ xQ _ ((rQuery_ok NB).keep sQ (cells_below (hB.trans (Below.mono (hC20) hB.size))))).mono ?_
 rintro e w23 ⟨csv22, fv22, rfl, ov22, frv22, hb24⟩
 have hC25 : Below w13.heap.size w13 w23 := Below.trans (hC20) (hb24.mono (hC20).size)
 have Rv22 := (rQuery_ok NB).toRep ov22
 replace Rv17 := (rModel_ok NB).keep Rv17 (cells_below hb24)
 go_wp2_with fail
 refine hK.out _ _ (HSS16.out _ hC25) (fun hHeld => ?_)
 clear hK K
 try simp only [putS]
 refine wpAnyH_ready (rs := [5]) (by kernel_rfl) (by simp) ?_
 refine AllReadyH.cons (o := ⟨some 45, _, _, _, _, _⟩) rfl (fun K hK => ?_) AllReadyH.nil
 clear hHeld
 go_simp
 refine (toSpace_c _ xS _ ((rSpace_ok NB).keep sS (cells_below (hB.trans (Below.mono (hC25) hB.size))))).mono ?_
 rintro e w28 ⟨csv27, fv27, rfl, ov27, frv27, hb29⟩
 have hC30 : Below w13.heap.size w13 w28 := Below.trans (hC25) (hb29.mono (hC25).size)
 have Rv27 := (rSpace_ok NB).toRep ov27
 replace Rv17 := (rModel_ok NB).keep Rv17 (cells_below hb29)
 replace Rv22 := (rQuery_ok NB).keep Rv22 (cells_below hb29)
 go_wp2_with fail
 refine hK.out _ _ (HSS16.out _ hC30) (fun hHeld => ?_)
 clear hK K
 try simp only [putS]
 refine wpAnyH_ready (rs := [7]) (by kernel_rfl) (by simp) ?_
 refine AllReadyH.cons (o := ⟨some 47, _, _, _, _, _⟩) rfl (fun K hK => ?_) AllReadyH.nil
 clear hHeld
 go_simp
 refine (toIntS_c _ _ _ _ _ (sFrontier.below rInt_ok (hB.trans (Below.mono (hC30) hB.size)))).mono ?_
 rintro e w33 ⟨Av32, nv32, cv32, rfl, ⟨fv32, Mv32, frv32⟩, hb34⟩
 have hC35 : Below w13.heap.size w13 w33 := Below.trans (hC30) (hb34.mono (hC30).size)
 have Rv32 := Mv32.rs rInt_ok
 replace Rv17 := (rModel_ok NB).keep Rv17 (cells_below hb34)
 replace Rv22 := (rQuery_ok NB).keep Rv22 (cells_below hb34)
 replace Rv27 := (rSpace_ok NB).keep Rv27 (cells_below hb34)
 go_wp2_with fail
 refine hK.out _ _ (HSS16.out _ hC35) (fun hHeld => ?_)
 clear hK K
 try simp only [putS]
 refine wpAnyH_ready (rs := [9]) (by kernel_rfl) (by simp) ?_
 refine AllReadyH.cons (o := ⟨some 49, _, _, _, _, _⟩) rfl (fun K hK => ?_) AllReadyH.nil
 clear hHeld
 go_simp
 refine (sReducePlans_c _ xM _ xQ _ xS _ _ _ _ _ _ Rv17 Rv22 Rv27 Rv32).mono ?_
 rintro e w37 ⟨Aw0, nw0, cw0, rfl, ⟨fw0, ow0, frw0⟩, hb38⟩
 have hC39 : Below w13.heap.size w13 w37 := Below.trans (hC35) (hb38.mono (hC35).size)
 go_wp2_with fail
 refine hK.out _ _ (HSS16.out _ hC39) (fun hHeld => ?_)
 clear hK K
 try simp only [putS]
 refine tka 10 12 hHeld ?_; simp only [putS]
 refine wpAnyH_done (by kernel_rfl) ?_ _
 clear hHeld
 have z41 := hC39.size
 try simp only [setCells_kit, setCells_size, World.size_alloc] at z41
 have Hz41 := Lib.hid z41; clear z41
 replace hB := hB.trans (hC39.mono hB.size)
 replace bxM := bxM.below hC39
 replace bxQ := bxQ.below hC39
 replace bxS := bxS.below hC39
 clear HSS16 hC39
 have ltw0 := Lib.hid (ow0.lt rInt_ok)
 have fsw0 := frw0
 have HFw0 : Hid (∀ k ∈ fw0, _ ≤ k) := fsw0.ge
 try simp only [setCells_kit, setCells_size, World.size_alloc] at HFw0
 have ndw0 := fsw0.nd; have NDw0 := Lib.hid ndw0; clear ndw0 fsw0
 go_wp2_with (first | (refine wpList_load_mid rfl 26 _ rfl (w.heap.size) 0 rfl csM _ bxM.range Tryz.underlying26 rfl (by rw [lenM]; exact sizeLawModel) ?_))
 refine (toModel_c _ xM _ ((rModel_ok NB).keep sM (cells_below hB))).mono ?_
 rintro e w42 ⟨csx0, fx0, rfl, ox0, frx0, hb43⟩
 have z44 := hb43.size
 try simp only [setCells_kit, setCells_size, World.size_alloc] at z44
 have Hz44 := Lib.hid z44; clear z44
 replace ow0 := ow0.belowS rInt_ok hb43
 replace hB := hB.trans (hb43.mono hB.size)
 replace bxM := bxM.below hb43
 replace bxQ := bxQ.below hb43
 replace bxS := bxS.below hb43
 clear hb43
 have ltx0 := Lib.hid ((rModel_ok NB).lt ox0)
 have fsx0 := frx0
 have HFx0 : Hid (∀ k ∈ fx0, _ ≤ k) := fsx0.ge
 try simp only [setCells_kit, setCells_size, World.size_alloc] at HFx0
 have ndx0 := fsx0.nd; have NDx0 := Lib.hid ndx0; clear ndx0 fsx0
 have lenx0 : csx0.length = 30 := (rModel_ok NB).len ((rModel_ok NB).toRep ox0)
 have hA45 : Below w42.heap.size w42 (World.setCells (w42.alloc (.cells #[.int .i64 0, .int .i64 0, .int .i64 0, .int .i64 0, .int .i64 0, .slice none 0 0, .int .i64 0, .int .i64 0, .int .i64 0, .int .i64 0, .int .i64 0, .slice none 0 0, .int .i64 0, .int .i64 0, .int .i64 0, .int .i64 0, .int .i64 0, .slice none 0 0, .int .i64 0, .int .i64 0, .int .i64 0, .int .i64 0, .int .i64 0, .slice none 0 0, .int .i64 0, .int .i64 0, .int .i64 0, .int .i64 0, .int .i64 0, .slice none 0 0] 44)) w42.heap.size 0 csx0) := by rw [setCells_kit]; exact Below.setCells ((Below.refl _ _).alloc (Nat.le_refl _) _) (Nat.le_refl _) _ _
 replace ow0 := ow0.belowS rInt_ok hA45
 replace ox0 := (rModel_ok NB).ownB ox0 hA45
 replace hB := hB.trans (hA45.mono hB.size)
 replace bxM := bxM.below hA45
 replace bxQ := bxQ.below hA45
 replace bxS := bxS.below hA45
 have bxx0 : Bx (World.setCells (w42.alloc (.cells #[.int .i64 0, .int .i64 0, .int .i64 0, .int .i64 0, .int .i64 0, .slice none 0 0, .int .i64 0, .int .i64 0, .int .i64 0, .int .i64 0, .int .i64 0, .slice none 0 0, .int .i64 0, .int .i64 0, .int .i64 0, .int .i64 0, .int .i64 0, .slice none 0 0, .int .i64 0, .int .i64 0, .int .i64 0, .int .i64 0, .int .i64 0, .slice none 0 0, .int .i64 0, .int .i64 0, .int .i64 0, .int .i64 0, .int .i64 0, .slice none 0 0] 44)) w42.heap.size 0 csx0) w42.heap.size csx0 := by rw [setCells_kit]; exact ((Bk.new w42 [.int .i64 0, .int .i64 0, .int .i64 0, .int .i64 0, .int .i64 0, .slice none 0 0, .int .i64 0, .int .i64 0, .int .i64 0, .int .i64 0, .int .i64 0, .slice none 0 0, .int .i64 0, .int .i64 0, .int .i64 0, .int .i64 0, .int .i64 0, .slice none 0 0, .int .i64 0, .int .i64 0, .int .i64 0, .int .i64 0, .int .i64 0, .slice none 0 0, .int .i64 0, .int .i64 0, .int .i64 0, .int .i64 0, .int .i64 0, .slice none 0 0] 44).fill lenx0).bx
 have Onex0 := all_oneCell_toArray ((rModel_ok NB).one ((rModel_ok NB).toRep ox0))
 have Thex0 : (w42.alloc (.cells #[.int .i64 0, .int .i64 0, .int .i64 0, .int .i64 0, .int .i64 0, .slice none 0 0, .int .i64 0, .int .i64 0, .int .i64 0, .int .i64 0, .int .i64 0, .slice none 0 0, .int .i64 0, .int .i64 0, .int .i64 0, .int .i64 0, .int .i64 0, .slice none 0 0, .int .i64 0, .int .i64 0, .int .i64 0, .int .i64 0, .int .i64 0, .slice none 0 0, .int .i64 0, .int .i64 0, .int .i64 0, .int .i64 0, .int .i64 0, .slice none 0 0] 44)).there w42.heap.size 0 csx0.toArray.size := by rw [show csx0.toArray.size = 30 from List.size_toArray.trans lenx0]; exact (Bk.new w42 [.int .i64 0, .int .i64 0, .int .i64 0, .int .i64 0, .int .i64 0, .slice none 0 0, .int .i64 0, .int .i64 0, .int .i64 0, .int .i64 0, .int .i64 0, .slice none 0 0, .int .i64 0, .int .i64 0, .int .i64 0, .int .i64 0, .int .i64 0, .slice none 0 0, .int .i64 0, .int .i64 0, .int .i64 0, .int .i64 0, .int .i64 0, .slice none 0 0, .int .i64 0, .int .i64 0, .int .i64 0, .int .i64 0, .int .i64 0, .slice none 0 0] 44).there
 clear hA45
 have cbxQ_0 := bxQ 0 _ rfl
 have cbxQ_1 := bxQ 1 _ rfl
 go_wp2_with (first | (refine wpList_store_mid rfl 44 _ _ rfl (w42.heap.size) 0 (List.toArray csx0) rfl rfl Thex0 (by rw [show csx0.toArray.size = 30 from List.size_toArray.trans lenx0]; exact sizeModel) Onex0 ?_) | (refine wpList_load_mid rfl 26 _ rfl (w.heap.size) 0 rfl csM _ bxM.range Tryz.underlying26 rfl (by rw [lenM]; exact sizeLawModel) ?_) | (refine wpList_load_mid rfl 44 _ rfl (w42.heap.size) 0 rfl csx0 _ bxx0.range Tryz.underlying44 rfl (by rw [lenx0]; exact sizeModel) ?_))
 clear Onex0 Thex0
 refine (toQuery_c _ xQ _ ((rQuery_ok NB).keep sQ (cells_below hB))).mono ?_
 rintro e w46 ⟨csx1, fx1, rfl, ox1, frx1, hb47⟩
 have z48 := hb47.size
 try simp only [setCells_kit, setCells_size, World.size_alloc] at z48
 have Hz48 := Lib.hid z48; clear z48
 replace ow0 := ow0.belowS rInt_ok hb47
 replace ox0 := (rModel_ok NB).ownB ox0 hb47
 replace hB := hB.trans (hb47.mono hB.size)
 replace bxM := bxM.below hb47
 replace bxQ := bxQ.below hb47
 replace bxS := bxS.below hb47
 replace bxx0 := bxx0.below hb47
 clear hb47 cbxQ_0 cbxQ_1
 have ltx1 := Lib.hid ((rQuery_ok NB).lt ox1)
 have fsx1 := frx1
 have HFx1 : Hid (∀ k ∈ fx1, _ ≤ k) := fsx1.ge
 try simp only [setCells_kit, setCells_size, World.size_alloc] at HFx1
 have ndx1 := fsx1.nd; have NDx1 := Lib.hid ndx1; clear ndx1 fsx1
 obtain ⟨Ax1Atoms, nx1Atoms, cx1Atoms, rfl, _, _⟩ := rQuery_rep.1 ((rQuery_ok NB).toRep ox1)
 have hA49 := (Below.refl w46.heap.size w46).alloc (Nat.le_refl _) (.cells #[.int .i64 xQ.fVariableCount, .slice Ax1Atoms nx1Atoms cx1Atoms] 48)
 replace ow0 := ow0.belowS rInt_ok hA49
 replace ox0 := (rModel_ok NB).ownB ox0 hA49
 replace ox1 := (rQuery_ok NB).ownB ox1 hA49
 replace hB := hB.trans (hA49.mono hB.size)
 replace bxM := bxM.below hA49
 replace bxQ := bxQ.below hA49
 replace bxS := bxS.below hA49
 replace bxx0 := bxx0.below hA49
 have bxx1 := Bx.new w46 [.int .i64 xQ.fVariableCount, .slice Ax1Atoms nx1Atoms cx1Atoms] 48
 clear hA49
 have cbxS_0 := bxS 0 _ rfl
 have cbxS_1 := bxS 1 _ rfl
 have cbxS_2 := bxS 2 _ rfl
 have cbxS_3 := bxS 3 _ rfl
 have cbxS_4 := bxS 4 _ rfl
 go_wp2_with (first | (refine wpList_load_mid rfl 26 _ rfl (w.heap.size) 0 rfl csM _ bxM.range Tryz.underlying26 rfl (by rw [lenM]; exact sizeLawModel) ?_) | (refine wpList_load_mid rfl 44 _ rfl (w42.heap.size) 0 rfl csx0 _ bxx0.range Tryz.underlying44 rfl (by rw [lenx0]; exact sizeModel) ?_))
 refine (toSpace_c _ xS _ ((rSpace_ok NB).keep sS (cells_below hB))).mono ?_
 rintro e w50 ⟨csx2, fx2, rfl, ox2, frx2, hb51⟩
 have z52 := hb51.size
 try simp only [setCells_kit, setCells_size, World.size_alloc] at z52
 have Hz52 := Lib.hid z52; clear z52
 replace ow0 := ow0.belowS rInt_ok hb51
 replace ox0 := (rModel_ok NB).ownB ox0 hb51
 replace ox1 := (rQuery_ok NB).ownB ox1 hb51
 replace hB := hB.trans (hb51.mono hB.size)
 replace bxM := bxM.below hb51
 replace bxQ := bxQ.below hb51
 replace bxS := bxS.below hb51
 replace bxx0 := bxx0.below hb51
 replace bxx1 := bxx1.below hb51
 clear hb51 cbxS_0 cbxS_1 cbxS_2 cbxS_3 cbxS_4
 have ltx2 := Lib.hid ((rSpace_ok NB).lt ox2)
 have fsx2 := frx2
 have HFx2 : Hid (∀ k ∈ fx2, _ ≤ k) := fsx2.ge
 try simp only [setCells_kit, setCells_size, World.size_alloc] at HFx2
 have ndx2 := fsx2.nd; have NDx2 := Lib.hid ndx2; clear ndx2 fsx2
 obtain ⟨Ax2BoxLow, nx2BoxLow, cx2BoxLow, Ax2BoxHigh, nx2BoxHigh, cx2BoxHigh, Ax2Costs, nx2Costs, cx2Costs, Ax2Choices, nx2Choices, cx2Choices, Ax2Plans, nx2Plans, cx2Plans, rfl, _, _, _, _, _⟩ := rSpace_rep.1 ((rSpace_ok NB).toRep ox2)
 have hA53 := (Below.refl w50.heap.size w50).alloc (Nat.le_refl _) (.cells #[.slice Ax2BoxLow nx2BoxLow cx2BoxLow, .slice Ax2BoxHigh nx2BoxHigh cx2BoxHigh, .slice Ax2Costs nx2Costs cx2Costs, .slice Ax2Choices nx2Choices cx2Choices, .slice Ax2Plans nx2Plans cx2Plans] 53)
 replace ow0 := ow0.belowS rInt_ok hA53
 replace ox0 := (rModel_ok NB).ownB ox0 hA53
 replace ox1 := (rQuery_ok NB).ownB ox1 hA53
 replace ox2 := (rSpace_ok NB).ownB ox2 hA53
 replace hB := hB.trans (hA53.mono hB.size)
 replace bxM := bxM.below hA53
 replace bxQ := bxQ.below hA53
 replace bxS := bxS.below hA53
 replace bxx0 := bxx0.below hA53
 replace bxx1 := bxx1.below hA53
 have bxx2 := Bx.new w50 [.slice Ax2BoxLow nx2BoxLow cx2BoxLow, .slice Ax2BoxHigh nx2BoxHigh cx2BoxHigh, .slice Ax2Costs nx2Costs cx2Costs, .slice Ax2Choices nx2Choices cx2Choices, .slice Ax2Plans nx2Plans cx2Plans] 53
 clear hA53
 go_wp2_with (first | (refine wpList_load_mid rfl 26 _ rfl (w.heap.size) 0 rfl csM _ bxM.range Tryz.underlying26 rfl (by rw [lenM]; exact sizeLawModel) ?_) | (refine wpList_load_mid rfl 44 _ rfl (w42.heap.size) 0 rfl csx0 _ bxx0.range Tryz.underlying44 rfl (by rw [lenx0]; exact sizeModel) ?_))
 refine (toIntS_c _ _ _ _ _ (sFrontier.below rInt_ok hB)).mono ?_
 rintro e w54 ⟨Ax3, nx3, cx3, rfl, ⟨fx3, ox3, frx3⟩, hb55⟩
 have z56 := hb55.size
 try simp only [setCells_kit, setCells_size, World.size_alloc] at z56
 have Hz56 := Lib.hid z56; clear z56
 replace ow0 := ow0.belowS rInt_ok hb55
 replace ox0 := (rModel_ok NB).ownB ox0 hb55
 replace ox1 := (rQuery_ok NB).ownB ox1 hb55
 replace ox2 := (rSpace_ok NB).ownB ox2 hb55
 replace hB := hB.trans (hb55.mono hB.size)
 replace bxM := bxM.below hb55
 replace bxQ := bxQ.below hb55
 replace bxS := bxS.below hb55
 replace bxx0 := bxx0.below hb55
 replace bxx1 := bxx1.below hb55
 replace bxx2 := bxx2.below hb55
 clear hb55
 have ltx3 := Lib.hid (ox3.lt rInt_ok)
 have fsx3 := frx3
 have HFx3 : Hid (∀ k ∈ fx3, _ ≤ k) := fsx3.ge
 try simp only [setCells_kit, setCells_size, World.size_alloc] at HFx3
 have ndx3 := fsx3.nd; have NDx3 := Lib.hid ndx3; clear ndx3 fsx3
 have cbxx1_0 := bxx1 0 _ rfl
 have cbxx1_1 := bxx1 1 _ rfl
 have cbxx2_0 := bxx2 0 _ rfl
 have cbxx2_1 := bxx2 1 _ rfl
 have cbxx2_2 := bxx2 2 _ rfl
 have cbxx2_3 := bxx2 3 _ rfl
 have cbxx2_4 := bxx2 4 _ rfl
 go_wp2_with (first | (refine wpList_load_mid rfl 26 _ rfl (w.heap.size) 0 rfl csM _ bxM.range Tryz.underlying26 rfl (by rw [lenM]; exact sizeLawModel) ?_) | (refine wpList_load_mid rfl 44 _ rfl (w42.heap.size) 0 rfl csx0 _ bxx0.range Tryz.underlying44 rfl (by rw [lenx0]; exact sizeModel) ?_))
 refine (iReducePlans_c _ xM _ xQ _ xS _ _ _ _ _ _ ((rModel_ok NB).toRep ox0) ((rQuery_ok NB).toRep ox1) ((rSpace_ok NB).toRep ox2) (ox3.rs rInt_ok)).mono ?_
 rintro e w57 ⟨Ag0, ng0, cg0, rfl, ⟨fg0, og0, frg0⟩, hb58⟩
 have z59 := hb58.size
 try simp only [setCells_kit, setCells_size, World.size_alloc] at z59
 have Hz59 := Lib.hid z59; clear z59
 replace ow0 := ow0.belowS rInt_ok hb58
 replace ox0 := (rModel_ok NB).ownB ox0 hb58
 replace ox1 := (rQuery_ok NB).ownB ox1 hb58
 replace ox2 := (rSpace_ok NB).ownB ox2 hb58
 replace ox3 := ox3.belowS rInt_ok hb58
 replace hB := hB.trans (hb58.mono hB.size)
 replace bxM := bxM.below hb58
 replace bxQ := bxQ.below hb58
 replace bxS := bxS.below hb58
 replace bxx0 := bxx0.below hb58
 replace bxx1 := bxx1.below hb58
 replace bxx2 := bxx2.below hb58
 clear hb58 cbxx1_0 cbxx1_1 cbxx2_0 cbxx2_1 cbxx2_2 cbxx2_3 cbxx2_4
 have ltg0 := Lib.hid (og0.lt rInt_ok)
 have fsg0 := frg0
 have HFg0 : Hid (∀ k ∈ fg0, _ ≤ k) := fsg0.ge
 try simp only [setCells_kit, setCells_size, World.size_alloc] at HFg0
 have ndg0 := fsg0.nd; have NDg0 := Lib.hid ndg0; clear ndg0 fsg0
 have hnei : ∀ v : Int, (v != v) = false := fun v => by simp
 have hneb : ∀ v : Bool, (v == v) = true := fun v => by simp
 go_wp2_with (first | (refine wpList_load_mid rfl 26 _ rfl (w.heap.size) 0 rfl csM _ bxM.range Tryz.underlying26 rfl (by rw [lenM]; exact sizeLawModel) ?_) | (refine wpList_load_mid rfl 44 _ rfl (w42.heap.size) 0 rfl csx0 _ bxx0.range Tryz.underlying44 rfl (by rw [lenx0]; exact sizeModel) ?_))
 refine (eqIntS_b _ _ _ _ _ _ _ _ _ (og0.rs rInt_ok) (ow0.rs rInt_ok)).mono ?_
 rintro e w60 ⟨rfl, hb61⟩
 have z62 := hb61.size
 try simp only [setCells_kit, setCells_size, World.size_alloc] at z62
 have Hz62 := Lib.hid z62; clear z62
 replace ow0 := ow0.belowS rInt_ok hb61
 replace ox0 := (rModel_ok NB).ownB ox0 hb61
 replace ox1 := (rQuery_ok NB).ownB ox1 hb61
 replace ox2 := (rSpace_ok NB).ownB ox2 hb61
 replace ox3 := ox3.belowS rInt_ok hb61
 replace og0 := og0.belowS rInt_ok hb61
 replace hB := hB.trans (hb61.mono hB.size)
 replace bxM := bxM.below hb61
 replace bxQ := bxQ.below hb61
 replace bxS := bxS.below hb61
 replace bxx0 := bxx0.below hb61
 replace bxx1 := bxx1.below hb61
 replace bxx2 := bxx2.below hb61
 clear hb61
 have hdr63 : decide ((reducePlans (fun k x => coversL xM xQ xS k x aBudget) (frontierPlans xS lFrontier) lFrontier) = (reducePlans (fun k x => coversL xM xQ xS k x aBudget) (frontierPlans xS lFrontier) lFrontier)) = true := by simp
 go_wp2_with (first | (refine wpList_load_mid rfl 26 _ rfl (w.heap.size) 0 rfl csM _ bxM.range Tryz.underlying26 rfl (by rw [lenM]; exact sizeLawModel) ?_) | (refine wpList_load_mid rfl 44 _ rfl (w42.heap.size) 0 rfl csx0 _ bxx0.range Tryz.underlying44 rfl (by rw [lenx0]; exact sizeModel) ?_))
 have HSS : ∀ w', Below w60.heap.size w60 w' → (Below w60.heap.size w60 w' ∧ w'.rangeAt (w.heap.size) 0 csM ∧ w'.rangeAt (w42.heap.size) 0 csx0) := fun w' hb => ⟨hb, (bxM.below hb).range, (bxx0.below hb).range⟩
 refine wp_region_held_drew (S := fun w' => Below w60.heap.size w60 w' ∧ w'.rangeAt (w.heap.size) 0 csM ∧ w'.rangeAt (w42.heap.size) 0 csx0) (by kernel_rfl) ?_ (fun hHeld => ?_)
 ·exact HSS _ (Below.refl _ _).drew
 refine' wpAnyH_take (i := 0) (v := _) rfl (by kernel_rfl) (by kernel_rfl) (by kernel_rfl) (fun _ _ _ h => h) (yieldsIf_load_mid (by rfl) _ _ rfl _ _ rfl _ _ (fun w h => h.2.2) Tryz.underlying44 rfl (by rw [lenx0]; exact sizeModel)) hHeld ?_
 simp only [Act.put, List.setIfInBounds_toArray, List.set_cons_zero, List.set_cons_succ]
 refine' wpAnyH_take (i := 1) (v := _) rfl (by kernel_rfl) (by kernel_rfl) (by kernel_rfl) (fun _ _ _ h => h) (yieldsIf_load_mid (by rfl) _ _ rfl _ _ rfl _ _ (fun w h => h.2.1) Tryz.underlying26 rfl (by rw [lenM]; exact sizeLawModel)) hHeld ?_
 simp only [Act.put, List.setIfInBounds_toArray, List.set_cons_zero, List.set_cons_succ]
 refine wpAnyH_ready (rs := [2]) (by kernel_rfl) (by simp) ?_
 refine AllReadyH.cons rfl (fun K hK => ?_) AllReadyH.nil
 have HSS' := Lib.hid HSS; clear HSS
 clear hHeld
 go_simp
 refine (toModel_c _ xM _ ((rModel_ok NB).keep sM (cells_below (hB.trans (Below.mono ((Below.refl w60.heap.size w60).drew) hB.size))))).mono ?_
 rintro e wq1 ⟨csq, fq, rfl, oq, frq, hbq1⟩
 have hCq1 : Below w60.heap.size w60 wq1 := Below.trans ((Below.refl w60.heap.size w60).drew) hbq1
 have Rq := (rModel_ok NB).toRep oq; clear oq frq hbq1
 go_wp2_with fail
 refine hK.out _ _ (HSS'.out _ hCq1) (fun hHeld => ?_)
 clear hK K hHeld
 try simp only [Act.put, List.setIfInBounds_toArray, List.set_cons_zero, List.set_cons_succ]
 refine wpAnyH_ready (rs := [3]) (by kernel_rfl) (by simp) ?_
 refine AllReadyH.cons rfl (fun K hK => ?_) AllReadyH.nil
 go_simp
 refine (eqModel_c _ _ xM xM _ ((rModel_ok NB).keep ((rModel_ok NB).toRep ox0) (cells_below hCq1)) Rq).mono ?_
 rintro e w70 ⟨rfl, hbq2⟩
 have hC72 : Below w60.heap.size w60 w70 := Below.trans hCq1 (hbq2.mono hCq1.size)
 clear hbq2 hCq1 Rq
 go_wp2_with fail
 refine hK.out _ _ (HSS'.out _ hC72) (fun hHeld => ?_)
 clear hK K hHeld
 try simp only [Act.put, List.setIfInBounds_toArray, List.set_cons_zero, List.set_cons_succ]
 refine wpAnyH_ready (rs := [4]) (by kernel_rfl) (by simp) ?_
 refine AllReadyH.cons rfl (fun K hK => ?_) AllReadyH.nil
 go_simp
 refine hK.out _ _ (HSS'.out _ hC72) (fun hHeld => ?_)
 clear hK K hHeld HSS'
 try simp only [Act.put, List.setIfInBounds_toArray, List.set_cons_zero, List.set_cons_succ]
 refine wpAnyH_done (by kernel_rfl) ?_ _
 have z74 := hC72.size
 try simp only [setCells_kit, setCells_size, World.size_alloc] at z74
 have Hz74 := Lib.hid z74; clear z74
 replace ow0 := ow0.belowS rInt_ok hC72
 replace ox0 := (rModel_ok NB).ownB ox0 hC72
 replace ox1 := (rQuery_ok NB).ownB ox1 hC72
 replace ox2 := (rSpace_ok NB).ownB ox2 hC72
 replace ox3 := ox3.belowS rInt_ok hC72
 replace og0 := og0.belowS rInt_ok hC72
 replace hB := hB.trans (hC72.mono hB.size)
 replace bxM := bxM.below hC72
 replace bxQ := bxQ.below hC72
 replace bxS := bxS.below hC72
 replace bxx0 := bxx0.below hC72
 replace bxx1 := bxx1.below hC72
 replace bxx2 := bxx2.below hC72
 clear hC72
 have hdx0 : decide (xM = xM) = true := by simp
 go_wp2_with (first | (refine wpList_load_mid rfl 26 _ rfl (w.heap.size) 0 rfl csM _ bxM.range Tryz.underlying26 rfl (by rw [lenM]; exact sizeLawModel) ?_) | (refine wpList_load_mid rfl 44 _ rfl (w42.heap.size) 0 rfl csx0 _ bxx0.range Tryz.underlying44 rfl (by rw [lenx0]; exact sizeModel) ?_))
 have SS75 : ∀ w', Below w70.heap.size w70 w' → (Below w70.heap.size w70 w' ∧ w'.cell? ⟨w.heap.size + 1, 0, none⟩ = some (.int .i64 xQ.fVariableCount) ∧ w'.cell? ⟨w.heap.size + 1, 1, none⟩ = some (.slice AQAtoms nQAtoms cQAtoms) ∧ w'.cell? ⟨w46.heap.size, 0, none⟩ = some (.int .i64 xQ.fVariableCount) ∧ w'.cell? ⟨w46.heap.size, 1, none⟩ = some (.slice Ax1Atoms nx1Atoms cx1Atoms)) := fun w' hb => ⟨hb, bxQ.below hb 0 _ rfl, bxQ.below hb 1 _ rfl, bxx1.below hb 0 _ rfl, bxx1.below hb 1 _ rfl⟩
 have HSS75 := Lib.hid SS75; clear SS75
 have tok80 : True := trivial
 have tok84 : True := trivial
 go_region_held3 (fun w' => Below w70.heap.size w70 w' ∧ w'.cell? ⟨w.heap.size + 1, 0, none⟩ = some (.int .i64 xQ.fVariableCount) ∧ w'.cell? ⟨w.heap.size + 1, 1, none⟩ = some (.slice AQAtoms nQAtoms cQAtoms) ∧ w'.cell? ⟨w46.heap.size, 0, none⟩ = some (.int .i64 xQ.fVariableCount) ∧ w'.cell? ⟨w46.heap.size, 1, none⟩ = some (.slice Ax1Atoms nx1Atoms cx1Atoms)) (first | exact HSS75.out _ (Below.refl _ _).drew | exact HSS75.out _ (by assumption)) (first | (go_at_call 10; have _t := tok80; refine (toQuery_c _ xQ _ ((rQuery_ok NB).keep sQ (cells_below (hB.trans (Below.mono ((Below.refl w70.heap.size w70).drew) hB.size))))).mono ?_; rintro e w77 ⟨csv76, fv76, rfl, ov76, frv76, hb78⟩; have hC79 : Below w70.heap.size w70 w77 := Below.trans ((Below.refl w70.heap.size w70).drew) (hb78.mono ((Below.refl w70.heap.size w70).drew).size); have Rv76 := (rQuery_ok NB).toRep ov76; clear tok80) | (go_at_call 16; have _t := tok84; refine (eqQuery_c _ _ xQ xQ _ ((rQuery_ok NB).keep ((rQuery_ok NB).toRep ox1) (cells_below (hC79))) Rv76).mono ?_; rintro e w81 ⟨rfl, hb82⟩; have hC83 : Below w70.heap.size w70 w81 := Below.trans (hC79) (hb82.mono (hC79).size); clear tok84))
 have z85 := hC83.size
 try simp only [setCells_kit, setCells_size, World.size_alloc] at z85
 have Hz85 := Lib.hid z85; clear z85
 replace ow0 := ow0.belowS rInt_ok hC83
 replace ox0 := (rModel_ok NB).ownB ox0 hC83
 replace ox1 := (rQuery_ok NB).ownB ox1 hC83
 replace ox2 := (rSpace_ok NB).ownB ox2 hC83
 replace ox3 := ox3.belowS rInt_ok hC83
 replace og0 := og0.belowS rInt_ok hC83
 replace hB := hB.trans (hC83.mono hB.size)
 replace bxM := bxM.below hC83
 replace bxQ := bxQ.below hC83
 replace bxS := bxS.below hC83
 replace bxx0 := bxx0.below hC83
 replace bxx1 := bxx1.below hC83
 replace bxx2 := bxx2.below hC83
 clear HSS75 hC83
 have hdx1 : decide (xQ = xQ) = true := by simp
 go_wp2_with (first | (refine wpList_load_mid rfl 26 _ rfl (w.heap.size) 0 rfl csM _ bxM.range Tryz.underlying26 rfl (by rw [lenM]; exact sizeLawModel) ?_) | (refine wpList_load_mid rfl 44 _ rfl (w42.heap.size) 0 rfl csx0 _ bxx0.range Tryz.underlying44 rfl (by rw [lenx0]; exact sizeModel) ?_))
 have SS86 : ∀ w', Below w81.heap.size w81 w' → (Below w81.heap.size w81 w' ∧ w'.cell? ⟨w.heap.size + 1 + 1, 0, none⟩ = some (.slice ASBoxLow nSBoxLow cSBoxLow) ∧ w'.cell? ⟨w.heap.size + 1 + 1, 1, none⟩ = some (.slice ASBoxHigh nSBoxHigh cSBoxHigh) ∧ w'.cell? ⟨w.heap.size + 1 + 1, 2, none⟩ = some (.slice ASCosts nSCosts cSCosts) ∧ w'.cell? ⟨w.heap.size + 1 + 1, 3, none⟩ = some (.slice ASChoices nSChoices cSChoices) ∧ w'.cell? ⟨w.heap.size + 1 + 1, 4, none⟩ = some (.slice ASPlans nSPlans cSPlans) ∧ w'.cell? ⟨w50.heap.size, 0, none⟩ = some (.slice Ax2BoxLow nx2BoxLow cx2BoxLow) ∧ w'.cell? ⟨w50.heap.size, 1, none⟩ = some (.slice Ax2BoxHigh nx2BoxHigh cx2BoxHigh) ∧ w'.cell? ⟨w50.heap.size, 2, none⟩ = some (.slice Ax2Costs nx2Costs cx2Costs) ∧ w'.cell? ⟨w50.heap.size, 3, none⟩ = some (.slice Ax2Choices nx2Choices cx2Choices) ∧ w'.cell? ⟨w50.heap.size, 4, none⟩ = some (.slice Ax2Plans nx2Plans cx2Plans)) := fun w' hb => ⟨hb, bxS.below hb 0 _ rfl, bxS.below hb 1 _ rfl, bxS.below hb 2 _ rfl, bxS.below hb 3 _ rfl, bxS.below hb 4 _ rfl, bxx2.below hb 0 _ rfl, bxx2.below hb 1 _ rfl, bxx2.below hb 2 _ rfl, bxx2.below hb 3 _ rfl, bxx2.below hb 4 _ rfl⟩
 have HSS86 := Lib.hid SS86; clear SS86
 have tok91 : True := trivial
 have tok95 : True := trivial
 go_region_held3 (fun w' => Below w81.heap.size w81 w' ∧ w'.cell? ⟨w.heap.size + 1 + 1, 0, none⟩ = some (.slice ASBoxLow nSBoxLow cSBoxLow) ∧ w'.cell? ⟨w.heap.size + 1 + 1, 1, none⟩ = some (.slice ASBoxHigh nSBoxHigh cSBoxHigh) ∧ w'.cell? ⟨w.heap.size + 1 + 1, 2, none⟩ = some (.slice ASCosts nSCosts cSCosts) ∧ w'.cell? ⟨w.heap.size + 1 + 1, 3, none⟩ = some (.slice ASChoices nSChoices cSChoices) ∧ w'.cell? ⟨w.heap.size + 1 + 1, 4, none⟩ = some (.slice ASPlans nSPlans cSPlans) ∧ w'.cell? ⟨w50.heap.size, 0, none⟩ = some (.slice Ax2BoxLow nx2BoxLow cx2BoxLow) ∧ w'.cell? ⟨w50.heap.size, 1, none⟩ = some (.slice Ax2BoxHigh nx2BoxHigh cx2BoxHigh) ∧ w'.cell? ⟨w50.heap.size, 2, none⟩ = some (.slice Ax2Costs nx2Costs cx2Costs) ∧ w'.cell? ⟨w50.heap.size, 3, none⟩ = some (.slice Ax2Choices nx2Choices cx2Choices) ∧ w'.cell? ⟨w50.heap.size, 4, none⟩ = some (.slice Ax2Plans nx2Plans cx2Plans)) (first | exact HSS86.out _ (Below.refl _ _).drew | exact HSS86.out _ (by assumption)) (first | (go_at_call 11; have _t := tok91; refine (toSpace_c _ xS _ ((rSpace_ok NB).keep sS (cells_below (hB.trans (Below.mono ((Below.refl w81.heap.size w81).drew) hB.size))))).mono ?_; rintro e w88 ⟨csv87, fv87, rfl, ov87, frv87, hb89⟩; have hC90 : Below w81.heap.size w81 w88 := Below.trans ((Below.refl w81.heap.size w81).drew) (hb89.mono ((Below.refl w81.heap.size w81).drew).size); have Rv87 := (rSpace_ok NB).toRep ov87; clear tok91) | (go_at_call 17; have _t := tok95; refine (eqSpace_c _ _ xS xS _ ((rSpace_ok NB).keep ((rSpace_ok NB).toRep ox2) (cells_below (hC90))) Rv87).mono ?_; rintro e w92 ⟨rfl, hb93⟩; have hC94 : Below w81.heap.size w81 w92 := Below.trans (hC90) (hb93.mono (hC90).size); clear tok95))
 have z96 := hC94.size
 try simp only [setCells_kit, setCells_size, World.size_alloc] at z96
 have Hz96 := Lib.hid z96; clear z96
 replace ow0 := ow0.belowS rInt_ok hC94
 replace ox0 := (rModel_ok NB).ownB ox0 hC94
 replace ox1 := (rQuery_ok NB).ownB ox1 hC94
 replace ox2 := (rSpace_ok NB).ownB ox2 hC94
 replace ox3 := ox3.belowS rInt_ok hC94
 replace og0 := og0.belowS rInt_ok hC94
 replace hB := hB.trans (hC94.mono hB.size)
 replace bxM := bxM.below hC94
 replace bxQ := bxQ.below hC94
 replace bxS := bxS.below hC94
 replace bxx0 := bxx0.below hC94
 replace bxx1 := bxx1.below hC94
 replace bxx2 := bxx2.below hC94
 clear HSS86 hC94
 have hdx2 : decide (xS = xS) = true := by simp
 go_wp2_with (first | (refine wpList_load_mid rfl 26 _ rfl (w.heap.size) 0 rfl csM _ bxM.range Tryz.underlying26 rfl (by rw [lenM]; exact sizeLawModel) ?_) | (refine wpList_load_mid rfl 44 _ rfl (w42.heap.size) 0 rfl csx0 _ bxx0.range Tryz.underlying44 rfl (by rw [lenx0]; exact sizeModel) ?_))
 refine (toIntS_c _ _ _ _ _ (sFrontier.below rInt_ok hB)).mono ?_
 rintro e w97 ⟨Av99, nv99, cv99, rfl, ⟨fv99, Mv99, frv99⟩, hb98⟩
 have z100 := hb98.size
 try simp only [setCells_kit, setCells_size, World.size_alloc] at z100
 have Hz100 := Lib.hid z100; clear z100
 replace ow0 := ow0.belowS rInt_ok hb98
 replace ox0 := (rModel_ok NB).ownB ox0 hb98
 replace ox1 := (rQuery_ok NB).ownB ox1 hb98
 replace ox2 := (rSpace_ok NB).ownB ox2 hb98
 replace ox3 := ox3.belowS rInt_ok hb98
 replace og0 := og0.belowS rInt_ok hb98
 replace hB := hB.trans (hb98.mono hB.size)
 replace bxM := bxM.below hb98
 replace bxQ := bxQ.below hb98
 replace bxS := bxS.below hb98
 replace bxx0 := bxx0.below hb98
 replace bxx1 := bxx1.below hb98
 replace bxx2 := bxx2.below hb98
 clear hb98
 have Rv99 := Mv99.rs rInt_ok
 go_wp2_with (first | (refine wpList_load_mid rfl 26 _ rfl (w.heap.size) 0 rfl csM _ bxM.range Tryz.underlying26 rfl (by rw [lenM]; exact sizeLawModel) ?_) | (refine wpList_load_mid rfl 44 _ rfl (w42.heap.size) 0 rfl csx0 _ bxx0.range Tryz.underlying44 rfl (by rw [lenx0]; exact sizeModel) ?_))
 refine (eqIntS_b _ _ _ _ _ _ _ _ _ (ox3.rs rInt_ok) Rv99).mono ?_
 rintro e w101 ⟨rfl, hb102⟩
 have z103 := hb102.size
 try simp only [setCells_kit, setCells_size, World.size_alloc] at z103
 have Hz103 := Lib.hid z103; clear z103
 replace ow0 := ow0.belowS rInt_ok hb102
 replace ox0 := (rModel_ok NB).ownB ox0 hb102
 replace ox1 := (rQuery_ok NB).ownB ox1 hb102
 replace ox2 := (rSpace_ok NB).ownB ox2 hb102
 replace ox3 := ox3.belowS rInt_ok hb102
 replace og0 := og0.belowS rInt_ok hb102
 replace hB := hB.trans (hb102.mono hB.size)
 replace bxM := bxM.below hb102
 replace bxQ := bxQ.below hb102
 replace bxS := bxS.below hb102
 replace bxx0 := bxx0.below hb102
 replace bxx1 := bxx1.below hb102
 replace bxx2 := bxx2.below hb102
 clear hb102
 have hdx3 : decide (lFrontier = lFrontier) = true := by simp
 have hcbr : Hid ((cnt_IntS (reducePlans (fun k x => coversL xM xQ xS k x aBudget) (frontierPlans xS lFrontier) lFrontier)) ≤ 1099511627776) := (by show _ ≤ _; exact (by have e := cnto_IntS og0; omega))
 go_wp2_with (first | (refine wpList_load_mid rfl 26 _ rfl (w.heap.size) 0 rfl csM _ bxM.range Tryz.underlying26 rfl (by rw [lenM]; exact sizeLawModel) ?_) | (refine wpList_load_mid rfl 44 _ rfl (w42.heap.size) 0 rfl csx0 _ bxx0.range Tryz.underlying44 rfl (by rw [lenx0]; exact sizeModel) ?_))
 have hcbw104 : (cnt_Model (xM)) ≤ 1099511627776 := (by have e := cntb_Model xM; omega)
 refine (markModel_m _ (xM) 1 _ fx0 ox0 NDx0.out (by omega) (by omega)).mono ?_
 rintro e w104 ⟨rfl, omw104, hc105⟩
 replace hB := hB.trans (hc105.toBelow hB.size (fun k hk => by have := HFx0.out k hk; have := Hz6.out; have := Hz10.out; have := Hz14.out; have := Hz41.out; have := Hz44.out; have := Hz48.out; have := Hz52.out; have := Hz56.out; have := Hz59.out; have := Hz62.out; have := Hz74.out; have := Hz85.out; have := Hz96.out; have := Hz100.out; have := Hz103.out; omega))
 replace bxM := bxM.chg hc105 (fun hk => by have := HFx0.out _ hk; have := ltx0.out _ hk; have := Hz6.out; have := Hz10.out; have := Hz14.out; have := Hz41.out; have := Hz44.out; have := Hz48.out; have := Hz52.out; have := Hz56.out; have := Hz59.out; have := Hz62.out; have := Hz74.out; have := Hz85.out; have := Hz96.out; have := Hz100.out; have := Hz103.out; omega)
 replace bxQ := bxQ.chg hc105 (fun hk => by have := HFx0.out _ hk; have := ltx0.out _ hk; have := Hz6.out; have := Hz10.out; have := Hz14.out; have := Hz41.out; have := Hz44.out; have := Hz48.out; have := Hz52.out; have := Hz56.out; have := Hz59.out; have := Hz62.out; have := Hz74.out; have := Hz85.out; have := Hz96.out; have := Hz100.out; have := Hz103.out; omega)
 replace bxS := bxS.chg hc105 (fun hk => by have := HFx0.out _ hk; have := ltx0.out _ hk; have := Hz6.out; have := Hz10.out; have := Hz14.out; have := Hz41.out; have := Hz44.out; have := Hz48.out; have := Hz52.out; have := Hz56.out; have := Hz59.out; have := Hz62.out; have := Hz74.out; have := Hz85.out; have := Hz96.out; have := Hz100.out; have := Hz103.out; omega)
 replace bxx0 := bxx0.chg hc105 (fun hk => by have := HFx0.out _ hk; have := ltx0.out _ hk; have := Hz6.out; have := Hz10.out; have := Hz14.out; have := Hz41.out; have := Hz44.out; have := Hz48.out; have := Hz52.out; have := Hz56.out; have := Hz59.out; have := Hz62.out; have := Hz74.out; have := Hz85.out; have := Hz96.out; have := Hz100.out; have := Hz103.out; omega)
 replace bxx1 := bxx1.chg hc105 (fun hk => by have := HFx0.out _ hk; have := ltx0.out _ hk; have := Hz6.out; have := Hz10.out; have := Hz14.out; have := Hz41.out; have := Hz44.out; have := Hz48.out; have := Hz52.out; have := Hz56.out; have := Hz59.out; have := Hz62.out; have := Hz74.out; have := Hz85.out; have := Hz96.out; have := Hz100.out; have := Hz103.out; omega)
 replace bxx2 := bxx2.chg hc105 (fun hk => by have := HFx0.out _ hk; have := ltx0.out _ hk; have := Hz6.out; have := Hz10.out; have := Hz14.out; have := Hz41.out; have := Hz44.out; have := Hz48.out; have := Hz52.out; have := Hz56.out; have := Hz59.out; have := Hz62.out; have := Hz74.out; have := Hz85.out; have := Hz96.out; have := Hz100.out; have := Hz103.out; omega)
 replace ow0 := ow0.chg rInt_ok hc105 (fun k hk hk' => by have := HFw0.out k hk; have := ltw0.out k hk; have := HFx0.out k hk'; have := ltx0.out k hk'; have := Hz6.out; have := Hz10.out; have := Hz14.out; have := Hz41.out; have := Hz44.out; have := Hz48.out; have := Hz52.out; have := Hz56.out; have := Hz59.out; have := Hz62.out; have := Hz74.out; have := Hz85.out; have := Hz96.out; have := Hz100.out; have := Hz103.out; omega)
 replace ox1 := (rQuery_ok NB).ownC ox1 hc105 (fun k hk hk' => by have := HFx1.out k hk; have := ltx1.out k hk; have := HFx0.out k hk'; have := ltx0.out k hk'; have := Hz6.out; have := Hz10.out; have := Hz14.out; have := Hz41.out; have := Hz44.out; have := Hz48.out; have := Hz52.out; have := Hz56.out; have := Hz59.out; have := Hz62.out; have := Hz74.out; have := Hz85.out; have := Hz96.out; have := Hz100.out; have := Hz103.out; omega)
 replace ox2 := (rSpace_ok NB).ownC ox2 hc105 (fun k hk hk' => by have := HFx2.out k hk; have := ltx2.out k hk; have := HFx0.out k hk'; have := ltx0.out k hk'; have := Hz6.out; have := Hz10.out; have := Hz14.out; have := Hz41.out; have := Hz44.out; have := Hz48.out; have := Hz52.out; have := Hz56.out; have := Hz59.out; have := Hz62.out; have := Hz74.out; have := Hz85.out; have := Hz96.out; have := Hz100.out; have := Hz103.out; omega)
 replace ox3 := ox3.chg rInt_ok hc105 (fun k hk hk' => by have := HFx3.out k hk; have := ltx3.out k hk; have := HFx0.out k hk'; have := ltx0.out k hk'; have := Hz6.out; have := Hz10.out; have := Hz14.out; have := Hz41.out; have := Hz44.out; have := Hz48.out; have := Hz52.out; have := Hz56.out; have := Hz59.out; have := Hz62.out; have := Hz74.out; have := Hz85.out; have := Hz96.out; have := Hz100.out; have := Hz103.out; omega)
 replace og0 := og0.chg rInt_ok hc105 (fun k hk hk' => by have := HFg0.out k hk; have := ltg0.out k hk; have := HFx0.out k hk'; have := ltx0.out k hk'; have := Hz6.out; have := Hz10.out; have := Hz14.out; have := Hz41.out; have := Hz44.out; have := Hz48.out; have := Hz52.out; have := Hz56.out; have := Hz59.out; have := Hz62.out; have := Hz74.out; have := Hz85.out; have := Hz96.out; have := Hz100.out; have := Hz103.out; omega)
 clear ox0; have ox0 := omw104; clear omw104
 have Hz106 := Lib.hid hc105.size
 try simp only [World.size_alloc] at Hz106
 clear hc105
 obtain ⟨kk107, hkk107⟩ : ∃ q : Int, q = 1 + ((cnt_Model (xM)) : Nat) := ⟨_, rfl⟩
 rw [← hkk107]
 have pkk107 : 0 ≤ kk107 := by omega
 have ukk107 : kk107 ≤ 2199023255552 := by omega
 have Hkkk107 := Lib.hid hkk107; clear hkk107 hcbw104
 have cbxx1_0 := bxx1 0 _ rfl
 have cbxx1_1 := bxx1 1 _ rfl
 go_wp2_with (first | (refine wpList_load_mid rfl 26 _ rfl (w.heap.size) 0 rfl csM _ bxM.range Tryz.underlying26 rfl (by rw [lenM]; exact sizeLawModel) ?_) | (refine wpList_load_mid rfl 44 _ rfl (w42.heap.size) 0 rfl csx0 _ bxx0.range Tryz.underlying44 rfl (by rw [lenx0]; exact sizeModel) ?_))
 have hcbw108 : (cnt_Query (xQ)) ≤ 1099511627776 := (by have e := cntb_Query xQ; omega)
 refine (markQuery_m _ (xQ) kk107 _ fx1 ox1 NDx1.out (by omega) (by omega)).mono ?_
 rintro e w108 ⟨rfl, omw108, hc109⟩
 replace hB := hB.trans (hc109.toBelow hB.size (fun k hk => by have := HFx1.out k hk; have := Hz6.out; have := Hz10.out; have := Hz14.out; have := Hz41.out; have := Hz44.out; have := Hz48.out; have := Hz52.out; have := Hz56.out; have := Hz59.out; have := Hz62.out; have := Hz74.out; have := Hz85.out; have := Hz96.out; have := Hz100.out; have := Hz103.out; have := Hz106.out; omega))
 replace bxM := bxM.chg hc109 (fun hk => by have := HFx1.out _ hk; have := ltx1.out _ hk; have := Hz6.out; have := Hz10.out; have := Hz14.out; have := Hz41.out; have := Hz44.out; have := Hz48.out; have := Hz52.out; have := Hz56.out; have := Hz59.out; have := Hz62.out; have := Hz74.out; have := Hz85.out; have := Hz96.out; have := Hz100.out; have := Hz103.out; have := Hz106.out; omega)
 replace bxQ := bxQ.chg hc109 (fun hk => by have := HFx1.out _ hk; have := ltx1.out _ hk; have := Hz6.out; have := Hz10.out; have := Hz14.out; have := Hz41.out; have := Hz44.out; have := Hz48.out; have := Hz52.out; have := Hz56.out; have := Hz59.out; have := Hz62.out; have := Hz74.out; have := Hz85.out; have := Hz96.out; have := Hz100.out; have := Hz103.out; have := Hz106.out; omega)
 replace bxS := bxS.chg hc109 (fun hk => by have := HFx1.out _ hk; have := ltx1.out _ hk; have := Hz6.out; have := Hz10.out; have := Hz14.out; have := Hz41.out; have := Hz44.out; have := Hz48.out; have := Hz52.out; have := Hz56.out; have := Hz59.out; have := Hz62.out; have := Hz74.out; have := Hz85.out; have := Hz96.out; have := Hz100.out; have := Hz103.out; have := Hz106.out; omega)
 replace bxx0 := bxx0.chg hc109 (fun hk => by have := HFx1.out _ hk; have := ltx1.out _ hk; have := Hz6.out; have := Hz10.out; have := Hz14.out; have := Hz41.out; have := Hz44.out; have := Hz48.out; have := Hz52.out; have := Hz56.out; have := Hz59.out; have := Hz62.out; have := Hz74.out; have := Hz85.out; have := Hz96.out; have := Hz100.out; have := Hz103.out; have := Hz106.out; omega)
 replace bxx1 := bxx1.chg hc109 (fun hk => by have := HFx1.out _ hk; have := ltx1.out _ hk; have := Hz6.out; have := Hz10.out; have := Hz14.out; have := Hz41.out; have := Hz44.out; have := Hz48.out; have := Hz52.out; have := Hz56.out; have := Hz59.out; have := Hz62.out; have := Hz74.out; have := Hz85.out; have := Hz96.out; have := Hz100.out; have := Hz103.out; have := Hz106.out; omega)
 replace bxx2 := bxx2.chg hc109 (fun hk => by have := HFx1.out _ hk; have := ltx1.out _ hk; have := Hz6.out; have := Hz10.out; have := Hz14.out; have := Hz41.out; have := Hz44.out; have := Hz48.out; have := Hz52.out; have := Hz56.out; have := Hz59.out; have := Hz62.out; have := Hz74.out; have := Hz85.out; have := Hz96.out; have := Hz100.out; have := Hz103.out; have := Hz106.out; omega)
 replace ow0 := ow0.chg rInt_ok hc109 (fun k hk hk' => by have := HFw0.out k hk; have := ltw0.out k hk; have := HFx1.out k hk'; have := ltx1.out k hk'; have := Hz6.out; have := Hz10.out; have := Hz14.out; have := Hz41.out; have := Hz44.out; have := Hz48.out; have := Hz52.out; have := Hz56.out; have := Hz59.out; have := Hz62.out; have := Hz74.out; have := Hz85.out; have := Hz96.out; have := Hz100.out; have := Hz103.out; have := Hz106.out; omega)
 replace ox0 := (rModel_ok NB).ownC ox0 hc109 (fun k hk hk' => by have := HFx0.out k hk; have := ltx0.out k hk; have := HFx1.out k hk'; have := ltx1.out k hk'; have := Hz6.out; have := Hz10.out; have := Hz14.out; have := Hz41.out; have := Hz44.out; have := Hz48.out; have := Hz52.out; have := Hz56.out; have := Hz59.out; have := Hz62.out; have := Hz74.out; have := Hz85.out; have := Hz96.out; have := Hz100.out; have := Hz103.out; have := Hz106.out; omega)
 replace ox2 := (rSpace_ok NB).ownC ox2 hc109 (fun k hk hk' => by have := HFx2.out k hk; have := ltx2.out k hk; have := HFx1.out k hk'; have := ltx1.out k hk'; have := Hz6.out; have := Hz10.out; have := Hz14.out; have := Hz41.out; have := Hz44.out; have := Hz48.out; have := Hz52.out; have := Hz56.out; have := Hz59.out; have := Hz62.out; have := Hz74.out; have := Hz85.out; have := Hz96.out; have := Hz100.out; have := Hz103.out; have := Hz106.out; omega)
 replace ox3 := ox3.chg rInt_ok hc109 (fun k hk hk' => by have := HFx3.out k hk; have := ltx3.out k hk; have := HFx1.out k hk'; have := ltx1.out k hk'; have := Hz6.out; have := Hz10.out; have := Hz14.out; have := Hz41.out; have := Hz44.out; have := Hz48.out; have := Hz52.out; have := Hz56.out; have := Hz59.out; have := Hz62.out; have := Hz74.out; have := Hz85.out; have := Hz96.out; have := Hz100.out; have := Hz103.out; have := Hz106.out; omega)
 replace og0 := og0.chg rInt_ok hc109 (fun k hk hk' => by have := HFg0.out k hk; have := ltg0.out k hk; have := HFx1.out k hk'; have := ltx1.out k hk'; have := Hz6.out; have := Hz10.out; have := Hz14.out; have := Hz41.out; have := Hz44.out; have := Hz48.out; have := Hz52.out; have := Hz56.out; have := Hz59.out; have := Hz62.out; have := Hz74.out; have := Hz85.out; have := Hz96.out; have := Hz100.out; have := Hz103.out; have := Hz106.out; omega)
 clear ox1; have ox1 := omw108; clear omw108
 have Hz110 := Lib.hid hc109.size
 try simp only [World.size_alloc] at Hz110
 clear hc109 cbxx1_0 cbxx1_1
 obtain ⟨kk111, hkk111⟩ : ∃ q : Int, q = kk107 + ((cnt_Query (xQ)) : Nat) := ⟨_, rfl⟩
 rw [← hkk111]
 have pkk111 : 0 ≤ kk111 := by omega
 have ukk111 : kk111 ≤ 4398046511104 := by omega
 have Hkkk111 := Lib.hid hkk111; clear hkk111 hcbw108
 have cbxx2_0 := bxx2 0 _ rfl
 have cbxx2_1 := bxx2 1 _ rfl
 have cbxx2_2 := bxx2 2 _ rfl
 have cbxx2_3 := bxx2 3 _ rfl
 have cbxx2_4 := bxx2 4 _ rfl
 go_wp2_with (first | (refine wpList_load_mid rfl 26 _ rfl (w.heap.size) 0 rfl csM _ bxM.range Tryz.underlying26 rfl (by rw [lenM]; exact sizeLawModel) ?_) | (refine wpList_load_mid rfl 44 _ rfl (w42.heap.size) 0 rfl csx0 _ bxx0.range Tryz.underlying44 rfl (by rw [lenx0]; exact sizeModel) ?_))
 have hcbw112 : (cnt_Space (xS)) ≤ 1099511627776 := (by have e := cntb_Space xS; omega)
 refine (markSpace_m _ (xS) kk111 _ fx2 ox2 NDx2.out (by omega) (by omega)).mono ?_
 rintro e w112 ⟨rfl, omw112, hc113⟩
 replace hB := hB.trans (hc113.toBelow hB.size (fun k hk => by have := HFx2.out k hk; have := Hz6.out; have := Hz10.out; have := Hz14.out; have := Hz41.out; have := Hz44.out; have := Hz48.out; have := Hz52.out; have := Hz56.out; have := Hz59.out; have := Hz62.out; have := Hz74.out; have := Hz85.out; have := Hz96.out; have := Hz100.out; have := Hz103.out; have := Hz106.out; have := Hz110.out; omega))
 replace bxM := bxM.chg hc113 (fun hk => by have := HFx2.out _ hk; have := ltx2.out _ hk; have := Hz6.out; have := Hz10.out; have := Hz14.out; have := Hz41.out; have := Hz44.out; have := Hz48.out; have := Hz52.out; have := Hz56.out; have := Hz59.out; have := Hz62.out; have := Hz74.out; have := Hz85.out; have := Hz96.out; have := Hz100.out; have := Hz103.out; have := Hz106.out; have := Hz110.out; omega)
 replace bxQ := bxQ.chg hc113 (fun hk => by have := HFx2.out _ hk; have := ltx2.out _ hk; have := Hz6.out; have := Hz10.out; have := Hz14.out; have := Hz41.out; have := Hz44.out; have := Hz48.out; have := Hz52.out; have := Hz56.out; have := Hz59.out; have := Hz62.out; have := Hz74.out; have := Hz85.out; have := Hz96.out; have := Hz100.out; have := Hz103.out; have := Hz106.out; have := Hz110.out; omega)
 replace bxS := bxS.chg hc113 (fun hk => by have := HFx2.out _ hk; have := ltx2.out _ hk; have := Hz6.out; have := Hz10.out; have := Hz14.out; have := Hz41.out; have := Hz44.out; have := Hz48.out; have := Hz52.out; have := Hz56.out; have := Hz59.out; have := Hz62.out; have := Hz74.out; have := Hz85.out; have := Hz96.out; have := Hz100.out; have := Hz103.out; have := Hz106.out; have := Hz110.out; omega)
 replace bxx0 := bxx0.chg hc113 (fun hk => by have := HFx2.out _ hk; have := ltx2.out _ hk; have := Hz6.out; have := Hz10.out; have := Hz14.out; have := Hz41.out; have := Hz44.out; have := Hz48.out; have := Hz52.out; have := Hz56.out; have := Hz59.out; have := Hz62.out; have := Hz74.out; have := Hz85.out; have := Hz96.out; have := Hz100.out; have := Hz103.out; have := Hz106.out; have := Hz110.out; omega)
 replace bxx1 := bxx1.chg hc113 (fun hk => by have := HFx2.out _ hk; have := ltx2.out _ hk; have := Hz6.out; have := Hz10.out; have := Hz14.out; have := Hz41.out; have := Hz44.out; have := Hz48.out; have := Hz52.out; have := Hz56.out; have := Hz59.out; have := Hz62.out; have := Hz74.out; have := Hz85.out; have := Hz96.out; have := Hz100.out; have := Hz103.out; have := Hz106.out; have := Hz110.out; omega)
 replace bxx2 := bxx2.chg hc113 (fun hk => by have := HFx2.out _ hk; have := ltx2.out _ hk; have := Hz6.out; have := Hz10.out; have := Hz14.out; have := Hz41.out; have := Hz44.out; have := Hz48.out; have := Hz52.out; have := Hz56.out; have := Hz59.out; have := Hz62.out; have := Hz74.out; have := Hz85.out; have := Hz96.out; have := Hz100.out; have := Hz103.out; have := Hz106.out; have := Hz110.out; omega)
 replace ow0 := ow0.chg rInt_ok hc113 (fun k hk hk' => by have := HFw0.out k hk; have := ltw0.out k hk; have := HFx2.out k hk'; have := ltx2.out k hk'; have := Hz6.out; have := Hz10.out; have := Hz14.out; have := Hz41.out; have := Hz44.out; have := Hz48.out; have := Hz52.out; have := Hz56.out; have := Hz59.out; have := Hz62.out; have := Hz74.out; have := Hz85.out; have := Hz96.out; have := Hz100.out; have := Hz103.out; have := Hz106.out; have := Hz110.out; omega)
 replace ox0 := (rModel_ok NB).ownC ox0 hc113 (fun k hk hk' => by have := HFx0.out k hk; have := ltx0.out k hk; have := HFx2.out k hk'; have := ltx2.out k hk'; have := Hz6.out; have := Hz10.out; have := Hz14.out; have := Hz41.out; have := Hz44.out; have := Hz48.out; have := Hz52.out; have := Hz56.out; have := Hz59.out; have := Hz62.out; have := Hz74.out; have := Hz85.out; have := Hz96.out; have := Hz100.out; have := Hz103.out; have := Hz106.out; have := Hz110.out; omega)
 replace ox1 := (rQuery_ok NB).ownC ox1 hc113 (fun k hk hk' => by have := HFx1.out k hk; have := ltx1.out k hk; have := HFx2.out k hk'; have := ltx2.out k hk'; have := Hz6.out; have := Hz10.out; have := Hz14.out; have := Hz41.out; have := Hz44.out; have := Hz48.out; have := Hz52.out; have := Hz56.out; have := Hz59.out; have := Hz62.out; have := Hz74.out; have := Hz85.out; have := Hz96.out; have := Hz100.out; have := Hz103.out; have := Hz106.out; have := Hz110.out; omega)
 replace ox3 := ox3.chg rInt_ok hc113 (fun k hk hk' => by have := HFx3.out k hk; have := ltx3.out k hk; have := HFx2.out k hk'; have := ltx2.out k hk'; have := Hz6.out; have := Hz10.out; have := Hz14.out; have := Hz41.out; have := Hz44.out; have := Hz48.out; have := Hz52.out; have := Hz56.out; have := Hz59.out; have := Hz62.out; have := Hz74.out; have := Hz85.out; have := Hz96.out; have := Hz100.out; have := Hz103.out; have := Hz106.out; have := Hz110.out; omega)
 replace og0 := og0.chg rInt_ok hc113 (fun k hk hk' => by have := HFg0.out k hk; have := ltg0.out k hk; have := HFx2.out k hk'; have := ltx2.out k hk'; have := Hz6.out; have := Hz10.out; have := Hz14.out; have := Hz41.out; have := Hz44.out; have := Hz48.out; have := Hz52.out; have := Hz56.out; have := Hz59.out; have := Hz62.out; have := Hz74.out; have := Hz85.out; have := Hz96.out; have := Hz100.out; have := Hz103.out; have := Hz106.out; have := Hz110.out; omega)
 clear ox2; have ox2 := omw112; clear omw112
 have Hz114 := Lib.hid hc113.size
 try simp only [World.size_alloc] at Hz114
 clear hc113 cbxx2_0 cbxx2_1 cbxx2_2 cbxx2_3 cbxx2_4
 obtain ⟨kk115, hkk115⟩ : ∃ q : Int, q = kk111 + ((cnt_Space (xS)) : Nat) := ⟨_, rfl⟩
 rw [← hkk115]
 have pkk115 : 0 ≤ kk115 := by omega
 have ukk115 : kk115 ≤ 6597069766656 := by omega
 have Hkkk115 := Lib.hid hkk115; clear hkk115 hcbw112
 go_wp2_with (first | (refine wpList_load_mid rfl 26 _ rfl (w.heap.size) 0 rfl csM _ bxM.range Tryz.underlying26 rfl (by rw [lenM]; exact sizeLawModel) ?_) | (refine wpList_load_mid rfl 44 _ rfl (w42.heap.size) 0 rfl csx0 _ bxx0.range Tryz.underlying44 rfl (by rw [lenx0]; exact sizeModel) ?_))
 have hcbw116 : (cnt_IntS (lFrontier)) ≤ 1099511627776 := (by have := rFrontier.len; unfold cnt_IntS; omega)
 refine (markIntS_m _ _ _ _ kk115 _ _ ox3 NDx3.out (by omega) (by omega)).mono ?_
 rintro e w116 ⟨rfl, omw116, hc117⟩
 replace hB := hB.trans (hc117.toBelow hB.size (fun k hk => by have := HFx3.out k hk; have := Hz6.out; have := Hz10.out; have := Hz14.out; have := Hz41.out; have := Hz44.out; have := Hz48.out; have := Hz52.out; have := Hz56.out; have := Hz59.out; have := Hz62.out; have := Hz74.out; have := Hz85.out; have := Hz96.out; have := Hz100.out; have := Hz103.out; have := Hz106.out; have := Hz110.out; have := Hz114.out; omega))
 replace bxM := bxM.chg hc117 (fun hk => by have := HFx3.out _ hk; have := ltx3.out _ hk; have := Hz6.out; have := Hz10.out; have := Hz14.out; have := Hz41.out; have := Hz44.out; have := Hz48.out; have := Hz52.out; have := Hz56.out; have := Hz59.out; have := Hz62.out; have := Hz74.out; have := Hz85.out; have := Hz96.out; have := Hz100.out; have := Hz103.out; have := Hz106.out; have := Hz110.out; have := Hz114.out; omega)
 replace bxQ := bxQ.chg hc117 (fun hk => by have := HFx3.out _ hk; have := ltx3.out _ hk; have := Hz6.out; have := Hz10.out; have := Hz14.out; have := Hz41.out; have := Hz44.out; have := Hz48.out; have := Hz52.out; have := Hz56.out; have := Hz59.out; have := Hz62.out; have := Hz74.out; have := Hz85.out; have := Hz96.out; have := Hz100.out; have := Hz103.out; have := Hz106.out; have := Hz110.out; have := Hz114.out; omega)
 replace bxS := bxS.chg hc117 (fun hk => by have := HFx3.out _ hk; have := ltx3.out _ hk; have := Hz6.out; have := Hz10.out; have := Hz14.out; have := Hz41.out; have := Hz44.out; have := Hz48.out; have := Hz52.out; have := Hz56.out; have := Hz59.out; have := Hz62.out; have := Hz74.out; have := Hz85.out; have := Hz96.out; have := Hz100.out; have := Hz103.out; have := Hz106.out; have := Hz110.out; have := Hz114.out; omega)
 replace bxx0 := bxx0.chg hc117 (fun hk => by have := HFx3.out _ hk; have := ltx3.out _ hk; have := Hz6.out; have := Hz10.out; have := Hz14.out; have := Hz41.out; have := Hz44.out; have := Hz48.out; have := Hz52.out; have := Hz56.out; have := Hz59.out; have := Hz62.out; have := Hz74.out; have := Hz85.out; have := Hz96.out; have := Hz100.out; have := Hz103.out; have := Hz106.out; have := Hz110.out; have := Hz114.out; omega)
 replace bxx1 := bxx1.chg hc117 (fun hk => by have := HFx3.out _ hk; have := ltx3.out _ hk; have := Hz6.out; have := Hz10.out; have := Hz14.out; have := Hz41.out; have := Hz44.out; have := Hz48.out; have := Hz52.out; have := Hz56.out; have := Hz59.out; have := Hz62.out; have := Hz74.out; have := Hz85.out; have := Hz96.out; have := Hz100.out; have := Hz103.out; have := Hz106.out; have := Hz110.out; have := Hz114.out; omega)
 replace bxx2 := bxx2.chg hc117 (fun hk => by have := HFx3.out _ hk; have := ltx3.out _ hk; have := Hz6.out; have := Hz10.out; have := Hz14.out; have := Hz41.out; have := Hz44.out; have := Hz48.out; have := Hz52.out; have := Hz56.out; have := Hz59.out; have := Hz62.out; have := Hz74.out; have := Hz85.out; have := Hz96.out; have := Hz100.out; have := Hz103.out; have := Hz106.out; have := Hz110.out; have := Hz114.out; omega)
 replace ow0 := ow0.chg rInt_ok hc117 (fun k hk hk' => by have := HFw0.out k hk; have := ltw0.out k hk; have := HFx3.out k hk'; have := ltx3.out k hk'; have := Hz6.out; have := Hz10.out; have := Hz14.out; have := Hz41.out; have := Hz44.out; have := Hz48.out; have := Hz52.out; have := Hz56.out; have := Hz59.out; have := Hz62.out; have := Hz74.out; have := Hz85.out; have := Hz96.out; have := Hz100.out; have := Hz103.out; have := Hz106.out; have := Hz110.out; have := Hz114.out; omega)
 replace ox0 := (rModel_ok NB).ownC ox0 hc117 (fun k hk hk' => by have := HFx0.out k hk; have := ltx0.out k hk; have := HFx3.out k hk'; have := ltx3.out k hk'; have := Hz6.out; have := Hz10.out; have := Hz14.out; have := Hz41.out; have := Hz44.out; have := Hz48.out; have := Hz52.out; have := Hz56.out; have := Hz59.out; have := Hz62.out; have := Hz74.out; have := Hz85.out; have := Hz96.out; have := Hz100.out; have := Hz103.out; have := Hz106.out; have := Hz110.out; have := Hz114.out; omega)
 replace ox1 := (rQuery_ok NB).ownC ox1 hc117 (fun k hk hk' => by have := HFx1.out k hk; have := ltx1.out k hk; have := HFx3.out k hk'; have := ltx3.out k hk'; have := Hz6.out; have := Hz10.out; have := Hz14.out; have := Hz41.out; have := Hz44.out; have := Hz48.out; have := Hz52.out; have := Hz56.out; have := Hz59.out; have := Hz62.out; have := Hz74.out; have := Hz85.out; have := Hz96.out; have := Hz100.out; have := Hz103.out; have := Hz106.out; have := Hz110.out; have := Hz114.out; omega)
 replace ox2 := (rSpace_ok NB).ownC ox2 hc117 (fun k hk hk' => by have := HFx2.out k hk; have := ltx2.out k hk; have := HFx3.out k hk'; have := ltx3.out k hk'; have := Hz6.out; have := Hz10.out; have := Hz14.out; have := Hz41.out; have := Hz44.out; have := Hz48.out; have := Hz52.out; have := Hz56.out; have := Hz59.out; have := Hz62.out; have := Hz74.out; have := Hz85.out; have := Hz96.out; have := Hz100.out; have := Hz103.out; have := Hz106.out; have := Hz110.out; have := Hz114.out; omega)
 replace og0 := og0.chg rInt_ok hc117 (fun k hk hk' => by have := HFg0.out k hk; have := ltg0.out k hk; have := HFx3.out k hk'; have := ltx3.out k hk'; have := Hz6.out; have := Hz10.out; have := Hz14.out; have := Hz41.out; have := Hz44.out; have := Hz48.out; have := Hz52.out; have := Hz56.out; have := Hz59.out; have := Hz62.out; have := Hz74.out; have := Hz85.out; have := Hz96.out; have := Hz100.out; have := Hz103.out; have := Hz106.out; have := Hz110.out; have := Hz114.out; omega)
 clear ox3; have ox3 := omw116; clear omw116
 have Hz118 := Lib.hid hc117.size
 try simp only [World.size_alloc] at Hz118
 clear hc117
 obtain ⟨kk119, hkk119⟩ : ∃ q : Int, q = kk115 + ((cnt_IntS (lFrontier)) : Nat) := ⟨_, rfl⟩
 rw [← hkk119]
 have pkk119 : 0 ≤ kk119 := by omega
 have ukk119 : kk119 ≤ 8796093022208 := by omega
 have Hkkk119 := Lib.hid hkk119; clear hkk119 hcbw116
 go_wp2_with (first | (refine wpList_load_mid rfl 26 _ rfl (w.heap.size) 0 rfl csM _ bxM.range Tryz.underlying26 rfl (by rw [lenM]; exact sizeLawModel) ?_) | (refine wpList_load_mid rfl 44 _ rfl (w42.heap.size) 0 rfl csx0 _ bxx0.range Tryz.underlying44 rfl (by rw [lenx0]; exact sizeModel) ?_))
 refine (eqIntS_b _ _ _ _ _ _ _ _ _ (og0.rs rInt_ok) (ow0.rs rInt_ok)).mono ?_
 rintro e w120 ⟨rfl, hb121⟩
 have z122 := hb121.size
 try simp only [setCells_kit, setCells_size, World.size_alloc] at z122
 have Hz122 := Lib.hid z122; clear z122
 replace ow0 := ow0.belowS rInt_ok hb121
 replace ox0 := (rModel_ok NB).ownB ox0 hb121
 replace ox1 := (rQuery_ok NB).ownB ox1 hb121
 replace ox2 := (rSpace_ok NB).ownB ox2 hb121
 replace ox3 := ox3.belowS rInt_ok hb121
 replace og0 := og0.belowS rInt_ok hb121
 replace hB := hB.trans (hb121.mono hB.size)
 replace bxM := bxM.below hb121
 replace bxQ := bxQ.below hb121
 replace bxS := bxS.below hb121
 replace bxx0 := bxx0.below hb121
 replace bxx1 := bxx1.below hb121
 replace bxx2 := bxx2.below hb121
 clear hb121
 have hdr123 : decide ((reducePlans (fun k x => coversL xM xQ xS k x aBudget) (frontierPlans xS lFrontier) lFrontier) = (reducePlans (fun k x => coversL xM xQ xS k x aBudget) (frontierPlans xS lFrontier) lFrontier)) = true := by simp
 go_wp2_with (first | (refine wpList_load_mid rfl 26 _ rfl (w.heap.size) 0 rfl csM _ bxM.range Tryz.underlying26 rfl (by rw [lenM]; exact sizeLawModel) ?_) | (refine wpList_load_mid rfl 44 _ rfl (w42.heap.size) 0 rfl csx0 _ bxx0.range Tryz.underlying44 rfl (by rw [lenx0]; exact sizeModel) ?_))
 have hcbw124 : (cnt_IntS (reducePlans (fun k x => coversL xM xQ xS k x aBudget) (frontierPlans xS lFrontier) lFrontier)) ≤ 1099511627776 := hcbr.out
 refine (markIntS_m _ _ _ _ 1 _ _ og0 NDg0.out (by omega) (by omega)).mono ?_
 rintro e w124 ⟨rfl, omw124, hc125⟩
 replace hB := hB.trans (hc125.toBelow hB.size (fun k hk => by have := HFg0.out k hk; have := Hz6.out; have := Hz10.out; have := Hz14.out; have := Hz41.out; have := Hz44.out; have := Hz48.out; have := Hz52.out; have := Hz56.out; have := Hz59.out; have := Hz62.out; have := Hz74.out; have := Hz85.out; have := Hz96.out; have := Hz100.out; have := Hz103.out; have := Hz106.out; have := Hz110.out; have := Hz114.out; have := Hz118.out; have := Hz122.out; omega))
 replace bxM := bxM.chg hc125 (fun hk => by have := HFg0.out _ hk; have := ltg0.out _ hk; have := Hz6.out; have := Hz10.out; have := Hz14.out; have := Hz41.out; have := Hz44.out; have := Hz48.out; have := Hz52.out; have := Hz56.out; have := Hz59.out; have := Hz62.out; have := Hz74.out; have := Hz85.out; have := Hz96.out; have := Hz100.out; have := Hz103.out; have := Hz106.out; have := Hz110.out; have := Hz114.out; have := Hz118.out; have := Hz122.out; omega)
 replace bxQ := bxQ.chg hc125 (fun hk => by have := HFg0.out _ hk; have := ltg0.out _ hk; have := Hz6.out; have := Hz10.out; have := Hz14.out; have := Hz41.out; have := Hz44.out; have := Hz48.out; have := Hz52.out; have := Hz56.out; have := Hz59.out; have := Hz62.out; have := Hz74.out; have := Hz85.out; have := Hz96.out; have := Hz100.out; have := Hz103.out; have := Hz106.out; have := Hz110.out; have := Hz114.out; have := Hz118.out; have := Hz122.out; omega)
 replace bxS := bxS.chg hc125 (fun hk => by have := HFg0.out _ hk; have := ltg0.out _ hk; have := Hz6.out; have := Hz10.out; have := Hz14.out; have := Hz41.out; have := Hz44.out; have := Hz48.out; have := Hz52.out; have := Hz56.out; have := Hz59.out; have := Hz62.out; have := Hz74.out; have := Hz85.out; have := Hz96.out; have := Hz100.out; have := Hz103.out; have := Hz106.out; have := Hz110.out; have := Hz114.out; have := Hz118.out; have := Hz122.out; omega)
 replace bxx0 := bxx0.chg hc125 (fun hk => by have := HFg0.out _ hk; have := ltg0.out _ hk; have := Hz6.out; have := Hz10.out; have := Hz14.out; have := Hz41.out; have := Hz44.out; have := Hz48.out; have := Hz52.out; have := Hz56.out; have := Hz59.out; have := Hz62.out; have := Hz74.out; have := Hz85.out; have := Hz96.out; have := Hz100.out; have := Hz103.out; have := Hz106.out; have := Hz110.out; have := Hz114.out; have := Hz118.out; have := Hz122.out; omega)
 replace bxx1 := bxx1.chg hc125 (fun hk => by have := HFg0.out _ hk; have := ltg0.out _ hk; have := Hz6.out; have := Hz10.out; have := Hz14.out; have := Hz41.out; have := Hz44.out; have := Hz48.out; have := Hz52.out; have := Hz56.out; have := Hz59.out; have := Hz62.out; have := Hz74.out; have := Hz85.out; have := Hz96.out; have := Hz100.out; have := Hz103.out; have := Hz106.out; have := Hz110.out; have := Hz114.out; have := Hz118.out; have := Hz122.out; omega)
 replace bxx2 := bxx2.chg hc125 (fun hk => by have := HFg0.out _ hk; have := ltg0.out _ hk; have := Hz6.out; have := Hz10.out; have := Hz14.out; have := Hz41.out; have := Hz44.out; have := Hz48.out; have := Hz52.out; have := Hz56.out; have := Hz59.out; have := Hz62.out; have := Hz74.out; have := Hz85.out; have := Hz96.out; have := Hz100.out; have := Hz103.out; have := Hz106.out; have := Hz110.out; have := Hz114.out; have := Hz118.out; have := Hz122.out; omega)
 replace ow0 := ow0.chg rInt_ok hc125 (fun k hk hk' => by have := HFw0.out k hk; have := ltw0.out k hk; have := HFg0.out k hk'; have := ltg0.out k hk'; have := Hz6.out; have := Hz10.out; have := Hz14.out; have := Hz41.out; have := Hz44.out; have := Hz48.out; have := Hz52.out; have := Hz56.out; have := Hz59.out; have := Hz62.out; have := Hz74.out; have := Hz85.out; have := Hz96.out; have := Hz100.out; have := Hz103.out; have := Hz106.out; have := Hz110.out; have := Hz114.out; have := Hz118.out; have := Hz122.out; omega)
 replace ox0 := (rModel_ok NB).ownC ox0 hc125 (fun k hk hk' => by have := HFx0.out k hk; have := ltx0.out k hk; have := HFg0.out k hk'; have := ltg0.out k hk'; have := Hz6.out; have := Hz10.out; have := Hz14.out; have := Hz41.out; have := Hz44.out; have := Hz48.out; have := Hz52.out; have := Hz56.out; have := Hz59.out; have := Hz62.out; have := Hz74.out; have := Hz85.out; have := Hz96.out; have := Hz100.out; have := Hz103.out; have := Hz106.out; have := Hz110.out; have := Hz114.out; have := Hz118.out; have := Hz122.out; omega)
 replace ox1 := (rQuery_ok NB).ownC ox1 hc125 (fun k hk hk' => by have := HFx1.out k hk; have := ltx1.out k hk; have := HFg0.out k hk'; have := ltg0.out k hk'; have := Hz6.out; have := Hz10.out; have := Hz14.out; have := Hz41.out; have := Hz44.out; have := Hz48.out; have := Hz52.out; have := Hz56.out; have := Hz59.out; have := Hz62.out; have := Hz74.out; have := Hz85.out; have := Hz96.out; have := Hz100.out; have := Hz103.out; have := Hz106.out; have := Hz110.out; have := Hz114.out; have := Hz118.out; have := Hz122.out; omega)
 replace ox2 := (rSpace_ok NB).ownC ox2 hc125 (fun k hk hk' => by have := HFx2.out k hk; have := ltx2.out k hk; have := HFg0.out k hk'; have := ltg0.out k hk'; have := Hz6.out; have := Hz10.out; have := Hz14.out; have := Hz41.out; have := Hz44.out; have := Hz48.out; have := Hz52.out; have := Hz56.out; have := Hz59.out; have := Hz62.out; have := Hz74.out; have := Hz85.out; have := Hz96.out; have := Hz100.out; have := Hz103.out; have := Hz106.out; have := Hz110.out; have := Hz114.out; have := Hz118.out; have := Hz122.out; omega)
 replace ox3 := ox3.chg rInt_ok hc125 (fun k hk hk' => by have := HFx3.out k hk; have := ltx3.out k hk; have := HFg0.out k hk'; have := ltg0.out k hk'; have := Hz6.out; have := Hz10.out; have := Hz14.out; have := Hz41.out; have := Hz44.out; have := Hz48.out; have := Hz52.out; have := Hz56.out; have := Hz59.out; have := Hz62.out; have := Hz74.out; have := Hz85.out; have := Hz96.out; have := Hz100.out; have := Hz103.out; have := Hz106.out; have := Hz110.out; have := Hz114.out; have := Hz118.out; have := Hz122.out; omega)
 clear og0; have og0 := omw124; clear omw124
 have Hz126 := Lib.hid hc125.size
 try simp only [World.size_alloc] at Hz126
 clear hc125
 obtain ⟨kk127, hkk127⟩ : ∃ q : Int, q = 1 + ((cnt_IntS (reducePlans (fun k x => coversL xM xQ xS k x aBudget) (frontierPlans xS lFrontier) lFrontier)) : Nat) := ⟨_, rfl⟩
 rw [← hkk127]
 have pkk127 : 0 ≤ kk127 := by omega
 have ukk127 : kk127 ≤ 2199023255552 := by omega
 have Hkkk127 := Lib.hid hkk127; clear hkk127 hcbw124
 go_wp2_with (first | (refine wpList_load_mid rfl 26 _ rfl (w.heap.size) 0 rfl csM _ bxM.range Tryz.underlying26 rfl (by rw [lenM]; exact sizeLawModel) ?_) | (refine wpList_load_mid rfl 44 _ rfl (w42.heap.size) 0 rfl csx0 _ bxx0.range Tryz.underlying44 rfl (by rw [lenx0]; exact sizeModel) ?_))
 have hcbw128 : (cnt_IntS (reducePlans (fun k x => coversL xM xQ xS k x aBudget) (frontierPlans xS lFrontier) lFrontier)) ≤ 1099511627776 := hcbr.out
 refine (heldIntS_m _ _ _ (reducePlans (fun k x => coversL xM xQ xS k x aBudget) (frontierPlans xS lFrontier) lFrontier) 1 _ (og0.rs rInt_ok) (by omega) (by omega)).mono ?_
 rintro e w128 ⟨rfl, hb129⟩
 have z130 := hb129.size
 try simp only [setCells_kit, setCells_size, World.size_alloc] at z130
 have Hz130 := Lib.hid z130; clear z130
 replace ow0 := ow0.belowS rInt_ok hb129
 replace ox0 := (rModel_ok NB).ownB ox0 hb129
 replace ox1 := (rQuery_ok NB).ownB ox1 hb129
 replace ox2 := (rSpace_ok NB).ownB ox2 hb129
 replace ox3 := ox3.belowS rInt_ok hb129
 replace og0 := og0.belowS rInt_ok hb129
 replace hB := hB.trans (hb129.mono hB.size)
 replace bxM := bxM.below hb129
 replace bxQ := bxQ.below hb129
 replace bxS := bxS.below hb129
 replace bxx0 := bxx0.below hb129
 replace bxx1 := bxx1.below hb129
 replace bxx2 := bxx2.below hb129
 clear hb129 hcbw128
 rw [← Hkkk127.out]
 go_wp2_with (first | (refine wpList_load_mid rfl 26 _ rfl (w.heap.size) 0 rfl csM _ bxM.range Tryz.underlying26 rfl (by rw [lenM]; exact sizeLawModel) ?_) | (refine wpList_load_mid rfl 44 _ rfl (w42.heap.size) 0 rfl csx0 _ bxx0.range Tryz.underlying44 rfl (by rw [lenx0]; exact sizeModel) ?_))
 have SS131 : ∀ w', Below w128.heap.size w128 w' → (Below w128.heap.size w128 w' ∧ w'.rangeAt (w.heap.size) 0 csM ∧ w'.cell? ⟨w.heap.size + 1, 0, none⟩ = some (.int .i64 xQ.fVariableCount) ∧ w'.cell? ⟨w.heap.size + 1, 1, none⟩ = some (.slice AQAtoms nQAtoms cQAtoms) ∧ w'.cell? ⟨w.heap.size + 1 + 1, 0, none⟩ = some (.slice ASBoxLow nSBoxLow cSBoxLow) ∧ w'.cell? ⟨w.heap.size + 1 + 1, 1, none⟩ = some (.slice ASBoxHigh nSBoxHigh cSBoxHigh) ∧ w'.cell? ⟨w.heap.size + 1 + 1, 2, none⟩ = some (.slice ASCosts nSCosts cSCosts) ∧ w'.cell? ⟨w.heap.size + 1 + 1, 3, none⟩ = some (.slice ASChoices nSChoices cSChoices) ∧ w'.cell? ⟨w.heap.size + 1 + 1, 4, none⟩ = some (.slice ASPlans nSPlans cSPlans)) := fun w' hb => ⟨hb, (bxM.below hb).range, bxQ.below hb 0 _ rfl, bxQ.below hb 1 _ rfl, bxS.below hb 0 _ rfl, bxS.below hb 1 _ rfl, bxS.below hb 2 _ rfl, bxS.below hb 3 _ rfl, bxS.below hb 4 _ rfl⟩
 have HSS131 := Lib.hid SS131; clear SS131
 refine hbg HSS131.out (Below.refl _ _).drew (fun hHeld => ?_)
 refine' wpAnyH_take (i := 0) (oi := ⟨some 119,_,_,_,_,_⟩) (v := _) rfl (by kernel_rfl) (by kernel_rfl) (by kernel_rfl) (fun _ _ _ h => h) (yieldsIf_load_mid (by rfl) _ _ rfl _ _ rfl _ _ (fun w h => h.2.1) Tryz.underlying26 rfl (by rw [lenM]; exact sizeLawModel)) hHeld ?_
 simp only [putS]
 refine tka 2 121 hHeld ?_; simp only [putS]
 refine tka 4 123 hHeld ?_; simp only [putS]
 refine tka 6 125 hHeld ?_; simp only [putS]
 refine tka 8 127 hHeld ?_; simp only [putS]
 refine wpAnyH_ready (rs := [1]) (by kernel_rfl) (by simp) ?_
 refine AllReadyH.cons (o := ⟨some 120, _, _, _, _, _⟩) rfl (fun K hK => ?_) AllReadyH.nil
 clear hHeld
 go_simp
 refine (toModel_c _ xM _ ((rModel_ok NB).keep sM (cells_below (hB.trans (Below.mono ((Below.refl w128.heap.size w128).drew) hB.size))))).mono ?_
 rintro e w133 ⟨csv132, fv132, rfl, ov132, frv132, hb134⟩
 have hC135 : Below w128.heap.size w128 w133 := Below.trans ((Below.refl w128.heap.size w128).drew) (hb134.mono ((Below.refl w128.heap.size w128).drew).size)
 have Rv132 := (rModel_ok NB).toRep ov132
 go_wp2_with fail
 refine hK.out _ _ (HSS131.out _ hC135) (fun hHeld => ?_)
 clear hK K
 try simp only [putS]
 refine wpAnyH_ready (rs := [3]) (by kernel_rfl) (by simp) ?_
 refine AllReadyH.cons (o := ⟨some 122, _, _, _, _, _⟩) rfl (fun K hK => ?_) AllReadyH.nil
 clear hHeld
 go_simp
 refine (toQuery_c _ xQ _ ((rQuery_ok NB).keep sQ (cells_below (hB.trans (Below.mono (hC135) hB.size))))).mono ?_
 rintro e w138 ⟨csv137, fv137, rfl, ov137, frv137, hb139⟩
 have hC140 : Below w128.heap.size w128 w138 := Below.trans (hC135) (hb139.mono (hC135).size)
 have Rv137 := (rQuery_ok NB).toRep ov137
 replace Rv132 := (rModel_ok NB).keep Rv132 (cells_below hb139)
 go_wp2_with fail
 refine hK.out _ _ (HSS131.out _ hC140) (fun hHeld => ?_)
 clear hK K
 try simp only [putS]
 refine wpAnyH_ready (rs := [5]) (by kernel_rfl) (by simp) ?_
 refine AllReadyH.cons (o := ⟨some 124, _, _, _, _, _⟩) rfl (fun K hK => ?_) AllReadyH.nil
 clear hHeld
 go_simp
 refine (toSpace_c _ xS _ ((rSpace_ok NB).keep sS (cells_below (hB.trans (Below.mono (hC140) hB.size))))).mono ?_
 rintro e w143 ⟨csv142, fv142, rfl, ov142, frv142, hb144⟩
 have hC145 : Below w128.heap.size w128 w143 := Below.trans (hC140) (hb144.mono (hC140).size)
 have Rv142 := (rSpace_ok NB).toRep ov142
 replace Rv132 := (rModel_ok NB).keep Rv132 (cells_below hb144)
 replace Rv137 := (rQuery_ok NB).keep Rv137 (cells_below hb144)
 go_wp2_with fail
 refine hK.out _ _ (HSS131.out _ hC145) (fun hHeld => ?_)
 clear hK K
 try simp only [putS]
 refine wpAnyH_ready (rs := [7]) (by kernel_rfl) (by simp) ?_
 refine AllReadyH.cons (o := ⟨some 126, _, _, _, _, _⟩) rfl (fun K hK => ?_) AllReadyH.nil
 clear hHeld
 go_simp
 refine (toIntS_c _ _ _ _ _ (sFrontier.below rInt_ok (hB.trans (Below.mono (hC145) hB.size)))).mono ?_
 rintro e w148 ⟨Av147, nv147, cv147, rfl, ⟨fv147, Mv147, frv147⟩, hb149⟩
 have hC150 : Below w128.heap.size w128 w148 := Below.trans (hC145) (hb149.mono (hC145).size)
 have Rv147 := Mv147.rs rInt_ok
 replace Rv132 := (rModel_ok NB).keep Rv132 (cells_below hb149)
 replace Rv137 := (rQuery_ok NB).keep Rv137 (cells_below hb149)
 replace Rv142 := (rSpace_ok NB).keep Rv142 (cells_below hb149)
 go_wp2_with fail
 refine hK.out _ _ (HSS131.out _ hC150) (fun hHeld => ?_)
 clear hK K
 try simp only [putS]
 refine wpAnyH_ready (rs := [9]) (by kernel_rfl) (by simp) ?_
 refine AllReadyH.cons (o := ⟨some 128, _, _, _, _, _⟩) rfl (fun K hK => ?_) AllReadyH.nil
 clear hHeld
 go_simp
 refine (iReducePlans_c _ xM _ xQ _ xS _ _ _ _ _ _ Rv132 Rv137 Rv142 Rv147).mono ?_
 rintro e w152 ⟨Ah0, nh0, ch0, rfl, ⟨fh0, oh0, frh0⟩, hb153⟩
 have hC154 : Below w128.heap.size w128 w152 := Below.trans (hC150) (hb153.mono (hC150).size)
 go_wp2_with fail
 refine hK.out _ _ (HSS131.out _ hC154) (fun hHeld => ?_)
 clear hK K
 try simp only [putS]
 refine tka 10 21 hHeld ?_; simp only [putS]
 refine wpAnyH_done (by kernel_rfl) ?_ _
 clear hHeld
 have z156 := hC154.size
 try simp only [setCells_kit, setCells_size, World.size_alloc] at z156
 have Hz156 := Lib.hid z156; clear z156
 replace ow0 := ow0.belowS rInt_ok hC154
 replace ox0 := (rModel_ok NB).ownB ox0 hC154
 replace ox1 := (rQuery_ok NB).ownB ox1 hC154
 replace ox2 := (rSpace_ok NB).ownB ox2 hC154
 replace ox3 := ox3.belowS rInt_ok hC154
 replace og0 := og0.belowS rInt_ok hC154
 replace hB := hB.trans (hC154.mono hB.size)
 replace bxM := bxM.below hC154
 replace bxQ := bxQ.below hC154
 replace bxS := bxS.below hC154
 replace bxx0 := bxx0.below hC154
 replace bxx1 := bxx1.below hC154
 replace bxx2 := bxx2.below hC154
 clear HSS131 hC154
 have lth0 := Lib.hid (oh0.lt rInt_ok)
 have fsh0 := frh0
 have HFh0 : Hid (∀ k ∈ fh0, _ ≤ k) := fsh0.ge
 try simp only [setCells_kit, setCells_size, World.size_alloc] at HFh0
 have ndh0 := fsh0.nd; have NDh0 := Lib.hid ndh0; clear ndh0 fsh0
 go_wp2_with (first | (refine wpList_load_mid rfl 26 _ rfl (w.heap.size) 0 rfl csM _ bxM.range Tryz.underlying26 rfl (by rw [lenM]; exact sizeLawModel) ?_) | (refine wpList_load_mid rfl 44 _ rfl (w42.heap.size) 0 rfl csx0 _ bxx0.range Tryz.underlying44 rfl (by rw [lenx0]; exact sizeModel) ?_))
 refine (eqIntS_b _ _ _ _ _ _ _ _ _ (oh0.rs rInt_ok) (ow0.rs rInt_ok)).mono ?_
 rintro e w157 ⟨rfl, hb158⟩
 have z159 := hb158.size
 try simp only [setCells_kit, setCells_size, World.size_alloc] at z159
 have Hz159 := Lib.hid z159; clear z159
 replace ow0 := ow0.belowS rInt_ok hb158
 replace ox0 := (rModel_ok NB).ownB ox0 hb158
 replace ox1 := (rQuery_ok NB).ownB ox1 hb158
 replace ox2 := (rSpace_ok NB).ownB ox2 hb158
 replace ox3 := ox3.belowS rInt_ok hb158
 replace og0 := og0.belowS rInt_ok hb158
 replace oh0 := oh0.belowS rInt_ok hb158
 replace hB := hB.trans (hb158.mono hB.size)
 replace bxM := bxM.below hb158
 replace bxQ := bxQ.below hb158
 replace bxS := bxS.below hb158
 replace bxx0 := bxx0.below hb158
 replace bxx1 := bxx1.below hb158
 replace bxx2 := bxx2.below hb158
 clear hb158
 have hdr160 : decide ((reducePlans (fun k x => coversL xM xQ xS k x aBudget) (frontierPlans xS lFrontier) lFrontier) = (reducePlans (fun k x => coversL xM xQ xS k x aBudget) (frontierPlans xS lFrontier) lFrontier)) = true := by simp
 go_wp2_with (first | (refine wpList_load_mid rfl 26 _ rfl (w.heap.size) 0 rfl csM _ bxM.range Tryz.underlying26 rfl (by rw [lenM]; exact sizeLawModel) ?_) | (refine wpList_load_mid rfl 44 _ rfl (w42.heap.size) 0 rfl csx0 _ bxx0.range Tryz.underlying44 rfl (by rw [lenx0]; exact sizeModel) ?_))
 have hcbw161 : (cnt_IntS (reducePlans (fun k x => coversL xM xQ xS k x aBudget) (frontierPlans xS lFrontier) lFrontier)) ≤ 1099511627776 := hcbr.out
 refine (heldIntS_m _ _ _ (reducePlans (fun k x => coversL xM xQ xS k x aBudget) (frontierPlans xS lFrontier) lFrontier) 1 _ (og0.rs rInt_ok) (by omega) (by omega)).mono ?_
 rintro e w161 ⟨rfl, hb162⟩
 have z163 := hb162.size
 try simp only [setCells_kit, setCells_size, World.size_alloc] at z163
 have Hz163 := Lib.hid z163; clear z163
 replace ow0 := ow0.belowS rInt_ok hb162
 replace ox0 := (rModel_ok NB).ownB ox0 hb162
 replace ox1 := (rQuery_ok NB).ownB ox1 hb162
 replace ox2 := (rSpace_ok NB).ownB ox2 hb162
 replace ox3 := ox3.belowS rInt_ok hb162
 replace og0 := og0.belowS rInt_ok hb162
 replace oh0 := oh0.belowS rInt_ok hb162
 replace hB := hB.trans (hb162.mono hB.size)
 replace bxM := bxM.below hb162
 replace bxQ := bxQ.below hb162
 replace bxS := bxS.below hb162
 replace bxx0 := bxx0.below hb162
 replace bxx1 := bxx1.below hb162
 replace bxx2 := bxx2.below hb162
 clear hb162 hcbw161
 rw [← Hkkk127.out]
 go_wp2
 go_ret
 exact ⟨rfl, hB⟩

set_option maxRecDepth 100000 in
theorem lifted (os : Os) (started : os.Started) (H : Type) (enc : TypeId × Value → H) :
  ReturnsInHanded {} Tryz.checked os 3 .any (Rows.fnExactReducePlansSpec.pre6 enc Tryz.prog Tryz.f3 Rows.fnExactReducePlansRow.domain false) (Rows.fnExactReducePlansSpec.post enc Tryz.prog Tryz.f3 false true false false) := by
 refine returnsInHanded_of_change (C := Tryz.checked) own started (by kernel_rfl) Tryz.func3
  (ChangeSpec.witness6 (enc := enc) (C := Tryz.checked) false ⟨#[], #[.agg #[.int .i64 0, .int .i64 0, .int .i64 0, .int .i64 0, .int .i64 0, .slice none 0 0, .int .i64 0, .int .i64 0, .int .i64 0, .int .i64 0, .int .i64 0, .slice none 0 0, .int .i64 0, .int .i64 0, .int .i64 0, .int .i64 0, .int .i64 0, .slice none 0 0, .int .i64 0, .int .i64 0, .int .i64 0, .int .i64 0, .int .i64 0, .slice none 0 0, .int .i64 0, .int .i64 0, .int .i64 0, .int .i64 0, .int .i64 0, .slice none 0 0], .agg #[.int .i64 0, .slice none 0 0], .agg #[.slice none 0 0, .slice none 0 0, .slice none 0 0, .slice none 0 0, .slice none 0 0], .slice none 0 0, .int .i64 0], []⟩ 8 (by kernel_rfl) (by kernel_rfl) (by kernel_rfl) (by kernel_rfl)) ?_
 intro W base args ds gs before hval0 hW hcnd _
 have hval : ∀ (j : Nat) t v, Tryz.f3.params[j]? = some t → args[j]? = some v → Value.okWide Tryz.prog W .any base t v := hval0
 have hW' := hW
 obtain ⟨p, q, hA0, hV, rfl, hfz, hnd⟩ := hW
 have hA : DataW.TrodAll enc Tryz.prog W 0 (fun _ => true) true Tryz.f3.params.toList args.toList ds p := hA0
 rw [Tryz.params3] at hA hval
 obtain ⟨v0, vs0, d0, ds0, p0, q0, hargs, rfl, rfl, h0, r0⟩ := trodAll_cons hA
 obtain ⟨v1, vs1, d1, ds1, p1, q1, rfl, rfl, rfl, h1, r1⟩ := trodAll_cons r0
 obtain ⟨v2, vs2, d2, ds2, p2, q2, rfl, rfl, rfl, h2, r2⟩ := trodAll_cons r1
 obtain ⟨v3, vs3, d3, ds3, p3, q3, rfl, rfl, rfl, h3, r3⟩ := trodAll_cons r2
 obtain ⟨v4, vs4, d4, ds4, p4, q4, rfl, rfl, rfl, h4, r4⟩ := trodAll_cons r3
 obtain ⟨rfl, rfl, rfl⟩ := trodAll_nil r4
 obtain rfl : args = #[v0, v1, v2, v3, v4] := by cases args; simp_all
 obtain ⟨rfl, rfl⟩ := trodVars_none hV
 obtain ⟨ca0, rfl, _⟩ := okWide_struct Tryz.underlying26 (hval 0 26 v0 rfl rfl)
 obtain ⟨cl0⟩ := ca0
 have k0 := h0
 have lt0 : ∀ x ∈ p0, x.block < W.heap.size := by obtain ⟨m, hm⟩ := k0; exact DataW.trod_lt m _ _ _ hm
 obtain ⟨x0, g0⟩ : ∃ x, (rModel maxLen).rep W cl0 x := by
  obtain ⟨fuel, hf⟩ := h0
  exact opensModel hf
 obtain ⟨ca1, rfl, _⟩ := okWide_struct Tryz.underlying29 (hval 1 29 v1 rfl rfl)
 obtain ⟨cl1⟩ := ca1
 have k1 := h1
 have lt1 : ∀ x ∈ p1, x.block < W.heap.size := by obtain ⟨m, hm⟩ := k1; exact DataW.trod_lt m _ _ _ hm
 obtain ⟨x1, g1⟩ : ∃ x, (rQuery maxLen).rep W cl1 x := by
  obtain ⟨fuel, hf⟩ := h1
  exact opensQuery hf
 obtain ⟨ca2, rfl, _⟩ := okWide_struct Tryz.underlying35 (hval 2 35 v2 rfl rfl)
 obtain ⟨cl2⟩ := ca2
 have k2 := h2
 have lt2 : ∀ x ∈ p2, x.block < W.heap.size := by obtain ⟨m, hm⟩ := k2; exact DataW.trod_lt m _ _ _ hm
 obtain ⟨x2, g2⟩ : ∃ x, (rSpace maxLen).rep W cl2 x := by
  obtain ⟨fuel, hf⟩ := h2
  exact opensSpace hf
 obtain ⟨A3, n3, c3, rfl⟩ := okWide_slice Tryz.underlying30 (hval 3 30 v3 rfl rfl)
 have k3 := h3
 have lt3 : ∀ x ∈ p3, x.block < W.heap.size := by obtain ⟨m, hm⟩ := k3; exact DataW.trod_lt m _ _ _ hm
 obtain ⟨l3, g3⟩ : ∃ l, RS maxLen rInt W A3 n3 c3 l := by
  obtain ⟨fuel, hf⟩ := h3
  obtain ⟨l, A, n, c, e, hr⟩ := (opens_slice rInt_ok Tryz.underlying30 (by kernel_rfl) (opens_int Tryz.underlying3)) hf
  simp [Value.cells] at e
  obtain ⟨rfl, rfl, rfl⟩ := e
  exact ⟨l, hr⟩
 obtain ⟨a4, rfl, rfl, rfl, w4⟩ := open_int Tryz.underlying3 (hval 4 3 v4 rfl rfl) h4
 clear hA0 hval0
 refine (walk cl0 x0 cl1 x1 cl2 x2 A3 n3 c3 l3 a4 W g0 g1 g2 g3 (bounds_i64 w4)).mono fun e W' ⟨he, bel⟩ => ?_
 subst he
 exact ⟨_, rfl, _, _, _, [], _, [], hW', trodAll_mk1 (shut_bool Tryz.underlying4 _), (trodAll_cons_mk (Below.trod laidOut (by kernel_rfl) (of_decide_eq_true (by kernel_rfl)) k0 bel lt0) (trodAll_cons_mk (Below.trod laidOut (by kernel_rfl) (of_decide_eq_true (by kernel_rfl)) k1 bel lt1) (trodAll_cons_mk (Below.trod laidOut (by kernel_rfl) (of_decide_eq_true (by kernel_rfl)) k2 bel lt2) (trodAll_cons_mk (Below.trod laidOut (by kernel_rfl) (of_decide_eq_true (by kernel_rfl)) k3 bel lt3) (trodAll_cons_mk (shut_int Tryz.underlying3 w4) trodAll_mk0))))), rfl, bel.frame _, fun h => by cases h⟩

theorem over : Rows.fnExactReducePlansRow.holds Tryz.pinned (OpenSpec.ofChange Rows.fnExactReducePlansSpec) :=
 OpenClaim.holds_of_wide 3 Tryz.f3 rfl rfl rfl rfl rfl rfl rfl ⟨rfl, rfl, rfl, rfl, rfl⟩ rfl rfl rfl rfl rfl (by kernel_rfl) Tryz.func3 (by kernel_rfl)
  (of_decide_eq_true (by kernel_rfl)) (by unfold Func.isWrapper; first | (rw [if_pos (by decide +kernel)]; kernel_rfl) | (rw [if_neg (by decide +kernel)]; exact ⟨rfl, rfl⟩))
  (fun os started H enc _ => lifted os started H enc)

theorem proved : Rows.FnExactReducePlansSaid := over
#print axioms proved
end Go.Proofs.YtbmaigkgjmkihaaGreat.fnExactReducePlans
