/-
  For every input the law FnExactFrontier returns true and leaves its arguments as they were; no condition beyond the statement's own.
-/
import Derived.Test.YtbipbinbehkjhaaRows
import Derived.Test.YtbipbinbehkjhaaFrontier
import Derived.Test.YtbipbinbehkjhaaOpens
import Derived.Test.YtbipbinbehkjhaaTo
import Derived.Test.YtbipbinbehkjhaaEq
import Derived.Test.YtbipbinbehkjhaaMarkC
import Derived.WalkKit
import Derived.ProofKit
import Derived.OpenShut
import Derived.ShutString
import Derived.ChangeOld
import Derived.Below
import Derived.Deep.RegionHeld3
import Derived.Test.YtbipbinbehkjhaaMark
import Derived.Test.YtbipbinbehkjhaaMarkC
namespace Go.Proofs.Ytbipbinbehkjhaa.fnExactFrontier
open Go.ChangeShapes Go.WideShapes Go.ChangeAt Go.RowKit
open Go.ChangeMaps (open_string shut_string)
set_option linter.unusedVariables false
set_option linter.unusedSimpArgs false

theorem own : ownKnob Try.prog.godebug = none := by kernel_rfl
theorem laidOut : laidOutB Try.prog = true := by kernel_rfl

set_option maxRecDepth 100000 in
set_option maxHeartbeats 4000000 in
theorem walk (csS : List Value) (xS : SpaceD) (aBudget : Int) (w : World) (rS : (rSpace maxLen).rep w csS xS) (iBudget : I64 aBudget) :
    Calls Try.prog 9 #[.agg csS.toArray, .int .i64 aBudget] w fun e w' => e = .returned (.bool true) ∧ Below w.heap.size w w' := by
  have hB : Below w.heap.size w w := Below.refl _ _
  have qS := rS
  obtain ⟨ASBoxLow, nSBoxLow, cSBoxLow, ASBoxHigh, nSBoxHigh, cSBoxHigh, ASCosts, nSCosts, cSCosts, ASChoices, nSChoices, cSChoices, ASPlans, nSPlans, cSPlans, rfl, hSBoxLow, hSBoxHigh, hSCosts, hSChoices, hSPlans⟩ := rSpace_rep.1 qS
  clear qS
  go_enter Try.func9, Try.ntmps9
  have hA1 := (Below.refl (World.heap (w)).size (w)).alloc (Nat.le_refl _) (.cells #[.slice ASBoxLow nSBoxLow cSBoxLow, .slice ASBoxHigh nSBoxHigh cSBoxHigh, .slice ASCosts nSCosts cSCosts, .slice ASChoices nSChoices cSChoices, .slice ASPlans nSPlans cSPlans] 76)
  replace hB := hB.trans (hA1.mono hB.size)
  have bxS := Bx.new (w) [.slice ASBoxLow nSBoxLow cSBoxLow, .slice ASBoxHigh nSBoxHigh cSBoxHigh, .slice ASCosts nSCosts cSCosts, .slice ASChoices nSChoices cSChoices, .slice ASPlans nSPlans cSPlans] 76
  clear hA1
  go_wp2_with fail
  refine (szSpace_c _ xS _ _ ((rSpace_ok maxLen).keep rS (cells_below hB)) (by omega) (by omega)).mono ?_
  rintro e w3 ⟨rfl, hb2⟩
  have z4 := hb2.size
  try simp only [World.size_alloc] at z4
  have Hz4 := Lib.hid z4; clear z4
  replace hB := hB.trans (hb2.mono hB.size)
  replace bxS := bxS.below hb2
  clear hb2
  by_cases hszS : ((bulkSpace xS : Nat) : Int) ≤ 1048576
  rotate_left
  · rw [lessBy_no hszS]
    go_wp2
    go_ret
    exact ⟨rfl, hB⟩
  rw [lessBy_yes hszS]
  have sS := smallSpace rS (by omega)
  obtain ⟨L5, hL5⟩ : ∃ L : Int, L = 1048576 - ((bulkSpace xS : Nat) : Int) := ⟨_, rfl⟩
  rw [← hL5]
  have pL5 : 0 ≤ L5 := by omega
  have uL5 : L5 ≤ 1048576 := by omega
  clear hL5
  have cbxS_0 := bxS 0 _ rfl
  have cbxS_1 := bxS 1 _ rfl
  have cbxS_2 := bxS 2 _ rfl
  have cbxS_3 := bxS 3 _ rfl
  have cbxS_4 := bxS 4 _ rfl
  go_wp2_with fail
  refine (toSpace_c _ xS _ ((rSpace_ok NB).keep sS (cells_below hB))).mono ?_
  rintro e w7 ⟨csv6, fv6, rfl, ov6, frv6, hb8⟩
  have z9 := hb8.size
  try simp only [World.size_alloc] at z9
  have Hz9 := Lib.hid z9; clear z9
  replace hB := hB.trans (hb8.mono hB.size)
  replace bxS := bxS.below hb8
  clear hb8 cbxS_0 cbxS_1 cbxS_2 cbxS_3 cbxS_4
  have Rv6 := (rSpace_ok NB).toRep ov6
  have cbxS_0 := bxS 0 _ rfl
  have cbxS_1 := bxS 1 _ rfl
  have cbxS_2 := bxS 2 _ rfl
  have cbxS_3 := bxS 3 _ rfl
  have cbxS_4 := bxS 4 _ rfl
  go_wp2_with fail
  refine (sFrontier_c _ xS _ _ Rv6).mono ?_
  rintro e w10 ⟨Aw0, nw0, cw0, rfl, ⟨fw0, ow0, frw0⟩, hb11⟩
  have z12 := hb11.size
  try simp only [World.size_alloc] at z12
  have Hz12 := Lib.hid z12; clear z12
  replace hB := hB.trans (hb11.mono hB.size)
  replace bxS := bxS.below hb11
  clear hb11 cbxS_0 cbxS_1 cbxS_2 cbxS_3 cbxS_4
  have ltw0 := Lib.hid (ow0.lt rInt_ok)
  have fsw0 := frw0
  have HFw0 : Hid (∀ k ∈ fw0, _ ≤ k) := fsw0.ge
  try simp only [World.size_alloc] at HFw0
  have ndw0 := fsw0.nd; have NDw0 := Lib.hid ndw0; clear ndw0 fsw0
  have cbxS_0 := bxS 0 _ rfl
  have cbxS_1 := bxS 1 _ rfl
  have cbxS_2 := bxS 2 _ rfl
  have cbxS_3 := bxS 3 _ rfl
  have cbxS_4 := bxS 4 _ rfl
  go_wp2_with fail
  refine (toSpace_c _ xS _ ((rSpace_ok NB).keep sS (cells_below hB))).mono ?_
  rintro e w13 ⟨csx0, fx0, rfl, ox0, frx0, hb14⟩
  have z15 := hb14.size
  try simp only [World.size_alloc] at z15
  have Hz15 := Lib.hid z15; clear z15
  replace ow0 := ow0.belowS rInt_ok hb14
  replace hB := hB.trans (hb14.mono hB.size)
  replace bxS := bxS.below hb14
  clear hb14 cbxS_0 cbxS_1 cbxS_2 cbxS_3 cbxS_4
  have ltx0 := Lib.hid ((rSpace_ok NB).lt ox0)
  have fsx0 := frx0
  have HFx0 : Hid (∀ k ∈ fx0, _ ≤ k) := fsx0.ge
  try simp only [World.size_alloc] at HFx0
  have ndx0 := fsx0.nd; have NDx0 := Lib.hid ndx0; clear ndx0 fsx0
  obtain ⟨Ax0BoxLow, nx0BoxLow, cx0BoxLow, Ax0BoxHigh, nx0BoxHigh, cx0BoxHigh, Ax0Costs, nx0Costs, cx0Costs, Ax0Choices, nx0Choices, cx0Choices, Ax0Plans, nx0Plans, cx0Plans, rfl, _, _, _, _, _⟩ := rSpace_rep.1 ((rSpace_ok NB).toRep ox0)
  have hA16 := (Below.refl w13.heap.size w13).alloc (Nat.le_refl _) (.cells #[.slice Ax0BoxLow nx0BoxLow cx0BoxLow, .slice Ax0BoxHigh nx0BoxHigh cx0BoxHigh, .slice Ax0Costs nx0Costs cx0Costs, .slice Ax0Choices nx0Choices cx0Choices, .slice Ax0Plans nx0Plans cx0Plans] 81)
  replace ow0 := ow0.belowS rInt_ok hA16
  replace ox0 := (rSpace_ok NB).ownB ox0 hA16
  replace hB := hB.trans (hA16.mono hB.size)
  replace bxS := bxS.below hA16
  have bxx0 := Bx.new w13 [.slice Ax0BoxLow nx0BoxLow cx0BoxLow, .slice Ax0BoxHigh nx0BoxHigh cx0BoxHigh, .slice Ax0Costs nx0Costs cx0Costs, .slice Ax0Choices nx0Choices cx0Choices, .slice Ax0Plans nx0Plans cx0Plans] 81
  clear hA16
  have cbxx0_0 := bxx0 0 _ rfl
  have cbxx0_1 := bxx0 1 _ rfl
  have cbxx0_2 := bxx0 2 _ rfl
  have cbxx0_3 := bxx0 3 _ rfl
  have cbxx0_4 := bxx0 4 _ rfl
  go_wp2_with fail
  refine (iFrontier_c _ xS _ _ ((rSpace_ok NB).toRep ox0)).mono ?_
  rintro e w17 ⟨Ag0, ng0, cg0, rfl, ⟨fg0, og0, frg0⟩, hb18⟩
  have z19 := hb18.size
  try simp only [World.size_alloc] at z19
  have Hz19 := Lib.hid z19; clear z19
  replace ow0 := ow0.belowS rInt_ok hb18
  replace ox0 := (rSpace_ok NB).ownB ox0 hb18
  replace hB := hB.trans (hb18.mono hB.size)
  replace bxS := bxS.below hb18
  replace bxx0 := bxx0.below hb18
  clear hb18 cbxx0_0 cbxx0_1 cbxx0_2 cbxx0_3 cbxx0_4
  have ltg0 := Lib.hid (og0.lt rInt_ok)
  have fsg0 := frg0
  have HFg0 : Hid (∀ k ∈ fg0, _ ≤ k) := fsg0.ge
  try simp only [World.size_alloc] at HFg0
  have ndg0 := fsg0.nd; have NDg0 := Lib.hid ndg0; clear ndg0 fsg0
  have hnei : ∀ v : Int, (v != v) = false := fun v => by simp
  have hneb : ∀ v : Bool, (v == v) = true := fun v => by simp
  go_wp2_with fail
  refine (eqIntS_b _ _ _ _ _ _ _ _ _ (og0.rs rInt_ok) (ow0.rs rInt_ok)).mono ?_
  rintro e w20 ⟨rfl, hb21⟩
  have z22 := hb21.size
  try simp only [World.size_alloc] at z22
  have Hz22 := Lib.hid z22; clear z22
  replace ow0 := ow0.belowS rInt_ok hb21
  replace ox0 := (rSpace_ok NB).ownB ox0 hb21
  replace og0 := og0.belowS rInt_ok hb21
  replace hB := hB.trans (hb21.mono hB.size)
  replace bxS := bxS.below hb21
  replace bxx0 := bxx0.below hb21
  clear hb21
  have hdr23 : decide ((frontier xS aBudget) = (frontier xS aBudget)) = true := by simp
  go_wp2_with fail
  have SS24 : ∀ w', Below w20.heap.size w20 w' → (Below w20.heap.size w20 w' ∧ w'.cell? ⟨w.heap.size, 0, none⟩ = some (.slice ASBoxLow nSBoxLow cSBoxLow) ∧ w'.cell? ⟨w.heap.size, 1, none⟩ = some (.slice ASBoxHigh nSBoxHigh cSBoxHigh) ∧ w'.cell? ⟨w.heap.size, 2, none⟩ = some (.slice ASCosts nSCosts cSCosts) ∧ w'.cell? ⟨w.heap.size, 3, none⟩ = some (.slice ASChoices nSChoices cSChoices) ∧ w'.cell? ⟨w.heap.size, 4, none⟩ = some (.slice ASPlans nSPlans cSPlans) ∧ w'.cell? ⟨w13.heap.size, 0, none⟩ = some (.slice Ax0BoxLow nx0BoxLow cx0BoxLow) ∧ w'.cell? ⟨w13.heap.size, 1, none⟩ = some (.slice Ax0BoxHigh nx0BoxHigh cx0BoxHigh) ∧ w'.cell? ⟨w13.heap.size, 2, none⟩ = some (.slice Ax0Costs nx0Costs cx0Costs) ∧ w'.cell? ⟨w13.heap.size, 3, none⟩ = some (.slice Ax0Choices nx0Choices cx0Choices) ∧ w'.cell? ⟨w13.heap.size, 4, none⟩ = some (.slice Ax0Plans nx0Plans cx0Plans)) := fun w' hb => ⟨hb, bxS.below hb 0 _ rfl, bxS.below hb 1 _ rfl, bxS.below hb 2 _ rfl, bxS.below hb 3 _ rfl, bxS.below hb 4 _ rfl, bxx0.below hb 0 _ rfl, bxx0.below hb 1 _ rfl, bxx0.below hb 2 _ rfl, bxx0.below hb 3 _ rfl, bxx0.below hb 4 _ rfl⟩
  have HSS24 := Lib.hid SS24; clear SS24
  have tok29 : True := trivial
  have tok33 : True := trivial
  go_region_held3 (fun w' => Below w20.heap.size w20 w' ∧ w'.cell? ⟨w.heap.size, 0, none⟩ = some (.slice ASBoxLow nSBoxLow cSBoxLow) ∧ w'.cell? ⟨w.heap.size, 1, none⟩ = some (.slice ASBoxHigh nSBoxHigh cSBoxHigh) ∧ w'.cell? ⟨w.heap.size, 2, none⟩ = some (.slice ASCosts nSCosts cSCosts) ∧ w'.cell? ⟨w.heap.size, 3, none⟩ = some (.slice ASChoices nSChoices cSChoices) ∧ w'.cell? ⟨w.heap.size, 4, none⟩ = some (.slice ASPlans nSPlans cSPlans) ∧ w'.cell? ⟨w13.heap.size, 0, none⟩ = some (.slice Ax0BoxLow nx0BoxLow cx0BoxLow) ∧ w'.cell? ⟨w13.heap.size, 1, none⟩ = some (.slice Ax0BoxHigh nx0BoxHigh cx0BoxHigh) ∧ w'.cell? ⟨w13.heap.size, 2, none⟩ = some (.slice Ax0Costs nx0Costs cx0Costs) ∧ w'.cell? ⟨w13.heap.size, 3, none⟩ = some (.slice Ax0Choices nx0Choices cx0Choices) ∧ w'.cell? ⟨w13.heap.size, 4, none⟩ = some (.slice Ax0Plans nx0Plans cx0Plans)) (first | exact HSS24.out _ (Below.refl _ _).drew | exact HSS24.out _ (by assumption)) (first | (go_at_call 47; have _t := tok29; refine (toSpace_c _ xS _ ((rSpace_ok NB).keep sS (cells_below (hB.trans (Below.mono ((Below.refl w20.heap.size w20).drew) hB.size))))).mono ?_; rintro e w26 ⟨csv25, fv25, rfl, ov25, frv25, hb27⟩; have hC28 : Below w20.heap.size w20 w26 := Below.trans ((Below.refl w20.heap.size w20).drew) (hb27.mono ((Below.refl w20.heap.size w20).drew).size); have Rv25 := (rSpace_ok NB).toRep ov25; clear tok29) | (go_at_call 49; have _t := tok33; refine (eqSpace_c _ _ xS xS _ ((rSpace_ok NB).keep ((rSpace_ok NB).toRep ox0) (cells_below (hC28))) Rv25).mono ?_; rintro e w30 ⟨rfl, hb31⟩; have hC32 : Below w20.heap.size w20 w30 := Below.trans (hC28) (hb31.mono (hC28).size); clear tok33))
  have z34 := hC32.size
  try simp only [World.size_alloc] at z34
  have Hz34 := Lib.hid z34; clear z34
  replace ow0 := ow0.belowS rInt_ok hC32
  replace ox0 := (rSpace_ok NB).ownB ox0 hC32
  replace og0 := og0.belowS rInt_ok hC32
  replace hB := hB.trans (hC32.mono hB.size)
  replace bxS := bxS.below hC32
  replace bxx0 := bxx0.below hC32
  clear HSS24 hC32
  have hdx0 : decide (xS = xS) = true := by simp
  have hcbr : Hid ((cnt_IntS (frontier xS aBudget)) ≤ 1099511627776) := (by show _ ≤ _; exact (by have e := cnto_IntS og0; omega))
  have cbxx0_0 := bxx0 0 _ rfl
  have cbxx0_1 := bxx0 1 _ rfl
  have cbxx0_2 := bxx0 2 _ rfl
  have cbxx0_3 := bxx0 3 _ rfl
  have cbxx0_4 := bxx0 4 _ rfl
  go_wp2_with fail
  have hcbw35 : (cnt_Space (xS)) ≤ 1099511627776 := (by have e := cntb_Space xS; omega)
  refine (markSpace_m _ (xS) 1 _ fx0 ox0 NDx0.out (by omega) (by omega)).mono ?_
  rintro e w35 ⟨rfl, omw35, hc36⟩
  replace hB := hB.trans (hc36.toBelow hB.size (fun k hk => by have := HFx0.out k hk; have := Hz4.out; have := Hz9.out; have := Hz12.out; have := Hz15.out; have := Hz19.out; have := Hz22.out; have := Hz34.out; omega))
  replace bxS := bxS.chg hc36 (fun hk => by have := HFx0.out _ hk; have := ltx0.out _ hk; have := Hz4.out; have := Hz9.out; have := Hz12.out; have := Hz15.out; have := Hz19.out; have := Hz22.out; have := Hz34.out; omega)
  replace bxx0 := bxx0.chg hc36 (fun hk => by have := HFx0.out _ hk; have := ltx0.out _ hk; have := Hz4.out; have := Hz9.out; have := Hz12.out; have := Hz15.out; have := Hz19.out; have := Hz22.out; have := Hz34.out; omega)
  replace ow0 := ow0.chg rInt_ok hc36 (fun k hk hk' => by have := HFw0.out k hk; have := ltw0.out k hk; have := HFx0.out k hk'; have := ltx0.out k hk'; have := Hz4.out; have := Hz9.out; have := Hz12.out; have := Hz15.out; have := Hz19.out; have := Hz22.out; have := Hz34.out; omega)
  replace og0 := og0.chg rInt_ok hc36 (fun k hk hk' => by have := HFg0.out k hk; have := ltg0.out k hk; have := HFx0.out k hk'; have := ltx0.out k hk'; have := Hz4.out; have := Hz9.out; have := Hz12.out; have := Hz15.out; have := Hz19.out; have := Hz22.out; have := Hz34.out; omega)
  clear ox0; have ox0 := omw35; clear omw35
  have Hz37 := Lib.hid hc36.size
  try simp only [World.size_alloc] at Hz37
  clear hc36 cbxx0_0 cbxx0_1 cbxx0_2 cbxx0_3 cbxx0_4
  obtain ⟨kk38, hkk38⟩ : ∃ q : Int, q = 1 + ((cnt_Space (xS)) : Nat) := ⟨_, rfl⟩
  rw [← hkk38]
  have pkk38 : 0 ≤ kk38 := by omega
  have ukk38 : kk38 ≤ 2199023255552 := by omega
  have Hkkk38 := Lib.hid hkk38; clear hkk38 hcbw35
  go_wp2_with fail
  refine (eqIntS_b _ _ _ _ _ _ _ _ _ (og0.rs rInt_ok) (ow0.rs rInt_ok)).mono ?_
  rintro e w39 ⟨rfl, hb40⟩
  have z41 := hb40.size
  try simp only [World.size_alloc] at z41
  have Hz41 := Lib.hid z41; clear z41
  replace ow0 := ow0.belowS rInt_ok hb40
  replace ox0 := (rSpace_ok NB).ownB ox0 hb40
  replace og0 := og0.belowS rInt_ok hb40
  replace hB := hB.trans (hb40.mono hB.size)
  replace bxS := bxS.below hb40
  replace bxx0 := bxx0.below hb40
  clear hb40
  have hdr42 : decide ((frontier xS aBudget) = (frontier xS aBudget)) = true := by simp
  go_wp2_with fail
  have hcbw43 : (cnt_IntS (frontier xS aBudget)) ≤ 1099511627776 := hcbr.out
  refine (markIntS_m _ _ _ _ 1 _ _ og0 NDg0.out (by omega) (by omega)).mono ?_
  rintro e w43 ⟨rfl, omw43, hc44⟩
  replace hB := hB.trans (hc44.toBelow hB.size (fun k hk => by have := HFg0.out k hk; have := Hz4.out; have := Hz9.out; have := Hz12.out; have := Hz15.out; have := Hz19.out; have := Hz22.out; have := Hz34.out; have := Hz37.out; have := Hz41.out; omega))
  replace bxS := bxS.chg hc44 (fun hk => by have := HFg0.out _ hk; have := ltg0.out _ hk; have := Hz4.out; have := Hz9.out; have := Hz12.out; have := Hz15.out; have := Hz19.out; have := Hz22.out; have := Hz34.out; have := Hz37.out; have := Hz41.out; omega)
  replace bxx0 := bxx0.chg hc44 (fun hk => by have := HFg0.out _ hk; have := ltg0.out _ hk; have := Hz4.out; have := Hz9.out; have := Hz12.out; have := Hz15.out; have := Hz19.out; have := Hz22.out; have := Hz34.out; have := Hz37.out; have := Hz41.out; omega)
  replace ow0 := ow0.chg rInt_ok hc44 (fun k hk hk' => by have := HFw0.out k hk; have := ltw0.out k hk; have := HFg0.out k hk'; have := ltg0.out k hk'; have := Hz4.out; have := Hz9.out; have := Hz12.out; have := Hz15.out; have := Hz19.out; have := Hz22.out; have := Hz34.out; have := Hz37.out; have := Hz41.out; omega)
  replace ox0 := (rSpace_ok NB).ownC ox0 hc44 (fun k hk hk' => by have := HFx0.out k hk; have := ltx0.out k hk; have := HFg0.out k hk'; have := ltg0.out k hk'; have := Hz4.out; have := Hz9.out; have := Hz12.out; have := Hz15.out; have := Hz19.out; have := Hz22.out; have := Hz34.out; have := Hz37.out; have := Hz41.out; omega)
  clear og0; have og0 := omw43; clear omw43
  have Hz45 := Lib.hid hc44.size
  try simp only [World.size_alloc] at Hz45
  clear hc44
  obtain ⟨kk46, hkk46⟩ : ∃ q : Int, q = 1 + ((cnt_IntS (frontier xS aBudget)) : Nat) := ⟨_, rfl⟩
  rw [← hkk46]
  have pkk46 : 0 ≤ kk46 := by omega
  have ukk46 : kk46 ≤ 2199023255552 := by omega
  have Hkkk46 := Lib.hid hkk46; clear hkk46 hcbw43
  go_wp2_with fail
  have hcbw47 : (cnt_IntS (frontier xS aBudget)) ≤ 1099511627776 := hcbr.out
  refine (heldIntS_m _ _ _ (frontier xS aBudget) 1 _ (og0.rs rInt_ok) (by omega) (by omega)).mono ?_
  rintro e w47 ⟨rfl, hb48⟩
  have z49 := hb48.size
  try simp only [World.size_alloc] at z49
  have Hz49 := Lib.hid z49; clear z49
  replace ow0 := ow0.belowS rInt_ok hb48
  replace ox0 := (rSpace_ok NB).ownB ox0 hb48
  replace og0 := og0.belowS rInt_ok hb48
  replace hB := hB.trans (hb48.mono hB.size)
  replace bxS := bxS.below hb48
  replace bxx0 := bxx0.below hb48
  clear hb48 hcbw47
  rw [← Hkkk46.out]
  have cbxS_0 := bxS 0 _ rfl
  have cbxS_1 := bxS 1 _ rfl
  have cbxS_2 := bxS 2 _ rfl
  have cbxS_3 := bxS 3 _ rfl
  have cbxS_4 := bxS 4 _ rfl
  go_wp2_with fail
  refine (toSpace_c _ xS _ ((rSpace_ok NB).keep sS (cells_below hB))).mono ?_
  rintro e w51 ⟨csv50, fv50, rfl, ov50, frv50, hb52⟩
  have z53 := hb52.size
  try simp only [World.size_alloc] at z53
  have Hz53 := Lib.hid z53; clear z53
  replace ow0 := ow0.belowS rInt_ok hb52
  replace ox0 := (rSpace_ok NB).ownB ox0 hb52
  replace og0 := og0.belowS rInt_ok hb52
  replace hB := hB.trans (hb52.mono hB.size)
  replace bxS := bxS.below hb52
  replace bxx0 := bxx0.below hb52
  clear hb52 cbxS_0 cbxS_1 cbxS_2 cbxS_3 cbxS_4
  have Rv50 := (rSpace_ok NB).toRep ov50
  have cbxS_0 := bxS 0 _ rfl
  have cbxS_1 := bxS 1 _ rfl
  have cbxS_2 := bxS 2 _ rfl
  have cbxS_3 := bxS 3 _ rfl
  have cbxS_4 := bxS 4 _ rfl
  go_wp2_with fail
  refine (iFrontier_c _ xS _ _ Rv50).mono ?_
  rintro e w54 ⟨Ah0, nh0, ch0, rfl, ⟨fh0, oh0, frh0⟩, hb55⟩
  have z56 := hb55.size
  try simp only [World.size_alloc] at z56
  have Hz56 := Lib.hid z56; clear z56
  replace ow0 := ow0.belowS rInt_ok hb55
  replace ox0 := (rSpace_ok NB).ownB ox0 hb55
  replace og0 := og0.belowS rInt_ok hb55
  replace hB := hB.trans (hb55.mono hB.size)
  replace bxS := bxS.below hb55
  replace bxx0 := bxx0.below hb55
  clear hb55 cbxS_0 cbxS_1 cbxS_2 cbxS_3 cbxS_4
  have lth0 := Lib.hid (oh0.lt rInt_ok)
  have fsh0 := frh0
  have HFh0 : Hid (∀ k ∈ fh0, _ ≤ k) := fsh0.ge
  try simp only [World.size_alloc] at HFh0
  have ndh0 := fsh0.nd; have NDh0 := Lib.hid ndh0; clear ndh0 fsh0
  go_wp2_with fail
  refine (eqIntS_b _ _ _ _ _ _ _ _ _ (oh0.rs rInt_ok) (ow0.rs rInt_ok)).mono ?_
  rintro e w57 ⟨rfl, hb58⟩
  have z59 := hb58.size
  try simp only [World.size_alloc] at z59
  have Hz59 := Lib.hid z59; clear z59
  replace ow0 := ow0.belowS rInt_ok hb58
  replace ox0 := (rSpace_ok NB).ownB ox0 hb58
  replace og0 := og0.belowS rInt_ok hb58
  replace oh0 := oh0.belowS rInt_ok hb58
  replace hB := hB.trans (hb58.mono hB.size)
  replace bxS := bxS.below hb58
  replace bxx0 := bxx0.below hb58
  clear hb58
  have hdr60 : decide ((frontier xS aBudget) = (frontier xS aBudget)) = true := by simp
  go_wp2_with fail
  have hcbw61 : (cnt_IntS (frontier xS aBudget)) ≤ 1099511627776 := hcbr.out
  refine (heldIntS_m _ _ _ (frontier xS aBudget) 1 _ (og0.rs rInt_ok) (by omega) (by omega)).mono ?_
  rintro e w61 ⟨rfl, hb62⟩
  have z63 := hb62.size
  try simp only [World.size_alloc] at z63
  have Hz63 := Lib.hid z63; clear z63
  replace ow0 := ow0.belowS rInt_ok hb62
  replace ox0 := (rSpace_ok NB).ownB ox0 hb62
  replace og0 := og0.belowS rInt_ok hb62
  replace oh0 := oh0.belowS rInt_ok hb62
  replace hB := hB.trans (hb62.mono hB.size)
  replace bxS := bxS.below hb62
  replace bxx0 := bxx0.below hb62
  clear hb62 hcbw61
  rw [← Hkkk46.out]
  go_wp2
  go_ret
  exact ⟨rfl, hB⟩

set_option maxRecDepth 100000 in
theorem lifted (os : Os) (started : os.Started) (H : Type) (enc : TypeId × Value → H) :
    ReturnsInHanded {} Try.checked os 9 .any (Rows.fnExactFrontierSpec.pre6 enc Try.prog Try.f9 Rows.fnExactFrontierRow.domain false) (Rows.fnExactFrontierSpec.post enc Try.prog Try.f9 false true false false) := by
  refine returnsInHanded_of_change (C := Try.checked) own started (by kernel_rfl) Try.func9
    (ChangeSpec.witness6 (enc := enc) (C := Try.checked) false ⟨#[], #[.agg #[.slice none 0 0, .slice none 0 0, .slice none 0 0, .slice none 0 0, .slice none 0 0], .int .i64 0], []⟩ 8 (by kernel_rfl) (by kernel_rfl) (by kernel_rfl) (by kernel_rfl)) ?_
  intro W base args ds gs before hval0 hW hcnd _
  have hval : ∀ (j : Nat) t v, Try.f9.params[j]? = some t → args[j]? = some v → Value.okWide Try.prog W .any base t v := hval0
  have hW' := hW
  obtain ⟨p, q, hA0, hV, rfl, hfz, hnd⟩ := hW
  have hA : DataW.TrodAll enc Try.prog W 0 (fun _ => true) true Try.f9.params.toList args.toList ds p := hA0
  rw [Try.params9] at hA hval
  obtain ⟨v0, vs0, d0, ds0, p0, q0, hargs, rfl, rfl, h0, r0⟩ := trodAll_cons hA
  obtain ⟨v1, vs1, d1, ds1, p1, q1, rfl, rfl, rfl, h1, r1⟩ := trodAll_cons r0
  obtain ⟨rfl, rfl, rfl⟩ := trodAll_nil r1
  obtain rfl : args = #[v0, v1] := by cases args; simp_all
  obtain ⟨rfl, rfl⟩ := trodVars_none hV
  obtain ⟨ca0, rfl, _⟩ := okWide_struct Try.underlying76 (hval 0 76 v0 rfl rfl)
  obtain ⟨cl0⟩ := ca0
  have k0 := h0
  have lt0 : ∀ x ∈ p0, x.block < W.heap.size := by obtain ⟨m, hm⟩ := k0; exact DataW.trod_lt m _ _ _ hm
  obtain ⟨x0, g0⟩ : ∃ x, (rSpace maxLen).rep W cl0 x := by
    obtain ⟨fuel, hf⟩ := h0
    exact opensSpace hf
  obtain ⟨a1, rfl, rfl, rfl, w1⟩ := open_int Try.underlying3 (hval 1 3 v1 rfl rfl) h1
  clear hA0 hval0
  refine (walk cl0 x0 a1 W g0 (bounds_i64 w1)).mono fun e W' ⟨he, bel⟩ => ?_
  subst he
  exact ⟨_, rfl, _, _, _, [], _, [], hW', trodAll_mk1 (shut_bool Try.underlying4 _), (trodAll_cons_mk (Below.trod laidOut (by kernel_rfl) (of_decide_eq_true (by kernel_rfl)) k0 bel lt0) (trodAll_cons_mk (shut_int Try.underlying3 w1) trodAll_mk0)), rfl, bel.frame _, fun h => by cases h⟩

theorem over : Rows.fnExactFrontierRow.holds Try.pinned (OpenSpec.ofChange Rows.fnExactFrontierSpec) :=
  OpenClaim.holds_of_wide 9 Try.f9 rfl rfl rfl rfl rfl rfl rfl ⟨rfl, rfl, rfl, rfl, rfl⟩ rfl rfl rfl rfl rfl (by kernel_rfl) Try.func9 (by kernel_rfl)
    (of_decide_eq_true (by kernel_rfl)) (by unfold Func.isWrapper; first | (rw [if_pos (by decide +kernel)]; kernel_rfl) | (rw [if_neg (by decide +kernel)]; exact ⟨rfl, rfl⟩))
    (fun os started H enc _ => lifted os started H enc)

theorem proved : Rows.FnExactFrontierSaid := over
#print axioms proved
end Go.Proofs.Ytbipbinbehkjhaa.fnExactFrontier
