/-
  For every input the law FnExactIsBelowFrontier returns true and leaves its arguments as they were; no condition beyond the statement's own.
-/
import Derived.Test.YtobildkjikhdiaaRows
import Derived.Test.YtobildkjikhdiaaOpens
import Derived.Test.YtobildkjikhdiaaTo
import Derived.Test.YtobildkjikhdiaaEq
import Derived.Test.YtobildkjikhdiaaIbf
import Derived.WalkKit
import Derived.ProofKit
import Derived.OpenShut
import Derived.ShutString
import Derived.ChangeOld
import Derived.Below
import Derived.Deep.RegionHeld3
namespace Go.Proofs.Ytobildkjikhdiaa.fnExactIsBelowFrontier
open Go.ChangeShapes Go.WideShapes Go.ChangeAt Go.RowKit
open Go.ChangeMaps (open_string shut_string)
set_option linter.unusedVariables false
set_option linter.unusedSimpArgs false

theorem own : ownKnob Try.prog.godebug = none := by kernel_rfl
theorem laidOut : laidOutB Try.prog = true := by kernel_rfl

set_option maxRecDepth 100000 in
set_option maxHeartbeats 4000000 in
theorem walk (csS : List Value) (xS : SpaceD) (AFrontier : Option Addr) (nFrontier kFrontier : Nat) (lFrontier : List Int) (ALocation : Option Addr) (nLocation kLocation : Nat) (lLocation : List Int) (w : World) (rS : (rSpace maxLen).rep w csS xS) (rFrontier : RS maxLen rInt w AFrontier nFrontier kFrontier lFrontier) (rLocation : RS maxLen rInt w ALocation nLocation kLocation lLocation) :
    Calls Try.prog 13 #[.agg csS.toArray, .slice AFrontier nFrontier kFrontier, .slice ALocation nLocation kLocation] w fun e w' => e = .returned (.bool true) ∧ Below w.heap.size w w' := by
  have hB : Below w.heap.size w w := Below.refl _ _
  have qS := rS
  obtain ⟨ASBoxLow, nSBoxLow, cSBoxLow, ASBoxHigh, nSBoxHigh, cSBoxHigh, ASCosts, nSCosts, cSCosts, ASChoices, nSChoices, cSChoices, ASPlans, nSPlans, cSPlans, rfl, hSBoxLow, hSBoxHigh, hSCosts, hSChoices, hSPlans⟩ := rSpace_rep.1 qS
  clear qS
  have hnFrontier : nFrontier ≤ 9223372036854775807 := rFrontier.nb
  by_cases hszFrontier : nFrontier ≤ 1048576
  rotate_left
  · go_enter Try.func13, Try.ntmps13
    go_wp2
    go_ret
    exact ⟨rfl, (by repeat' (first | with_reducible exact hB | with_reducible refine Below.setCell ?_ ?_ _ | with_reducible refine Below.alloc ?_ ?_ _ | (simp; done) | (simp; omega) | omega))⟩
  have sFrontier := smallIntS rFrontier (by have := rFrontier.len; omega)
  have hnLocation : nLocation ≤ 9223372036854775807 := rLocation.nb
  by_cases hszLocation : nLocation ≤ 1048576
  rotate_left
  · go_enter Try.func13, Try.ntmps13
    go_wp2
    go_ret
    exact ⟨rfl, (by repeat' (first | with_reducible exact hB | with_reducible refine Below.setCell ?_ ?_ _ | with_reducible refine Below.alloc ?_ ?_ _ | (simp; done) | (simp; omega) | omega))⟩
  have sLocation := smallIntS rLocation (by have := rLocation.len; omega)
  go_enter Try.func13, Try.ntmps13
  have hA1 := (Below.refl (World.heap (w)).size (w)).alloc (Nat.le_refl _) (.cells #[.slice ASBoxLow nSBoxLow cSBoxLow, .slice ASBoxHigh nSBoxHigh cSBoxHigh, .slice ASCosts nSCosts cSCosts, .slice ASChoices nSChoices cSChoices, .slice ASPlans nSPlans cSPlans] 71)
  replace hB := hB.trans (hA1.mono hB.size)
  have bxS := Bx.new (w) [.slice ASBoxLow nSBoxLow cSBoxLow, .slice ASBoxHigh nSBoxHigh cSBoxHigh, .slice ASCosts nSCosts cSCosts, .slice ASChoices nSChoices cSChoices, .slice ASPlans nSPlans cSPlans] 71
  clear hA1
  go_wp2_with fail
  refine (szSpace_c _ xS _ _ ((rSpace_ok maxLen).keep rS (cells_below hB)) (by omega) (by omega)).mono ?_
  rintro e w3 ⟨rfl, hb2⟩
  replace hB := hB.trans (hb2.mono hB.size)
  replace bxS := bxS.below hb2
  clear hb2
  by_cases hszS : ((bulkSpace xS : Nat) : Int) ≤ 1048576
  rotate_left
  · rw [lessBy_no hszS]
    go_wp2
    go_ret
    exact ⟨rfl, hB⟩
  rw [lessBy_yes hszS]
  have sS := smallSpace rS (by omega)
  obtain ⟨L4, hL4⟩ : ∃ L : Int, L = 1048576 - ((bulkSpace xS : Nat) : Int) := ⟨_, rfl⟩
  rw [← hL4]
  have pL4 : 0 ≤ L4 := by omega
  have uL4 : L4 ≤ 1048576 := by omega
  clear hL4
  have cbxS_0 := bxS 0 _ rfl
  have cbxS_1 := bxS 1 _ rfl
  have cbxS_2 := bxS 2 _ rfl
  have cbxS_3 := bxS 3 _ rfl
  have cbxS_4 := bxS 4 _ rfl
  go_wp2_with fail
  refine (toSpace_c _ xS _ ((rSpace_ok NB).keep sS (cells_below hB))).mono ?_
  rintro e w6 ⟨csv5, fv5, rfl, ov5, frv5, hb7⟩
  replace hB := hB.trans (hb7.mono hB.size)
  replace bxS := bxS.below hb7
  clear hb7 cbxS_0 cbxS_1 cbxS_2 cbxS_3 cbxS_4
  have Rv5 := (rSpace_ok NB).toRep ov5
  have cbxS_0 := bxS 0 _ rfl
  have cbxS_1 := bxS 1 _ rfl
  have cbxS_2 := bxS 2 _ rfl
  have cbxS_3 := bxS 3 _ rfl
  have cbxS_4 := bxS 4 _ rfl
  go_wp2_with fail
  refine (toIntS_c _ _ _ _ _ (sFrontier.below rInt_ok hB)).mono ?_
  rintro e w9 ⟨Av8, nv8, cv8, rfl, ⟨fv8, Mv8, frv8⟩, hb10⟩
  replace hB := hB.trans (hb10.mono hB.size)
  replace bxS := bxS.below hb10
  replace Rv5 := (rSpace_ok NB).keep Rv5 (cells_below hb10)
  clear hb10 cbxS_0 cbxS_1 cbxS_2 cbxS_3 cbxS_4
  have Rv8 := Mv8.rs rInt_ok
  have cbxS_0 := bxS 0 _ rfl
  have cbxS_1 := bxS 1 _ rfl
  have cbxS_2 := bxS 2 _ rfl
  have cbxS_3 := bxS 3 _ rfl
  have cbxS_4 := bxS 4 _ rfl
  go_wp2_with fail
  refine (toIntS_c _ _ _ _ _ (sLocation.below rInt_ok hB)).mono ?_
  rintro e w12 ⟨Av11, nv11, cv11, rfl, ⟨fv11, Mv11, frv11⟩, hb13⟩
  replace hB := hB.trans (hb13.mono hB.size)
  replace bxS := bxS.below hb13
  replace Rv5 := (rSpace_ok NB).keep Rv5 (cells_below hb13)
  replace Rv8 := Rv8.below rInt_ok hb13
  clear hb13 cbxS_0 cbxS_1 cbxS_2 cbxS_3 cbxS_4
  have Rv11 := Mv11.rs rInt_ok
  have cbxS_0 := bxS 0 _ rfl
  have cbxS_1 := bxS 1 _ rfl
  have cbxS_2 := bxS 2 _ rfl
  have cbxS_3 := bxS 3 _ rfl
  have cbxS_4 := bxS 4 _ rfl
  go_wp2_with fail
  refine (sIsBelowFrontier_c _ xS _ _ _ _ _ _ _ _ _ Rv5 Rv8 Rv11).mono ?_
  rintro e w14 ⟨rfl, hb15⟩
  replace hB := hB.trans (hb15.mono hB.size)
  replace bxS := bxS.below hb15
  clear hb15 cbxS_0 cbxS_1 cbxS_2 cbxS_3 cbxS_4
  have cbxS_0 := bxS 0 _ rfl
  have cbxS_1 := bxS 1 _ rfl
  have cbxS_2 := bxS 2 _ rfl
  have cbxS_3 := bxS 3 _ rfl
  have cbxS_4 := bxS 4 _ rfl
  go_wp2_with fail
  refine (toSpace_c _ xS _ ((rSpace_ok NB).keep sS (cells_below hB))).mono ?_
  rintro e w16 ⟨csx0, fx0, rfl, ox0, frx0, hb17⟩
  replace hB := hB.trans (hb17.mono hB.size)
  replace bxS := bxS.below hb17
  clear hb17 cbxS_0 cbxS_1 cbxS_2 cbxS_3 cbxS_4
  obtain ⟨Ax0BoxLow, nx0BoxLow, cx0BoxLow, Ax0BoxHigh, nx0BoxHigh, cx0BoxHigh, Ax0Costs, nx0Costs, cx0Costs, Ax0Choices, nx0Choices, cx0Choices, Ax0Plans, nx0Plans, cx0Plans, rfl, _, _, _, _, _⟩ := rSpace_rep.1 ((rSpace_ok NB).toRep ox0)
  have hA18 := (Below.refl w16.heap.size w16).alloc (Nat.le_refl _) (.cells #[.slice Ax0BoxLow nx0BoxLow cx0BoxLow, .slice Ax0BoxHigh nx0BoxHigh cx0BoxHigh, .slice Ax0Costs nx0Costs cx0Costs, .slice Ax0Choices nx0Choices cx0Choices, .slice Ax0Plans nx0Plans cx0Plans] 76)
  replace ox0 := (rSpace_ok NB).ownB ox0 hA18
  replace hB := hB.trans (hA18.mono hB.size)
  replace bxS := bxS.below hA18
  have bxx0 := Bx.new w16 [.slice Ax0BoxLow nx0BoxLow cx0BoxLow, .slice Ax0BoxHigh nx0BoxHigh cx0BoxHigh, .slice Ax0Costs nx0Costs cx0Costs, .slice Ax0Choices nx0Choices cx0Choices, .slice Ax0Plans nx0Plans cx0Plans] 76
  clear hA18
  go_wp2_with fail
  refine (toIntS_c _ _ _ _ _ (sFrontier.below rInt_ok hB)).mono ?_
  rintro e w19 ⟨Ax1, nx1, cx1, rfl, ⟨fx1, ox1, frx1⟩, hb20⟩
  replace ox0 := (rSpace_ok NB).ownB ox0 hb20
  replace hB := hB.trans (hb20.mono hB.size)
  replace bxS := bxS.below hb20
  replace bxx0 := bxx0.below hb20
  clear hb20
  go_wp2_with fail
  refine (toIntS_c _ _ _ _ _ (sLocation.below rInt_ok hB)).mono ?_
  rintro e w21 ⟨Ax2, nx2, cx2, rfl, ⟨fx2, ox2, frx2⟩, hb22⟩
  replace ox0 := (rSpace_ok NB).ownB ox0 hb22
  replace ox1 := ox1.belowS rInt_ok hb22
  replace hB := hB.trans (hb22.mono hB.size)
  replace bxS := bxS.below hb22
  replace bxx0 := bxx0.below hb22
  clear hb22
  have cbxx0_0 := bxx0 0 _ rfl
  have cbxx0_1 := bxx0 1 _ rfl
  have cbxx0_2 := bxx0 2 _ rfl
  have cbxx0_3 := bxx0 3 _ rfl
  have cbxx0_4 := bxx0 4 _ rfl
  go_wp2_with fail
  refine (iIsBelowFrontier_c _ xS _ _ _ _ _ _ _ _ _ ((rSpace_ok NB).toRep ox0) (ox1.rs rInt_ok) (ox2.rs rInt_ok)).mono ?_
  rintro e w23 ⟨rfl, hb24⟩
  replace ox0 := (rSpace_ok NB).ownB ox0 hb24
  replace ox1 := ox1.belowS rInt_ok hb24
  replace ox2 := ox2.belowS rInt_ok hb24
  replace hB := hB.trans (hb24.mono hB.size)
  replace bxS := bxS.below hb24
  replace bxx0 := bxx0.below hb24
  clear hb24 cbxx0_0 cbxx0_1 cbxx0_2 cbxx0_3 cbxx0_4
  have hnei : ∀ v : Int, (v != v) = false := fun v => by simp
  have hneb : ∀ v : Bool, (v == v) = true := fun v => by simp
  go_wp2_with fail
  have SS25 : ∀ w', Below w23.heap.size w23 w' → (Below w23.heap.size w23 w' ∧ w'.cell? ⟨w.heap.size, 0, none⟩ = some (.slice ASBoxLow nSBoxLow cSBoxLow) ∧ w'.cell? ⟨w.heap.size, 1, none⟩ = some (.slice ASBoxHigh nSBoxHigh cSBoxHigh) ∧ w'.cell? ⟨w.heap.size, 2, none⟩ = some (.slice ASCosts nSCosts cSCosts) ∧ w'.cell? ⟨w.heap.size, 3, none⟩ = some (.slice ASChoices nSChoices cSChoices) ∧ w'.cell? ⟨w.heap.size, 4, none⟩ = some (.slice ASPlans nSPlans cSPlans) ∧ w'.cell? ⟨w16.heap.size, 0, none⟩ = some (.slice Ax0BoxLow nx0BoxLow cx0BoxLow) ∧ w'.cell? ⟨w16.heap.size, 1, none⟩ = some (.slice Ax0BoxHigh nx0BoxHigh cx0BoxHigh) ∧ w'.cell? ⟨w16.heap.size, 2, none⟩ = some (.slice Ax0Costs nx0Costs cx0Costs) ∧ w'.cell? ⟨w16.heap.size, 3, none⟩ = some (.slice Ax0Choices nx0Choices cx0Choices) ∧ w'.cell? ⟨w16.heap.size, 4, none⟩ = some (.slice Ax0Plans nx0Plans cx0Plans)) := fun w' hb => ⟨hb, bxS.below hb 0 _ rfl, bxS.below hb 1 _ rfl, bxS.below hb 2 _ rfl, bxS.below hb 3 _ rfl, bxS.below hb 4 _ rfl, bxx0.below hb 0 _ rfl, bxx0.below hb 1 _ rfl, bxx0.below hb 2 _ rfl, bxx0.below hb 3 _ rfl, bxx0.below hb 4 _ rfl⟩
  have HSS25 := Lib.hid SS25; clear SS25
  have tok30 : True := trivial
  have tok34 : True := trivial
  go_region_held3 (fun w' => Below w23.heap.size w23 w' ∧ w'.cell? ⟨w.heap.size, 0, none⟩ = some (.slice ASBoxLow nSBoxLow cSBoxLow) ∧ w'.cell? ⟨w.heap.size, 1, none⟩ = some (.slice ASBoxHigh nSBoxHigh cSBoxHigh) ∧ w'.cell? ⟨w.heap.size, 2, none⟩ = some (.slice ASCosts nSCosts cSCosts) ∧ w'.cell? ⟨w.heap.size, 3, none⟩ = some (.slice ASChoices nSChoices cSChoices) ∧ w'.cell? ⟨w.heap.size, 4, none⟩ = some (.slice ASPlans nSPlans cSPlans) ∧ w'.cell? ⟨w16.heap.size, 0, none⟩ = some (.slice Ax0BoxLow nx0BoxLow cx0BoxLow) ∧ w'.cell? ⟨w16.heap.size, 1, none⟩ = some (.slice Ax0BoxHigh nx0BoxHigh cx0BoxHigh) ∧ w'.cell? ⟨w16.heap.size, 2, none⟩ = some (.slice Ax0Costs nx0Costs cx0Costs) ∧ w'.cell? ⟨w16.heap.size, 3, none⟩ = some (.slice Ax0Choices nx0Choices cx0Choices) ∧ w'.cell? ⟨w16.heap.size, 4, none⟩ = some (.slice Ax0Plans nx0Plans cx0Plans)) (first | exact HSS25.out _ (Below.refl _ _).drew | exact HSS25.out _ (by assumption)) (first | (go_at_call 46; have _t := tok30; refine (toSpace_c _ xS _ ((rSpace_ok NB).keep sS (cells_below (hB.trans (Below.mono ((Below.refl w23.heap.size w23).drew) hB.size))))).mono ?_; rintro e w27 ⟨csv26, fv26, rfl, ov26, frv26, hb28⟩; have hC29 : Below w23.heap.size w23 w27 := Below.trans ((Below.refl w23.heap.size w23).drew) (hb28.mono ((Below.refl w23.heap.size w23).drew).size); have Rv26 := (rSpace_ok NB).toRep ov26; clear tok30) | (go_at_call 48; have _t := tok34; refine (eqSpace_c _ _ xS xS _ ((rSpace_ok NB).keep ((rSpace_ok NB).toRep ox0) (cells_below (hC29))) Rv26).mono ?_; rintro e w31 ⟨rfl, hb32⟩; have hC33 : Below w23.heap.size w23 w31 := Below.trans (hC29) (hb32.mono (hC29).size); clear tok34))
  replace ox0 := (rSpace_ok NB).ownB ox0 hC33
  replace ox1 := ox1.belowS rInt_ok hC33
  replace ox2 := ox2.belowS rInt_ok hC33
  replace hB := hB.trans (hC33.mono hB.size)
  replace bxS := bxS.below hC33
  replace bxx0 := bxx0.below hC33
  clear HSS25 hC33
  have hdx0 : decide (xS = xS) = true := by simp
  go_wp2_with fail
  refine (toIntS_c _ _ _ _ _ (sFrontier.below rInt_ok hB)).mono ?_
  rintro e w35 ⟨Av37, nv37, cv37, rfl, ⟨fv37, Mv37, frv37⟩, hb36⟩
  replace ox0 := (rSpace_ok NB).ownB ox0 hb36
  replace ox1 := ox1.belowS rInt_ok hb36
  replace ox2 := ox2.belowS rInt_ok hb36
  replace hB := hB.trans (hb36.mono hB.size)
  replace bxS := bxS.below hb36
  replace bxx0 := bxx0.below hb36
  clear hb36
  have Rv37 := Mv37.rs rInt_ok
  go_wp2_with fail
  refine (eqIntS_b _ _ _ _ _ _ _ _ _ (ox1.rs rInt_ok) Rv37).mono ?_
  rintro e w38 ⟨rfl, hb39⟩
  replace ox0 := (rSpace_ok NB).ownB ox0 hb39
  replace ox1 := ox1.belowS rInt_ok hb39
  replace ox2 := ox2.belowS rInt_ok hb39
  replace hB := hB.trans (hb39.mono hB.size)
  replace bxS := bxS.below hb39
  replace bxx0 := bxx0.below hb39
  clear hb39
  have hdx1 : decide (lFrontier = lFrontier) = true := by simp
  go_wp2_with fail
  refine (toIntS_c _ _ _ _ _ (sLocation.below rInt_ok hB)).mono ?_
  rintro e w40 ⟨Av42, nv42, cv42, rfl, ⟨fv42, Mv42, frv42⟩, hb41⟩
  replace ox0 := (rSpace_ok NB).ownB ox0 hb41
  replace ox1 := ox1.belowS rInt_ok hb41
  replace ox2 := ox2.belowS rInt_ok hb41
  replace hB := hB.trans (hb41.mono hB.size)
  replace bxS := bxS.below hb41
  replace bxx0 := bxx0.below hb41
  clear hb41
  have Rv42 := Mv42.rs rInt_ok
  go_wp2_with fail
  refine (eqIntS_b _ _ _ _ _ _ _ _ _ (ox2.rs rInt_ok) Rv42).mono ?_
  rintro e w43 ⟨rfl, hb44⟩
  replace ox0 := (rSpace_ok NB).ownB ox0 hb44
  replace ox1 := ox1.belowS rInt_ok hb44
  replace ox2 := ox2.belowS rInt_ok hb44
  replace hB := hB.trans (hb44.mono hB.size)
  replace bxS := bxS.below hb44
  replace bxx0 := bxx0.below hb44
  clear hb44
  have hdx2 : decide (lLocation = lLocation) = true := by simp
  go_wp2
  go_ret
  exact ⟨rfl, hB⟩

set_option maxRecDepth 100000 in
theorem lifted (os : Os) (started : os.Started) (H : Type) (enc : TypeId × Value → H) :
    ReturnsInHanded {} Try.checked os 13 .any (Rows.fnExactIsBelowFrontierSpec.pre6 enc Try.prog Try.f13 Rows.fnExactIsBelowFrontierRow.domain false) (Rows.fnExactIsBelowFrontierSpec.post enc Try.prog Try.f13 false true false false) := by
  refine returnsInHanded_of_change (C := Try.checked) own started (by kernel_rfl) Try.func13
    (ChangeSpec.witness6 (enc := enc) (C := Try.checked) false ⟨#[], #[.agg #[.slice none 0 0, .slice none 0 0, .slice none 0 0, .slice none 0 0, .slice none 0 0], .slice none 0 0, .slice none 0 0], []⟩ 8 (by kernel_rfl) (by kernel_rfl) (by kernel_rfl) (by kernel_rfl)) ?_
  intro W base args ds gs before hval0 hW hcnd _
  have hval : ∀ (j : Nat) t v, Try.f13.params[j]? = some t → args[j]? = some v → Value.okWide Try.prog W .any base t v := hval0
  have hW' := hW
  obtain ⟨p, q, hA0, hV, rfl, hfz, hnd⟩ := hW
  have hA : DataW.TrodAll enc Try.prog W 0 (fun _ => true) true Try.f13.params.toList args.toList ds p := hA0
  rw [Try.params13] at hA hval
  obtain ⟨v0, vs0, d0, ds0, p0, q0, hargs, rfl, rfl, h0, r0⟩ := trodAll_cons hA
  obtain ⟨v1, vs1, d1, ds1, p1, q1, rfl, rfl, rfl, h1, r1⟩ := trodAll_cons r0
  obtain ⟨v2, vs2, d2, ds2, p2, q2, rfl, rfl, rfl, h2, r2⟩ := trodAll_cons r1
  obtain ⟨rfl, rfl, rfl⟩ := trodAll_nil r2
  obtain rfl : args = #[v0, v1, v2] := by cases args; simp_all
  obtain ⟨rfl, rfl⟩ := trodVars_none hV
  obtain ⟨ca0, rfl, _⟩ := okWide_struct Try.underlying71 (hval 0 71 v0 rfl rfl)
  obtain ⟨cl0⟩ := ca0
  have k0 := h0
  have lt0 : ∀ x ∈ p0, x.block < W.heap.size := by obtain ⟨m, hm⟩ := k0; exact DataW.trod_lt m _ _ _ hm
  obtain ⟨x0, g0⟩ : ∃ x, (rSpace maxLen).rep W cl0 x := by
    obtain ⟨fuel, hf⟩ := h0
    exact opensSpace hf
  obtain ⟨A1, n1, c1, rfl⟩ := okWide_slice Try.underlying22 (hval 1 22 v1 rfl rfl)
  have k1 := h1
  have lt1 : ∀ x ∈ p1, x.block < W.heap.size := by obtain ⟨m, hm⟩ := k1; exact DataW.trod_lt m _ _ _ hm
  obtain ⟨l1, g1⟩ : ∃ l, RS maxLen rInt W A1 n1 c1 l := by
    obtain ⟨fuel, hf⟩ := h1
    obtain ⟨l, A, n, c, e, hr⟩ := (opens_slice rInt_ok Try.underlying22 (by kernel_rfl) (opens_int Try.underlying3)) hf
    simp [Value.cells] at e
    obtain ⟨rfl, rfl, rfl⟩ := e
    exact ⟨l, hr⟩
  obtain ⟨A2, n2, c2, rfl⟩ := okWide_slice Try.underlying22 (hval 2 22 v2 rfl rfl)
  have k2 := h2
  have lt2 : ∀ x ∈ p2, x.block < W.heap.size := by obtain ⟨m, hm⟩ := k2; exact DataW.trod_lt m _ _ _ hm
  obtain ⟨l2, g2⟩ : ∃ l, RS maxLen rInt W A2 n2 c2 l := by
    obtain ⟨fuel, hf⟩ := h2
    obtain ⟨l, A, n, c, e, hr⟩ := (opens_slice rInt_ok Try.underlying22 (by kernel_rfl) (opens_int Try.underlying3)) hf
    simp [Value.cells] at e
    obtain ⟨rfl, rfl, rfl⟩ := e
    exact ⟨l, hr⟩
  clear hA0 hval0
  refine (walk cl0 x0 A1 n1 c1 l1 A2 n2 c2 l2 W g0 g1 g2).mono fun e W' ⟨he, bel⟩ => ?_
  subst he
  exact ⟨_, rfl, _, _, _, [], _, [], hW', trodAll_mk1 (shut_bool Try.underlying4 _), (trodAll_cons_mk (Below.trod laidOut (by kernel_rfl) (of_decide_eq_true (by kernel_rfl)) k0 bel lt0) (trodAll_cons_mk (Below.trod laidOut (by kernel_rfl) (of_decide_eq_true (by kernel_rfl)) k1 bel lt1) (trodAll_cons_mk (Below.trod laidOut (by kernel_rfl) (of_decide_eq_true (by kernel_rfl)) k2 bel lt2) trodAll_mk0))), rfl, bel.frame _, fun h => by cases h⟩

theorem over : Rows.fnExactIsBelowFrontierRow.holds Try.pinned (OpenSpec.ofChange Rows.fnExactIsBelowFrontierSpec) :=
  OpenClaim.holds_of_wide 13 Try.f13 rfl rfl rfl rfl rfl rfl rfl ⟨rfl, rfl, rfl, rfl, rfl⟩ rfl rfl rfl rfl rfl (by kernel_rfl) Try.func13 (by kernel_rfl)
    (of_decide_eq_true (by kernel_rfl)) (by unfold Func.isWrapper; first | (rw [if_pos (by decide +kernel)]; kernel_rfl) | (rw [if_neg (by decide +kernel)]; exact ⟨rfl, rfl⟩))
    (fun os started H enc _ => lifted os started H enc)

theorem proved : Rows.FnExactIsBelowFrontierSaid := over
#print axioms proved
end Go.Proofs.Ytobildkjikhdiaa.fnExactIsBelowFrontier
