/-
  FnExactFormatOutcome
-/
import Derived.Test.YtnbikckbnbgjkaaDoorRows
import Derived.Test.YtnbikckbnbgjkaaDoorDoor
import Derived.Test.YtnbikckbnbgjkaaDoorFoc
import Derived.Test.YtnbikckbnbgjkaaDoorTo
import Derived.Test.YtnbikckbnbgjkaaDoorOpens
import Derived.Test.YtnbikckbnbgjkaaDoorEq
import Derived.WalkKit
import Derived.ProofKit
import Derived.OpenShut
import Derived.ShutString
import Derived.ChangeOld
import Derived.Below
import Derived.Deep.RegionHeld3
namespace Go.Proofs.YtnbikckbnbgjkaaDoor.fnExactFormatOutcome
open Go.ChangeShapes Go.WideShapes Go.ChangeAt Go.RowKit
open Go.ChangeMaps (open_string shut_string)
set_option linter.unusedVariables false
set_option linter.unusedSimpArgs false

theorem own : ownKnob Tryd.prog.godebug = none := by kernel_rfl
theorem laidOut : laidOutB Tryd.prog = true := by kernel_rfl

set_option maxRecDepth 100000 in
set_option maxHeartbeats 4000000 in
theorem walk (csO : List Value) (xO : OutcomeD) (w : World) (rO : (rOutcome maxLen).rep w csO xO) (ht : Tab w) :
  Calls Tryd.prog 4 #[.agg csO.toArray] w fun e w' => e = .returned (.bool true) ∧ Below w.heap.size w w' := by
 have hB : Below w.heap.size w w := Below.refl _ _
 have qO := rO
 obtain ⟨AOAnswerVars, nOAnswerVars, cOAnswerVars, AOAnswerRows, nOAnswerRows, cOAnswerRows, AONotes, nONotes, cONotes, AOBoxLow, nOBoxLow, cOBoxLow, AOBoxHigh, nOBoxHigh, cOBoxHigh, rfl, hOAnswerVars, hOAnswerRows, hOTotal, hONotes, hOBoxLow, hOBoxHigh⟩ := rOutcome_rep.1 qO
 clear qO
 go_enter Tryd.func4, Tryd.ntmps4
 have hA1 := (Below.refl (World.heap (w)).size (w)).alloc (Nat.le_refl _) (.cells #[.slice AOAnswerVars nOAnswerVars cOAnswerVars, .slice AOAnswerRows nOAnswerRows cOAnswerRows, .int .i64 xO.fTotal, .slice AONotes nONotes cONotes, .slice AOBoxLow nOBoxLow cOBoxLow, .slice AOBoxHigh nOBoxHigh cOBoxHigh] 42)
 replace hB := hB.trans (hA1.mono hB.size)
 have bxO := Bx.new (w) [.slice AOAnswerVars nOAnswerVars cOAnswerVars, .slice AOAnswerRows nOAnswerRows cOAnswerRows, .int .i64 xO.fTotal, .slice AONotes nONotes cONotes, .slice AOBoxLow nOBoxLow cOBoxLow, .slice AOBoxHigh nOBoxHigh cOBoxHigh] 42
 clear hA1
 go_wp2_with fail
 refine (szOutcome_c _ xO _ _ ((rOutcome_ok maxLen).keep rO (cells_below hB)) (by omega) (by omega)).mono ?_
 rintro e w3 ⟨rfl, hb2⟩
 replace hB := hB.trans (hb2.mono hB.size)
 replace bxO := bxO.below hb2
 clear hb2
 by_cases hszO : ((bulkOutcome xO : Nat) : Int) ≤ 1048576
 rotate_left
 ·rw [lessBy_no hszO]
  go_wp2
  go_ret
  exact ⟨rfl, hB⟩
 rw [lessBy_yes hszO]
 have sO := smallOutcome rO (by omega)
 obtain ⟨L4, hL4⟩ : ∃ L : Int, L = 1048576 - ((bulkOutcome xO : Nat) : Int) := ⟨_, rfl⟩
 rw [← hL4]
 have pL4 : 0 ≤ L4 := by omega
 have uL4 : L4 ≤ 1048576 := by omega
 clear hL4
 have cbxO_0 := bxO 0 _ rfl
 have cbxO_1 := bxO 1 _ rfl
 have cbxO_2 := bxO 2 _ rfl
 have cbxO_3 := bxO 3 _ rfl
 have cbxO_4 := bxO 4 _ rfl
 have cbxO_5 := bxO 5 _ rfl
 go_wp2_with fail
 refine (toOutcome_c _ xO _ ((rOutcome_ok NB).keep sO (cells_below hB))).mono ?_
 rintro e w6 ⟨csv5, fv5, rfl, ov5, frv5, hb7⟩
 replace hB := hB.trans (hb7.mono hB.size)
 replace bxO := bxO.below hb7
 clear hb7 cbxO_0 cbxO_1 cbxO_2 cbxO_3 cbxO_4 cbxO_5
 have Rv5 := (rOutcome_ok NB).toRep ov5
 have cbxO_0 := bxO 0 _ rfl
 have cbxO_1 := bxO 1 _ rfl
 have cbxO_2 := bxO 2 _ rfl
 have cbxO_3 := bxO 3 _ rfl
 have cbxO_4 := bxO 4 _ rfl
 have cbxO_5 := bxO 5 _ rfl
 go_wp2_with fail
 refine (sFormatOutcome_c _ xO _ Rv5).mono ?_
 rintro e w8 ⟨rfl, hb9⟩
 replace hB := hB.trans (hb9.mono hB.size)
 replace bxO := bxO.below hb9
 clear hb9 cbxO_0 cbxO_1 cbxO_2 cbxO_3 cbxO_4 cbxO_5
 have cbxO_0 := bxO 0 _ rfl
 have cbxO_1 := bxO 1 _ rfl
 have cbxO_2 := bxO 2 _ rfl
 have cbxO_3 := bxO 3 _ rfl
 have cbxO_4 := bxO 4 _ rfl
 have cbxO_5 := bxO 5 _ rfl
 go_wp2_with fail
 refine (toOutcome_c _ xO _ ((rOutcome_ok NB).keep sO (cells_below hB))).mono ?_
 rintro e w10 ⟨csx0, fx0, rfl, ox0, frx0, hb11⟩
 replace hB := hB.trans (hb11.mono hB.size)
 replace bxO := bxO.below hb11
 clear hb11 cbxO_0 cbxO_1 cbxO_2 cbxO_3 cbxO_4 cbxO_5
 obtain ⟨Ax0AnswerVars, nx0AnswerVars, cx0AnswerVars, Ax0AnswerRows, nx0AnswerRows, cx0AnswerRows, Ax0Notes, nx0Notes, cx0Notes, Ax0BoxLow, nx0BoxLow, cx0BoxLow, Ax0BoxHigh, nx0BoxHigh, cx0BoxHigh, rfl, _, _, _, _, _, _⟩ := rOutcome_rep.1 ((rOutcome_ok NB).toRep ox0)
 have hA12 := (Below.refl w10.heap.size w10).alloc (Nat.le_refl _) (.cells #[.slice Ax0AnswerVars nx0AnswerVars cx0AnswerVars, .slice Ax0AnswerRows nx0AnswerRows cx0AnswerRows, .int .i64 xO.fTotal, .slice Ax0Notes nx0Notes cx0Notes, .slice Ax0BoxLow nx0BoxLow cx0BoxLow, .slice Ax0BoxHigh nx0BoxHigh cx0BoxHigh] 48)
 replace ox0 := (rOutcome_ok NB).ownB ox0 hA12
 replace hB := hB.trans (hA12.mono hB.size)
 replace bxO := bxO.below hA12
 have bxx0 := Bx.new w10 [.slice Ax0AnswerVars nx0AnswerVars cx0AnswerVars, .slice Ax0AnswerRows nx0AnswerRows cx0AnswerRows, .int .i64 xO.fTotal, .slice Ax0Notes nx0Notes cx0Notes, .slice Ax0BoxLow nx0BoxLow cx0BoxLow, .slice Ax0BoxHigh nx0BoxHigh cx0BoxHigh] 48
 clear hA12
 have cbxx0_0 := bxx0 0 _ rfl
 have cbxx0_1 := bxx0 1 _ rfl
 have cbxx0_2 := bxx0 2 _ rfl
 have cbxx0_3 := bxx0 3 _ rfl
 have cbxx0_4 := bxx0 4 _ rfl
 have cbxx0_5 := bxx0 5 _ rfl
 go_wp2_with fail
 refine (iFormatOutcome_c _ xO _ ((rOutcome_ok NB).toRep ox0) (ht.below hB)).mono ?_
 rintro e w13 ⟨rfl, hb14⟩
 replace ox0 := (rOutcome_ok NB).ownB ox0 hb14
 replace hB := hB.trans (hb14.mono hB.size)
 replace bxO := bxO.below hb14
 replace bxx0 := bxx0.below hb14
 clear hb14 cbxx0_0 cbxx0_1 cbxx0_2 cbxx0_3 cbxx0_4 cbxx0_5
 have hnei : ∀ v : Int, (v != v) = false := fun v => by simp
 have hneb : ∀ v : Bool, (v == v) = true := fun v => by simp
 have hnes : ∀ v : ByteArray, (v.toList == v.toList) = true := fun v => by simp
 go_wp2_with fail
 have SS15 : ∀ w', Below w13.heap.size w13 w' → (Below w13.heap.size w13 w' ∧ w'.cell? ⟨w.heap.size, 0, none⟩ = some (.slice AOAnswerVars nOAnswerVars cOAnswerVars) ∧ w'.cell? ⟨w.heap.size, 1, none⟩ = some (.slice AOAnswerRows nOAnswerRows cOAnswerRows) ∧ w'.cell? ⟨w.heap.size, 2, none⟩ = some (.int .i64 xO.fTotal) ∧ w'.cell? ⟨w.heap.size, 3, none⟩ = some (.slice AONotes nONotes cONotes) ∧ w'.cell? ⟨w.heap.size, 4, none⟩ = some (.slice AOBoxLow nOBoxLow cOBoxLow) ∧ w'.cell? ⟨w.heap.size, 5, none⟩ = some (.slice AOBoxHigh nOBoxHigh cOBoxHigh) ∧ w'.cell? ⟨w10.heap.size, 0, none⟩ = some (.slice Ax0AnswerVars nx0AnswerVars cx0AnswerVars) ∧ w'.cell? ⟨w10.heap.size, 1, none⟩ = some (.slice Ax0AnswerRows nx0AnswerRows cx0AnswerRows) ∧ w'.cell? ⟨w10.heap.size, 2, none⟩ = some (.int .i64 xO.fTotal) ∧ w'.cell? ⟨w10.heap.size, 3, none⟩ = some (.slice Ax0Notes nx0Notes cx0Notes) ∧ w'.cell? ⟨w10.heap.size, 4, none⟩ = some (.slice Ax0BoxLow nx0BoxLow cx0BoxLow) ∧ w'.cell? ⟨w10.heap.size, 5, none⟩ = some (.slice Ax0BoxHigh nx0BoxHigh cx0BoxHigh)) := fun w' hb => ⟨hb, bxO.below hb 0 _ rfl, bxO.below hb 1 _ rfl, bxO.below hb 2 _ rfl, bxO.below hb 3 _ rfl, bxO.below hb 4 _ rfl, bxO.below hb 5 _ rfl, bxx0.below hb 0 _ rfl, bxx0.below hb 1 _ rfl, bxx0.below hb 2 _ rfl, bxx0.below hb 3 _ rfl, bxx0.below hb 4 _ rfl, bxx0.below hb 5 _ rfl⟩
 have HSS15 := Lib.hid SS15; clear SS15
 have tok20 : True := trivial
 have tok24 : True := trivial
 go_region_held3 (fun w' => Below w13.heap.size w13 w' ∧ w'.cell? ⟨w.heap.size, 0, none⟩ = some (.slice AOAnswerVars nOAnswerVars cOAnswerVars) ∧ w'.cell? ⟨w.heap.size, 1, none⟩ = some (.slice AOAnswerRows nOAnswerRows cOAnswerRows) ∧ w'.cell? ⟨w.heap.size, 2, none⟩ = some (.int .i64 xO.fTotal) ∧ w'.cell? ⟨w.heap.size, 3, none⟩ = some (.slice AONotes nONotes cONotes) ∧ w'.cell? ⟨w.heap.size, 4, none⟩ = some (.slice AOBoxLow nOBoxLow cOBoxLow) ∧ w'.cell? ⟨w.heap.size, 5, none⟩ = some (.slice AOBoxHigh nOBoxHigh cOBoxHigh) ∧ w'.cell? ⟨w10.heap.size, 0, none⟩ = some (.slice Ax0AnswerVars nx0AnswerVars cx0AnswerVars) ∧ w'.cell? ⟨w10.heap.size, 1, none⟩ = some (.slice Ax0AnswerRows nx0AnswerRows cx0AnswerRows) ∧ w'.cell? ⟨w10.heap.size, 2, none⟩ = some (.int .i64 xO.fTotal) ∧ w'.cell? ⟨w10.heap.size, 3, none⟩ = some (.slice Ax0Notes nx0Notes cx0Notes) ∧ w'.cell? ⟨w10.heap.size, 4, none⟩ = some (.slice Ax0BoxLow nx0BoxLow cx0BoxLow) ∧ w'.cell? ⟨w10.heap.size, 5, none⟩ = some (.slice Ax0BoxHigh nx0BoxHigh cx0BoxHigh)) (first | exact HSS15.out _ (Below.refl _ _).drew | exact HSS15.out _ (by assumption)) (first | (go_at_call 13; have _t := tok20; refine (toOutcome_c _ xO _ ((rOutcome_ok NB).keep sO (cells_below (hB.trans (Below.mono ((Below.refl w13.heap.size w13).drew) hB.size))))).mono ?_; rintro e w17 ⟨csv16, fv16, rfl, ov16, frv16, hb18⟩; have hC19 : Below w13.heap.size w13 w17 := Below.trans ((Below.refl w13.heap.size w13).drew) (hb18.mono ((Below.refl w13.heap.size w13).drew).size); have Rv16 := (rOutcome_ok NB).toRep ov16; clear tok20) | (go_at_call 15; have _t := tok24; refine (eqOutcome_c _ _ xO xO _ ((rOutcome_ok NB).keep ((rOutcome_ok NB).toRep ox0) (cells_below (hC19))) Rv16).mono ?_; rintro e w21 ⟨rfl, hb22⟩; have hC23 : Below w13.heap.size w13 w21 := Below.trans (hC19) (hb22.mono (hC19).size); clear tok24))
 replace ox0 := (rOutcome_ok NB).ownB ox0 hC23
 replace hB := hB.trans (hC23.mono hB.size)
 replace bxO := bxO.below hC23
 replace bxx0 := bxx0.below hC23
 clear HSS15 hC23
 have hdx0 : decide (xO = xO) = true := by simp
 go_wp2
 go_ret
 exact ⟨rfl, hB⟩

set_option maxRecDepth 100000 in
theorem lifted (os : Os) (started : os.Started) (H : Type) (enc : TypeId × Value → H) :
  ReturnsInHanded {} Tryd.checked os 4 .any (fun w args => (Rows.fnExactFormatOutcomeSpec.pre enc Tryd.prog Tryd.f4 Rows.fnExactFormatOutcomeRow.domain false w args ∧ laidMetH Tryd.prog Rows.fnExactFormatOutcomeRow.laid w) ∧ sizedMet enc Tryd.prog Tryd.f4 (OpenSpec.ofChange Rows.fnExactFormatOutcomeSpec) false w args) (Rows.fnExactFormatOutcomeSpec.post enc Tryd.prog Tryd.f4 false true false false) := by
 refine returnsInHanded_of_change_and (C := Tryd.checked) (X := fun w _ => laidMetH Tryd.prog Rows.fnExactFormatOutcomeRow.laid w) (fun _ _ _ hh h => h.of_heap hh) own started (by kernel_rfl) Tryd.func4
  (ChangeSpec.witness_at (enc := enc) (C := Tryd.checked) (os := os) (X := fun w _ => laidMetH Tryd.prog Rows.fnExactFormatOutcomeRow.laid w) false (laidWorld os) #[.agg #[.slice none 0 0, .slice none 0 0, .int .i64 0, .slice none 0 0, .slice none 0 0, .slice none 0 0]] 8 rfl (by kernel_rfl) (by kernel_rfl) (by kernel_rfl) (by kernel_rfl) (by kernel_rfl) (laid_met os _)) ?_
 intro W base args ds gs before hval0 hW hcnd _ hL _
 have hval : ∀ (j : Nat) t v, Tryd.f4.params[j]? = some t → args[j]? = some v → Value.okWide Tryd.prog W .any base t v := hval0
 have hW' := hW
 obtain ⟨p, q, hA0, hV, rfl, hfz, hnd⟩ := hW
 have hA : DataW.TrodAll enc Tryd.prog W 0 (fun _ => true) true Tryd.f4.params.toList args.toList ds p := hA0
 rw [Tryd.params4] at hA hval
 obtain ⟨v0, vs0, d0, ds0, p0, q0, hargs, rfl, rfl, h0, r0⟩ := trodAll_cons hA
 obtain ⟨rfl, rfl, rfl⟩ := trodAll_nil r0
 obtain rfl : args = #[v0] := by cases args; simp_all
 obtain ⟨rfl, rfl⟩ := trodVars_none hV
 obtain ⟨ca0, rfl, _⟩ := okWide_struct Tryd.underlying42 (hval 0 42 v0 rfl rfl)
 obtain ⟨cl0⟩ := ca0
 have k0 := h0
 have lt0 : ∀ x ∈ p0, x.block < W.heap.size := by obtain ⟨m, hm⟩ := k0; exact DataW.trod_lt m _ _ _ hm
 obtain ⟨x0, g0⟩ : ∃ x, (rOutcome maxLen).rep W cl0 x := by
  obtain ⟨fuel, hf⟩ := h0
  exact opensOutcome hf
 clear hA0 hval0
 refine (walk cl0 x0 W g0 (tab_of_laid hL)).mono fun e W' ⟨he, bel⟩ => ?_
 subst he
 exact ⟨_, rfl, _, _, _, [], _, [], hW', trodAll_mk1 (shut_bool Tryd.underlying4 _), (trodAll_cons_mk (Below.trod laidOut (by kernel_rfl) (of_decide_eq_true (by kernel_rfl)) k0 bel lt0) trodAll_mk0), rfl, bel.frame _, fun h => by cases h⟩

theorem over : Rows.fnExactFormatOutcomeRow.holds Tryd.pinned (OpenSpec.ofChange Rows.fnExactFormatOutcomeSpec) :=
 OpenClaim.holds_of_wide 4 Tryd.f4 rfl rfl rfl rfl rfl rfl rfl ⟨rfl, rfl, rfl, rfl, rfl⟩ rfl rfl rfl rfl rfl (by kernel_rfl) Tryd.func4 (by kernel_rfl)
  (of_decide_eq_true (by kernel_rfl)) (by unfold Func.isWrapper; first | (rw [if_pos (by decide +kernel)]; kernel_rfl) | (rw [if_neg (by decide +kernel)]; exact ⟨rfl, rfl⟩))
  (fun os started H enc _ => lifted os started H enc)

theorem proved : Rows.FnExactFormatOutcomeCardSaid :=
 Claim7.holds_tied_plain_at .later [] [.data, .data, .data] true Rows.fnExactFormatOutcomeCard.stood.harness Rows.fnExactFormatOutcomeCard.stood.looks
  over (fun _ h => by cases h) (by kernel_rfl) (fun _ h => by cases h) fnExactFormatOutcome_row_tie rfl ⟨rfl, rfl⟩ (by kernel_rfl) rfl
  (fun f fn hf hfn => by
   obtain rfl : f = 4 := Option.some.inj ((show Tryd.prog.funcNamed "loop.example/g01921/laws.FnExactFormatOutcome" = some 4 by kernel_rfl).symm.trans hf) |>.symm
   obtain rfl : fn = Tryd.f4 := (Option.some.inj (Tryd.func4.symm.trans hfn)).symm
   exact ⟨by kernel_rfl, fun j t ht => by
    rw [Tryd.params4] at ht
    have h3 : t = 42 := by
     rcases j with _ | j
     ·simpa using ht.symm
     ·simp at ht
    subst h3
    exact (show Tryd.prog.wantsStandIn 42 = false by kernel_rfl)⟩)
  (by kernel_rfl)
#print axioms proved
end Go.Proofs.YtnbikckbnbgjkaaDoor.fnExactFormatOutcome
