/-
  For every input the law FnExactObservationHolds returns true and leaves its arguments as they were; no condition beyond the statement's own.
-/
import Derived.Test.YtajdikbammfbjaaRows
import Derived.Test.YtajdikbammfbjaaOpens
import Derived.Test.YtajdikbammfbjaaTo
import Derived.Test.YtajdikbammfbjaaEq
import Derived.Test.YtajdikbammfbjaaObs
import Derived.WalkKit
import Derived.ProofKit
import Derived.OpenShut
import Derived.ShutString
import Derived.ChangeOld
import Derived.Below
import Derived.Deep.RegionHeld3
namespace Go.Proofs.Ytajdikbammfbjaa.fnExactObservationHolds
open Go.ChangeShapes Go.WideShapes Go.ChangeAt Go.RowKit
open Go.ChangeMaps (open_string shut_string)
set_option linter.unusedVariables false
set_option linter.unusedSimpArgs false

theorem own : ownKnob Try.prog.godebug = none := by kernel_rfl
theorem laidOut : laidOutB Try.prog = true := by kernel_rfl

set_option maxRecDepth 100000 in
set_option maxHeartbeats 4000000 in
theorem walk (csX : List Value) (xX : ObservationD) (ALocation : Option Addr) (nLocation kLocation : Nat) (lLocation : List Int) (w : World) (rX : (rObservation maxLen).rep w csX xX) (rLocation : RS maxLen rInt w ALocation nLocation kLocation lLocation) :
    Calls Try.prog 7 #[.agg csX.toArray, .slice ALocation nLocation kLocation] w fun e w' => e = .returned (.bool true) ∧ Below w.heap.size w w' := by
  have hB : Below w.heap.size w w := Below.refl _ _
  have qX := rX
  obtain ⟨rfl, hXMask, hXClass⟩ := rObservation_rep.1 qX
  clear qX
  by_cases hsz : nLocation ≤ 1048576
  rotate_left
  · have hnLocation : nLocation ≤ 9223372036854775807 := rLocation.nb
    go_enter Try.func7, Try.ntmps7
    go_wp2
    go_ret
    exact ⟨rfl, (by repeat' (first | with_reducible exact hB | with_reducible refine Below.setCell ?_ ?_ _ | with_reducible refine Below.alloc ?_ ?_ _ | (simp; done) | (simp; omega) | omega))⟩
  have sLocation := smallIntS rLocation (by have := rLocation.len; omega)
  go_enter Try.func7, Try.ntmps7
  have hA1 := (Below.refl (World.heap (w)).size (w)).alloc (Nat.le_refl _) (.cells #[.int .i64 xX.fMask, .int .i64 xX.fClass, .bool xX.fExact] 38)
  replace hB := hB.trans (hA1.mono hB.size)
  have bxX := Bx.new (w) [.int .i64 xX.fMask, .int .i64 xX.fClass, .bool xX.fExact] 38
  clear hA1
  have sX := smallObservation rX
  go_wp2_with fail
  refine (toObservation_c _ xX _ ((rObservation_ok NB).keep sX (cells_below hB))).mono ?_
  rintro e w3 ⟨csv2, fv2, rfl, ov2, frv2, hb4⟩
  replace hB := hB.trans (hb4.mono hB.size)
  replace bxX := bxX.below hb4
  clear hb4
  have Rv2 := (rObservation_ok NB).toRep ov2
  go_wp2_with fail
  refine (toIntS_c _ _ _ _ _ (sLocation.below rInt_ok hB)).mono ?_
  rintro e w6 ⟨Av5, nv5, cv5, rfl, Mv5, hb7⟩
  replace hB := hB.trans (hb7.mono hB.size)
  replace bxX := bxX.below hb7
  replace Rv2 := (rObservation_ok NB).keep Rv2 (cells_below hb7)
  clear hb7
  have Rv5 := Mv5.rs rInt_ok
  go_wp2_with fail
  refine (sObservationHolds_c _ xX _ _ _ _ _ Rv2 Rv5).mono ?_
  rintro e w8 ⟨rfl, hb9⟩
  replace hB := hB.trans (hb9.mono hB.size)
  replace bxX := bxX.below hb9
  replace Rv2 := (rObservation_ok NB).keep Rv2 (cells_below hb9)
  replace Rv5 := Rv5.below rInt_ok hb9
  clear hb9
  go_wp2_with fail
  refine (toIntS_c _ _ _ _ _ (sLocation.below rInt_ok hB)).mono ?_
  rintro e w10 ⟨Ax1, nx1, cx1, rfl, Mx1, hb11⟩
  replace hB := hB.trans (hb11.mono hB.size)
  replace bxX := bxX.below hb11
  replace Rv2 := (rObservation_ok NB).keep Rv2 (cells_below hb11)
  replace Rv5 := Rv5.below rInt_ok hb11
  clear hb11
  have Rx1 := Mx1.rs rInt_ok
  have cbxX_0 := bxX 0 _ rfl
  have cbxX_1 := bxX 1 _ rfl
  have cbxX_2 := bxX 2 _ rfl
  go_wp2_with fail
  refine (toObservation_c _ xX _ ((rObservation_ok NB).keep sX (cells_below hB))).mono ?_
  rintro e w13 ⟨csv12, fv12, rfl, ov12, frv12, hb14⟩
  replace hB := hB.trans (hb14.mono hB.size)
  replace bxX := bxX.below hb14
  replace Rv2 := (rObservation_ok NB).keep Rv2 (cells_below hb14)
  replace Rv5 := Rv5.below rInt_ok hb14
  replace Rx1 := Rx1.below rInt_ok hb14
  clear hb14
  have Rv12 := (rObservation_ok NB).toRep ov12
  go_wp2_with fail
  refine (iObservationHolds_c _ xX _ _ _ _ _ Rv12 Rx1).mono ?_
  rintro e w15 ⟨rfl, hb16⟩
  replace hB := hB.trans (hb16.mono hB.size)
  replace bxX := bxX.below hb16
  replace Rv2 := (rObservation_ok NB).keep Rv2 (cells_below hb16)
  replace Rv5 := Rv5.below rInt_ok hb16
  replace Rx1 := Rx1.below rInt_ok hb16
  replace Rv12 := (rObservation_ok NB).keep Rv12 (cells_below hb16)
  clear hb16 cbxX_0 cbxX_1 cbxX_2
  have hnei : ∀ v : Int, (v != v) = false := fun v => by simp
  have hneb : ∀ v : Bool, (v == v) = true := fun v => by simp
  go_wp2_with fail
  refine (toIntS_c _ _ _ _ _ (sLocation.below rInt_ok hB)).mono ?_
  rintro e w17 ⟨Av19, nv19, cv19, rfl, Mv19, hb18⟩
  replace hB := hB.trans (hb18.mono hB.size)
  replace bxX := bxX.below hb18
  replace Rv2 := (rObservation_ok NB).keep Rv2 (cells_below hb18)
  replace Rv5 := Rv5.below rInt_ok hb18
  replace Rx1 := Rx1.below rInt_ok hb18
  replace Rv12 := (rObservation_ok NB).keep Rv12 (cells_below hb18)
  clear hb18
  have Rv19 := Mv19.rs rInt_ok
  go_wp2_with fail
  refine (eqIntS_b _ _ _ _ _ _ _ _ _ Rx1 Rv19).mono ?_
  rintro e w20 ⟨rfl, hb21⟩
  replace hB := hB.trans (hb21.mono hB.size)
  replace bxX := bxX.below hb21
  replace Rv2 := (rObservation_ok NB).keep Rv2 (cells_below hb21)
  replace Rv5 := Rv5.below rInt_ok hb21
  replace Rx1 := Rx1.below rInt_ok hb21
  replace Rv12 := (rObservation_ok NB).keep Rv12 (cells_below hb21)
  clear hb21
  have hdx1 : decide (lLocation = lLocation) = true := by simp
  go_wp2
  go_ret
  exact ⟨rfl, hB⟩

set_option maxRecDepth 100000 in
theorem lifted (os : Os) (started : os.Started) (H : Type) (enc : TypeId × Value → H) :
    ReturnsInHanded {} Try.checked os 7 .any (Rows.fnExactObservationHoldsSpec.pre6 enc Try.prog Try.f7 Rows.fnExactObservationHoldsRow.domain false) (Rows.fnExactObservationHoldsSpec.post enc Try.prog Try.f7 false true false false) := by
  refine returnsInHanded_of_change (C := Try.checked) own started (by kernel_rfl) Try.func7
    (ChangeSpec.witness6 (enc := enc) (C := Try.checked) false ⟨#[], #[.agg #[.int .i64 0, .int .i64 0, .bool false], .slice none 0 0], []⟩ 8 (by kernel_rfl) (by kernel_rfl) (by kernel_rfl) (by kernel_rfl)) ?_
  intro W base args ds gs before hval0 hW hcnd _
  have hval : ∀ (j : Nat) t v, Try.f7.params[j]? = some t → args[j]? = some v → Value.okWide Try.prog W .any base t v := hval0
  have hW' := hW
  obtain ⟨p, q, hA0, hV, rfl, hfz, hnd⟩ := hW
  have hA : DataW.TrodAll enc Try.prog W 0 (fun _ => true) true Try.f7.params.toList args.toList ds p := hA0
  rw [Try.params7] at hA hval
  obtain ⟨v0, vs0, d0, ds0, p0, q0, hargs, rfl, rfl, h0, r0⟩ := trodAll_cons hA
  obtain ⟨v1, vs1, d1, ds1, p1, q1, rfl, rfl, rfl, h1, r1⟩ := trodAll_cons r0
  obtain ⟨rfl, rfl, rfl⟩ := trodAll_nil r1
  obtain rfl : args = #[v0, v1] := by cases args; simp_all
  obtain ⟨rfl, rfl⟩ := trodVars_none hV
  obtain ⟨ca0, rfl, _⟩ := okWide_struct Try.underlying38 (hval 0 38 v0 rfl rfl)
  obtain ⟨cl0⟩ := ca0
  have k0 := h0
  have lt0 : ∀ x ∈ p0, x.block < W.heap.size := by obtain ⟨m, hm⟩ := k0; exact DataW.trod_lt m _ _ _ hm
  obtain ⟨x0, g0⟩ : ∃ x, (rObservation maxLen).rep W cl0 x := by
    obtain ⟨fuel, hf⟩ := h0
    exact opensObservation hf
  obtain ⟨A1, n1, c1, rfl⟩ := okWide_slice Try.underlying24 (hval 1 24 v1 rfl rfl)
  have k1 := h1
  have lt1 : ∀ x ∈ p1, x.block < W.heap.size := by obtain ⟨m, hm⟩ := k1; exact DataW.trod_lt m _ _ _ hm
  obtain ⟨l1, g1⟩ : ∃ l, RS maxLen rInt W A1 n1 c1 l := by
    obtain ⟨fuel, hf⟩ := h1
    obtain ⟨l, A, n, c, e, hr⟩ := (opens_slice rInt_ok Try.underlying24 (by kernel_rfl) (opens_int Try.underlying3)) hf
    simp [Value.cells] at e
    obtain ⟨rfl, rfl, rfl⟩ := e
    exact ⟨l, hr⟩
  clear hA0 hval0
  refine (walk cl0 x0 A1 n1 c1 l1 W g0 g1).mono fun e W' ⟨he, bel⟩ => ?_
  subst he
  exact ⟨_, rfl, _, _, _, [], _, [], hW', trodAll_mk1 (shut_bool Try.underlying4 _), (trodAll_cons_mk (Below.trod laidOut (by kernel_rfl) (of_decide_eq_true (by kernel_rfl)) k0 bel lt0) (trodAll_cons_mk (Below.trod laidOut (by kernel_rfl) (of_decide_eq_true (by kernel_rfl)) k1 bel lt1) trodAll_mk0)), rfl, bel.frame _, fun h => by cases h⟩

theorem over : Rows.fnExactObservationHoldsRow.holds Try.pinned (OpenSpec.ofChange Rows.fnExactObservationHoldsSpec) :=
  OpenClaim.holds_of_wide 7 Try.f7 rfl rfl rfl rfl rfl rfl rfl ⟨rfl, rfl, rfl, rfl, rfl⟩ rfl rfl rfl rfl rfl (by kernel_rfl) Try.func7 (by kernel_rfl)
    (of_decide_eq_true (by kernel_rfl)) (by unfold Func.isWrapper; first | (rw [if_pos (by decide +kernel)]; kernel_rfl) | (rw [if_neg (by decide +kernel)]; exact ⟨rfl, rfl⟩))
    (fun os started H enc _ => lifted os started H enc)

theorem proved : Rows.FnExactObservationHoldsSaid := over
#print axioms proved
end Go.Proofs.Ytajdikbammfbjaa.fnExactObservationHolds
