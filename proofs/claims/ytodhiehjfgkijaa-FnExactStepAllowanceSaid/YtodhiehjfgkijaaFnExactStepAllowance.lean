/-
  For every input the law FnExactStepAllowance returns true and leaves its arguments as they were; no condition beyond the statement's own.
-/
import Derived.Test.YtodhiehjfgkijaaRows
import Derived.Test.YtodhiehjfgkijaaAllow
import Derived.Test.YtodhiehjfgkijaaToM
import Derived.Test.YtodhiehjfgkijaaOpens
import Derived.Test.YtodhiehjfgkijaaTo
import Derived.Test.YtodhiehjfgkijaaEq
import Derived.WalkKit
import Derived.ProofKit
import Derived.OpenShut
import Derived.ShutString
import Derived.ChangeOld
import Derived.Below
import Derived.Deep.RegionHeld3
namespace Go.Proofs.Ytodhiehjfgkijaa.fnExactStepAllowance
open Go.ChangeShapes Go.WideShapes Go.ChangeAt Go.RowKit
open Go.ChangeMaps (open_string shut_string)
set_option linter.unusedVariables false
set_option linter.unusedSimpArgs false

theorem sizeLawModel : (Try.prog.info? 56).map (·.size) = some 30 := by kernel_rfl
theorem own : ownKnob Try.prog.godebug = none := by kernel_rfl
theorem laidOut : laidOutB Try.prog = true := by kernel_rfl

set_option maxRecDepth 100000 in
set_option maxHeartbeats 4000000 in
theorem walk (csM : List Value) (xM : ModelD) (aKind : Int) (aLeft : Int) (aRight : Int) (aBudget : Int) (w : World) (rM : (rModel maxLen).rep w csM xM) (iKind : I64 aKind) (iLeft : I64 aLeft) (iRight : I64 aRight) (iBudget : I64 aBudget) :
    Calls Try.prog 5 #[.agg csM.toArray, .int .i64 aKind, .int .i64 aLeft, .int .i64 aRight, .int .i64 aBudget] w fun e w' => e = .returned (.bool true) ∧ Below w.heap.size w w' := by
  have hB : Below w.heap.size w w := Below.refl _ _
  have lenM : csM.length = 30 := (rModel_ok maxLen).len rM
  go_enter Try.func5, Try.ntmps5
  have hA1 := (Below.refl (World.heap (w)).size (w)).alloc (Nat.le_refl _) (.cells csM.toArray 56)
  replace hB := hB.trans (hA1.mono hB.size)
  have bxM := Bx.new (w) csM 56
  clear hA1
  go_wp2_with (first | (refine wpList_load_mid rfl 56 _ rfl (w.heap.size) 0 rfl csM _ bxM.range Try.underlying56 rfl (by rw [lenM]; exact sizeLawModel) ?_))
  refine (szModel_c _ xM _ _ ((rModel_ok maxLen).keep rM (cells_below hB)) (by omega) (by omega)).mono ?_
  rintro e w3 ⟨rfl, hb2⟩
  replace hB := hB.trans (hb2.mono hB.size)
  replace bxM := bxM.below hb2
  clear hb2
  by_cases hszM : ((bulkModel xM : Nat) : Int) ≤ 1048576
  rotate_left
  · rw [lessBy_no hszM]
    go_wp2
    go_ret
    exact ⟨rfl, hB⟩
  rw [lessBy_yes hszM]
  have sM := smallModel rM (by omega)
  obtain ⟨L4, hL4⟩ : ∃ L : Int, L = 1048576 - ((bulkModel xM : Nat) : Int) := ⟨_, rfl⟩
  rw [← hL4]
  have pL4 : 0 ≤ L4 := by omega
  have uL4 : L4 ≤ 1048576 := by omega
  clear hL4
  go_wp2_with (first | (refine wpList_load_mid rfl 56 _ rfl (w.heap.size) 0 rfl csM _ bxM.range Try.underlying56 rfl (by rw [lenM]; exact sizeLawModel) ?_))
  refine (toModel_c _ xM _ ((rModel_ok NB).keep sM (cells_below hB))).mono ?_
  rintro e w6 ⟨csv5, fv5, rfl, ov5, frv5, hb7⟩
  replace hB := hB.trans (hb7.mono hB.size)
  replace bxM := bxM.below hb7
  clear hb7
  have Rv5 := (rModel_ok NB).toRep ov5
  go_wp2_with (first | (refine wpList_load_mid rfl 56 _ rfl (w.heap.size) 0 rfl csM _ bxM.range Try.underlying56 rfl (by rw [lenM]; exact sizeLawModel) ?_))
  refine (sStepAllowance_c _ xM _ _ _ _ _ Rv5).mono ?_
  rintro e w8 ⟨rfl, hb9⟩
  replace hB := hB.trans (hb9.mono hB.size)
  replace bxM := bxM.below hb9
  clear hb9
  go_wp2_with (first | (refine wpList_load_mid rfl 56 _ rfl (w.heap.size) 0 rfl csM _ bxM.range Try.underlying56 rfl (by rw [lenM]; exact sizeLawModel) ?_))
  refine (toModel_c _ xM _ ((rModel_ok NB).keep sM (cells_below hB))).mono ?_
  rintro e w10 ⟨csx0, fx0, rfl, ox0, frx0, hb11⟩
  replace hB := hB.trans (hb11.mono hB.size)
  replace bxM := bxM.below hb11
  clear hb11
  have lenx0 : csx0.length = 30 := (rModel_ok NB).len ((rModel_ok NB).toRep ox0)
  have hA12 : Below w10.heap.size w10 (World.setCells (w10.alloc (.cells #[.int .i64 0, .int .i64 0, .int .i64 0, .int .i64 0, .int .i64 0, .slice none 0 0, .int .i64 0, .int .i64 0, .int .i64 0, .int .i64 0, .int .i64 0, .slice none 0 0, .int .i64 0, .int .i64 0, .int .i64 0, .int .i64 0, .int .i64 0, .slice none 0 0, .int .i64 0, .int .i64 0, .int .i64 0, .int .i64 0, .int .i64 0, .slice none 0 0, .int .i64 0, .int .i64 0, .int .i64 0, .int .i64 0, .int .i64 0, .slice none 0 0] 63)) w10.heap.size 0 csx0) := by rw [setCells_kit]; exact Below.setCells ((Below.refl _ _).alloc (Nat.le_refl _) _) (Nat.le_refl _) _ _
  replace ox0 := (rModel_ok NB).ownB ox0 hA12
  replace hB := hB.trans (hA12.mono hB.size)
  replace bxM := bxM.below hA12
  have bxx0 : Bx (World.setCells (w10.alloc (.cells #[.int .i64 0, .int .i64 0, .int .i64 0, .int .i64 0, .int .i64 0, .slice none 0 0, .int .i64 0, .int .i64 0, .int .i64 0, .int .i64 0, .int .i64 0, .slice none 0 0, .int .i64 0, .int .i64 0, .int .i64 0, .int .i64 0, .int .i64 0, .slice none 0 0, .int .i64 0, .int .i64 0, .int .i64 0, .int .i64 0, .int .i64 0, .slice none 0 0, .int .i64 0, .int .i64 0, .int .i64 0, .int .i64 0, .int .i64 0, .slice none 0 0] 63)) w10.heap.size 0 csx0) w10.heap.size csx0 := by rw [setCells_kit]; exact ((Bk.new w10 [.int .i64 0, .int .i64 0, .int .i64 0, .int .i64 0, .int .i64 0, .slice none 0 0, .int .i64 0, .int .i64 0, .int .i64 0, .int .i64 0, .int .i64 0, .slice none 0 0, .int .i64 0, .int .i64 0, .int .i64 0, .int .i64 0, .int .i64 0, .slice none 0 0, .int .i64 0, .int .i64 0, .int .i64 0, .int .i64 0, .int .i64 0, .slice none 0 0, .int .i64 0, .int .i64 0, .int .i64 0, .int .i64 0, .int .i64 0, .slice none 0 0] 63).fill lenx0).bx
  have Onex0 := all_oneCell_toArray ((rModel_ok NB).one ((rModel_ok NB).toRep ox0))
  have Thex0 : (w10.alloc (.cells #[.int .i64 0, .int .i64 0, .int .i64 0, .int .i64 0, .int .i64 0, .slice none 0 0, .int .i64 0, .int .i64 0, .int .i64 0, .int .i64 0, .int .i64 0, .slice none 0 0, .int .i64 0, .int .i64 0, .int .i64 0, .int .i64 0, .int .i64 0, .slice none 0 0, .int .i64 0, .int .i64 0, .int .i64 0, .int .i64 0, .int .i64 0, .slice none 0 0, .int .i64 0, .int .i64 0, .int .i64 0, .int .i64 0, .int .i64 0, .slice none 0 0] 63)).there w10.heap.size 0 csx0.toArray.size := by rw [show csx0.toArray.size = 30 from List.size_toArray.trans lenx0]; exact (Bk.new w10 [.int .i64 0, .int .i64 0, .int .i64 0, .int .i64 0, .int .i64 0, .slice none 0 0, .int .i64 0, .int .i64 0, .int .i64 0, .int .i64 0, .int .i64 0, .slice none 0 0, .int .i64 0, .int .i64 0, .int .i64 0, .int .i64 0, .int .i64 0, .slice none 0 0, .int .i64 0, .int .i64 0, .int .i64 0, .int .i64 0, .int .i64 0, .slice none 0 0, .int .i64 0, .int .i64 0, .int .i64 0, .int .i64 0, .int .i64 0, .slice none 0 0] 63).there
  clear hA12
  go_wp2_with (first | (refine wpList_store_mid rfl 63 _ _ rfl (w10.heap.size) 0 (List.toArray csx0) rfl rfl Thex0 (by rw [show csx0.toArray.size = 30 from List.size_toArray.trans lenx0]; exact sizeModel) Onex0 ?_) | (refine wpList_load_mid rfl 56 _ rfl (w.heap.size) 0 rfl csM _ bxM.range Try.underlying56 rfl (by rw [lenM]; exact sizeLawModel) ?_) | (refine wpList_load_mid rfl 63 _ rfl (w10.heap.size) 0 rfl csx0 _ bxx0.range Try.underlying63 rfl (by rw [lenx0]; exact sizeModel) ?_))
  clear Onex0 Thex0
  refine (iStepAllowance_c _ xM _ _ _ _ _ ((rModel_ok NB).toRep ox0)).mono ?_
  rintro e w13 ⟨rfl, hb14⟩
  replace ox0 := (rModel_ok NB).ownB ox0 hb14
  replace hB := hB.trans (hb14.mono hB.size)
  replace bxM := bxM.below hb14
  replace bxx0 := bxx0.below hb14
  clear hb14
  have hnei : ∀ v : Int, (v != v) = false := fun v => by simp
  have hneb : ∀ v : Bool, (v == v) = true := fun v => by simp
  go_wp2_with (first | (refine wpList_load_mid rfl 56 _ rfl (w.heap.size) 0 rfl csM _ bxM.range Try.underlying56 rfl (by rw [lenM]; exact sizeLawModel) ?_) | (refine wpList_load_mid rfl 63 _ rfl (w10.heap.size) 0 rfl csx0 _ bxx0.range Try.underlying63 rfl (by rw [lenx0]; exact sizeModel) ?_))
  have HSS : ∀ w', Below w13.heap.size w13 w' → (Below w13.heap.size w13 w' ∧ w'.rangeAt (w.heap.size) 0 csM ∧ w'.rangeAt (w10.heap.size) 0 csx0) := fun w' hb => ⟨hb, (bxM.below hb).range, (bxx0.below hb).range⟩
  refine wp_region_held_drew (S := fun w' => Below w13.heap.size w13 w' ∧ w'.rangeAt (w.heap.size) 0 csM ∧ w'.rangeAt (w10.heap.size) 0 csx0) (by kernel_rfl) ?_ (fun hHeld => ?_)
  · exact HSS _ (Below.refl _ _).drew
  refine' wpAnyH_take (i := 0) (v := _) rfl (by kernel_rfl) (by kernel_rfl) (by kernel_rfl) (fun _ _ _ h => h) (yieldsIf_load_mid (by rfl) _ _ rfl _ _ rfl _ _ (fun w h => h.2.2) Try.underlying63 rfl (by rw [lenx0]; exact sizeModel)) hHeld ?_
  simp only [Act.put, List.setIfInBounds_toArray, List.set_cons_zero, List.set_cons_succ]
  refine' wpAnyH_take (i := 1) (v := _) rfl (by kernel_rfl) (by kernel_rfl) (by kernel_rfl) (fun _ _ _ h => h) (yieldsIf_load_mid (by rfl) _ _ rfl _ _ rfl _ _ (fun w h => h.2.1) Try.underlying56 rfl (by rw [lenM]; exact sizeLawModel)) hHeld ?_
  simp only [Act.put, List.setIfInBounds_toArray, List.set_cons_zero, List.set_cons_succ]
  refine wpAnyH_ready (rs := [2]) (by kernel_rfl) (by simp) ?_
  refine AllReadyH.cons rfl (fun K hK => ?_) AllReadyH.nil
  have HSS' := Lib.hid HSS; clear HSS
  clear hHeld
  go_simp
  refine (toModel_c _ xM _ ((rModel_ok NB).keep sM (cells_below (hB.trans (Below.mono ((Below.refl w13.heap.size w13).drew) hB.size))))).mono ?_
  rintro e wq1 ⟨csq, fq, rfl, oq, frq, hbq1⟩
  have hCq1 : Below w13.heap.size w13 wq1 := Below.trans ((Below.refl w13.heap.size w13).drew) hbq1
  have Rq := (rModel_ok NB).toRep oq; clear oq frq hbq1
  go_wp2_with fail
  refine hK.out _ _ (HSS'.out _ hCq1) (fun hHeld => ?_)
  clear hK K hHeld
  try simp only [Act.put, List.setIfInBounds_toArray, List.set_cons_zero, List.set_cons_succ]
  refine wpAnyH_ready (rs := [3]) (by kernel_rfl) (by simp) ?_
  refine AllReadyH.cons rfl (fun K hK => ?_) AllReadyH.nil
  go_simp
  refine (eqModel_c _ _ xM xM _ ((rModel_ok NB).keep ((rModel_ok NB).toRep ox0) (cells_below hCq1)) Rq).mono ?_
  rintro e wq2 ⟨rfl, hbq2⟩
  have hC23 : Below w13.heap.size w13 wq2 := Below.trans hCq1 (hbq2.mono hCq1.size)
  clear hbq2 hCq1 Rq
  go_wp2_with fail
  refine hK.out _ _ (HSS'.out _ hC23) (fun hHeld => ?_)
  clear hK K hHeld
  try simp only [Act.put, List.setIfInBounds_toArray, List.set_cons_zero, List.set_cons_succ]
  refine wpAnyH_ready (rs := [4]) (by kernel_rfl) (by simp) ?_
  refine AllReadyH.cons rfl (fun K hK => ?_) AllReadyH.nil
  go_simp
  refine hK.out _ _ (HSS'.out _ hC23) (fun hHeld => ?_)
  clear hK K hHeld HSS'
  try simp only [Act.put, List.setIfInBounds_toArray, List.set_cons_zero, List.set_cons_succ]
  refine wpAnyH_done (by kernel_rfl) ?_ _
  replace ox0 := (rModel_ok NB).ownB ox0 hC23
  replace hB := hB.trans (hC23.mono hB.size)
  replace bxM := bxM.below hC23
  replace bxx0 := bxx0.below hC23
  clear hC23
  have hdx0 : decide (xM = xM) = true := by simp
  go_wp2
  go_ret
  exact ⟨rfl, hB⟩

set_option maxRecDepth 100000 in
theorem lifted (os : Os) (started : os.Started) (H : Type) (enc : TypeId × Value → H) :
    ReturnsInHanded {} Try.checked os 5 .any (Rows.fnExactStepAllowanceSpec.pre6 enc Try.prog Try.f5 Rows.fnExactStepAllowanceRow.domain false) (Rows.fnExactStepAllowanceSpec.post enc Try.prog Try.f5 false true false false) := by
  refine returnsInHanded_of_change (C := Try.checked) own started (by kernel_rfl) Try.func5
    (ChangeSpec.witness6 (enc := enc) (C := Try.checked) false ⟨#[], #[.agg #[.int .i64 0, .int .i64 0, .int .i64 0, .int .i64 0, .int .i64 0, .slice none 0 0, .int .i64 0, .int .i64 0, .int .i64 0, .int .i64 0, .int .i64 0, .slice none 0 0, .int .i64 0, .int .i64 0, .int .i64 0, .int .i64 0, .int .i64 0, .slice none 0 0, .int .i64 0, .int .i64 0, .int .i64 0, .int .i64 0, .int .i64 0, .slice none 0 0, .int .i64 0, .int .i64 0, .int .i64 0, .int .i64 0, .int .i64 0, .slice none 0 0], .int .i64 0, .int .i64 0, .int .i64 0, .int .i64 0], []⟩ 8 (by kernel_rfl) (by kernel_rfl) (by kernel_rfl) (by kernel_rfl)) ?_
  intro W base args ds gs before hval0 hW hcnd _
  have hval : ∀ (j : Nat) t v, Try.f5.params[j]? = some t → args[j]? = some v → Value.okWide Try.prog W .any base t v := hval0
  have hW' := hW
  obtain ⟨p, q, hA0, hV, rfl, hfz, hnd⟩ := hW
  have hA : DataW.TrodAll enc Try.prog W 0 (fun _ => true) true Try.f5.params.toList args.toList ds p := hA0
  rw [Try.params5] at hA hval
  obtain ⟨v0, vs0, d0, ds0, p0, q0, hargs, rfl, rfl, h0, r0⟩ := trodAll_cons hA
  obtain ⟨v1, vs1, d1, ds1, p1, q1, rfl, rfl, rfl, h1, r1⟩ := trodAll_cons r0
  obtain ⟨v2, vs2, d2, ds2, p2, q2, rfl, rfl, rfl, h2, r2⟩ := trodAll_cons r1
  obtain ⟨v3, vs3, d3, ds3, p3, q3, rfl, rfl, rfl, h3, r3⟩ := trodAll_cons r2
  obtain ⟨v4, vs4, d4, ds4, p4, q4, rfl, rfl, rfl, h4, r4⟩ := trodAll_cons r3
  obtain ⟨rfl, rfl, rfl⟩ := trodAll_nil r4
  obtain rfl : args = #[v0, v1, v2, v3, v4] := by cases args; simp_all
  obtain ⟨rfl, rfl⟩ := trodVars_none hV
  obtain ⟨ca0, rfl, _⟩ := okWide_struct Try.underlying56 (hval 0 56 v0 rfl rfl)
  obtain ⟨cl0⟩ := ca0
  have k0 := h0
  have lt0 : ∀ x ∈ p0, x.block < W.heap.size := by obtain ⟨m, hm⟩ := k0; exact DataW.trod_lt m _ _ _ hm
  obtain ⟨x0, g0⟩ : ∃ x, (rModel maxLen).rep W cl0 x := by
    obtain ⟨fuel, hf⟩ := h0
    exact opensModel hf
  obtain ⟨a1, rfl, rfl, rfl, w1⟩ := open_int Try.underlying3 (hval 1 3 v1 rfl rfl) h1
  obtain ⟨a2, rfl, rfl, rfl, w2⟩ := open_int Try.underlying3 (hval 2 3 v2 rfl rfl) h2
  obtain ⟨a3, rfl, rfl, rfl, w3⟩ := open_int Try.underlying3 (hval 3 3 v3 rfl rfl) h3
  obtain ⟨a4, rfl, rfl, rfl, w4⟩ := open_int Try.underlying3 (hval 4 3 v4 rfl rfl) h4
  clear hA0 hval0
  refine (walk cl0 x0 a1 a2 a3 a4 W g0 (bounds_i64 w1) (bounds_i64 w2) (bounds_i64 w3) (bounds_i64 w4)).mono fun e W' ⟨he, bel⟩ => ?_
  subst he
  exact ⟨_, rfl, _, _, _, [], _, [], hW', trodAll_mk1 (shut_bool Try.underlying4 _), (trodAll_cons_mk (Below.trod laidOut (by kernel_rfl) (of_decide_eq_true (by kernel_rfl)) k0 bel lt0) (trodAll_cons_mk (shut_int Try.underlying3 w1) (trodAll_cons_mk (shut_int Try.underlying3 w2) (trodAll_cons_mk (shut_int Try.underlying3 w3) (trodAll_cons_mk (shut_int Try.underlying3 w4) trodAll_mk0))))), rfl, bel.frame _, fun h => by cases h⟩

theorem over : Rows.fnExactStepAllowanceRow.holds Try.pinned (OpenSpec.ofChange Rows.fnExactStepAllowanceSpec) :=
  OpenClaim.holds_of_wide 5 Try.f5 rfl rfl rfl rfl rfl rfl rfl ⟨rfl, rfl, rfl, rfl, rfl⟩ rfl rfl rfl rfl rfl (by kernel_rfl) Try.func5 (by kernel_rfl)
    (of_decide_eq_true (by kernel_rfl)) (by unfold Func.isWrapper; first | (rw [if_pos (by decide +kernel)]; kernel_rfl) | (rw [if_neg (by decide +kernel)]; exact ⟨rfl, rfl⟩))
    (fun os started H enc _ => lifted os started H enc)

theorem proved : Rows.FnExactStepAllowanceSaid := over
#print axioms proved
end Go.Proofs.Ytodhiehjfgkijaa.fnExactStepAllowance
