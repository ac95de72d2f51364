/-
  For every input the law FnExactTotalOfNotes returns true and leaves its arguments as they were; no condition beyond the statement's own.
-/
import Derived.Test.YtajdikbammfbjaaRows
import Derived.Test.YtajdikbammfbjaaOpens
import Derived.Test.YtajdikbammfbjaaNotes
import Derived.Test.YtajdikbammfbjaaTo
import Derived.Test.YtajdikbammfbjaaEq
import Derived.Test.YtajdikbammfbjaaLoc
import Derived.WalkKit
import Derived.ProofKit
import Derived.OpenShut
import Derived.ShutString
import Derived.ChangeOld
import Derived.Below
import Derived.Deep.RegionHeld3
namespace Go.Proofs.Ytajdikbammfbjaa.fnExactTotalOfNotes
open Go.ChangeShapes Go.WideShapes Go.ChangeAt Go.RowKit
open Go.ChangeMaps (open_string shut_string)
set_option linter.unusedVariables false
set_option linter.unusedSimpArgs false

theorem own : ownKnob Try.prog.godebug = none := by kernel_rfl
theorem laidOut : laidOutB Try.prog = true := by kernel_rfl

set_option maxRecDepth 100000 in
set_option maxHeartbeats 4000000 in
theorem walk (ANotes : Option Addr) (nNotes kNotes : Nat) (lNotes : List RunNoteD) (w : World) (rNotes : RS maxLen (rRunNote maxLen) w ANotes nNotes kNotes lNotes) :
    Calls Try.prog 8 #[.slice ANotes nNotes kNotes] w fun e w' => e = .returned (.bool true) ∧ Below w.heap.size w w' := by
  have hB : Below w.heap.size w w := Below.refl _ _
  go_enter Try.func8, Try.ntmps8
  go_wp2_with fail
  refine (szRunNoteS_c _ _ _ _ _ _ (rNotes.below (rRunNote_ok maxLen) hB) (by omega) (by omega)).mono ?_
  rintro e w2 ⟨rfl, hb1⟩
  replace hB := hB.trans (hb1.mono hB.size)
  clear hb1
  by_cases hszNotes : ((lNotes.length : Nat) : Int) ≤ 1048576
  rotate_left
  · rw [lessBy_no hszNotes]
    go_wp2
    go_ret
    exact ⟨rfl, hB⟩
  rw [lessBy_yes hszNotes]
  have sNotes := smallRunNoteS rNotes (by omega)
  obtain ⟨L3, hL3⟩ : ∃ L : Int, L = 1048576 - ((lNotes.length : Nat) : Int) := ⟨_, rfl⟩
  rw [← hL3]
  have pL3 : 0 ≤ L3 := by omega
  have uL3 : L3 ≤ 1048576 := by omega
  clear hL3
  go_wp2_with fail
  refine (toRunNoteS_c _ _ _ _ _ (sNotes.below (rRunNote_ok NB) hB)).mono ?_
  rintro e w5 ⟨Av4, nv4, cv4, rfl, Mv4, hb6⟩
  replace hB := hB.trans (hb6.mono hB.size)
  clear hb6
  have Rv4 := Mv4.rs (rRunNote_ok NB)
  go_wp2_with fail
  refine (sTotalOfNotes_c _ _ _ _ _ Rv4).mono ?_
  rintro e w7 ⟨rfl, hb8⟩
  have hb8b := Below.of_eq hb8
  replace hB := hB.trans (hb8b.mono hB.size)
  replace Rv4 := Rv4.below (rRunNote_ok NB) hb8b
  clear hb8b
  go_wp2_with fail
  refine (toRunNoteS_c _ _ _ _ _ (sNotes.below (rRunNote_ok NB) hB)).mono ?_
  rintro e w9 ⟨Ax0, nx0, cx0, rfl, Mx0, hb10⟩
  replace hB := hB.trans (hb10.mono hB.size)
  replace Rv4 := Rv4.below (rRunNote_ok NB) hb10
  clear hb10
  have Rx0 := Mx0.rs (rRunNote_ok NB)
  go_wp2_with fail
  refine (iTotalOfNotes_c _ _ _ _ _ Rx0 (by have := (Rx0).len; omega)).mono ?_
  rintro e w11 ⟨rfl, hb12⟩
  replace hB := hB.trans (hb12.mono hB.size)
  replace Rv4 := Rv4.below (rRunNote_ok NB) hb12
  replace Rx0 := Rx0.below (rRunNote_ok NB) hb12
  clear hb12
  have hnei : ∀ v : Int, (v != v) = false := fun v => by simp
  have hneb : ∀ v : Bool, (v == v) = true := fun v => by simp
  go_wp2_with fail
  refine (toRunNoteS_c _ _ _ _ _ (sNotes.below (rRunNote_ok NB) hB)).mono ?_
  rintro e w13 ⟨Av15, nv15, cv15, rfl, Mv15, hb14⟩
  replace hB := hB.trans (hb14.mono hB.size)
  replace Rv4 := Rv4.below (rRunNote_ok NB) hb14
  replace Rx0 := Rx0.below (rRunNote_ok NB) hb14
  clear hb14
  have Rv15 := Mv15.rs (rRunNote_ok NB)
  go_wp2_with fail
  refine (eqRunNoteS_b _ _ _ _ _ _ _ _ _ Rx0 Rv15).mono ?_
  rintro e w16 ⟨rfl, hb17⟩
  replace hB := hB.trans (hb17.mono hB.size)
  replace Rv4 := Rv4.below (rRunNote_ok NB) hb17
  replace Rx0 := Rx0.below (rRunNote_ok NB) hb17
  clear hb17
  have hdx0 : decide (lNotes = lNotes) = true := by simp
  go_wp2
  go_ret
  exact ⟨rfl, hB⟩

set_option maxRecDepth 100000 in
theorem lifted (os : Os) (started : os.Started) (H : Type) (enc : TypeId × Value → H) :
    ReturnsInHanded {} Try.checked os 8 .any (Rows.fnExactTotalOfNotesSpec.pre6 enc Try.prog Try.f8 Rows.fnExactTotalOfNotesRow.domain false) (Rows.fnExactTotalOfNotesSpec.post enc Try.prog Try.f8 false true false false) := by
  refine returnsInHanded_of_change (C := Try.checked) own started (by kernel_rfl) Try.func8
    (ChangeSpec.witness6 (enc := enc) (C := Try.checked) false ⟨#[], #[.slice none 0 0], []⟩ 8 (by kernel_rfl) (by kernel_rfl) (by kernel_rfl) (by kernel_rfl)) ?_
  intro W base args ds gs before hval0 hW hcnd _
  have hval : ∀ (j : Nat) t v, Try.f8.params[j]? = some t → args[j]? = some v → Value.okWide Try.prog W .any base t v := hval0
  have hW' := hW
  obtain ⟨p, q, hA0, hV, rfl, hfz, hnd⟩ := hW
  have hA : DataW.TrodAll enc Try.prog W 0 (fun _ => true) true Try.f8.params.toList args.toList ds p := hA0
  rw [Try.params8] at hA hval
  obtain ⟨v0, vs0, d0, ds0, p0, q0, hargs, rfl, rfl, h0, r0⟩ := trodAll_cons hA
  obtain ⟨rfl, rfl, rfl⟩ := trodAll_nil r0
  obtain rfl : args = #[v0] := by cases args; simp_all
  obtain ⟨rfl, rfl⟩ := trodVars_none hV
  obtain ⟨A0, n0, c0, rfl⟩ := okWide_slice Try.underlying43 (hval 0 43 v0 rfl rfl)
  have k0 := h0
  have lt0 : ∀ x ∈ p0, x.block < W.heap.size := by obtain ⟨m, hm⟩ := k0; exact DataW.trod_lt m _ _ _ hm
  obtain ⟨l0, g0⟩ : ∃ l, RS maxLen (rRunNote maxLen) W A0 n0 c0 l := by
    obtain ⟨fuel, hf⟩ := h0
    obtain ⟨l, A, n, c, e, hr⟩ := (opens_slice (rRunNote_ok maxLen) Try.underlying43 (by kernel_rfl) opensRunNote) hf
    simp [Value.cells] at e
    obtain ⟨rfl, rfl, rfl⟩ := e
    exact ⟨l, hr⟩
  clear hA0 hval0
  refine (walk A0 n0 c0 l0 W g0).mono fun e W' ⟨he, bel⟩ => ?_
  subst he
  exact ⟨_, rfl, _, _, _, [], _, [], hW', trodAll_mk1 (shut_bool Try.underlying4 _), (trodAll_cons_mk (Below.trod laidOut (by kernel_rfl) (of_decide_eq_true (by kernel_rfl)) k0 bel lt0) trodAll_mk0), rfl, bel.frame _, fun h => by cases h⟩

theorem over : Rows.fnExactTotalOfNotesRow.holds Try.pinned (OpenSpec.ofChange Rows.fnExactTotalOfNotesSpec) :=
  OpenClaim.holds_of_wide 8 Try.f8 rfl rfl rfl rfl rfl rfl rfl ⟨rfl, rfl, rfl, rfl, rfl⟩ rfl rfl rfl rfl rfl (by kernel_rfl) Try.func8 (by kernel_rfl)
    (of_decide_eq_true (by kernel_rfl)) (by unfold Func.isWrapper; first | (rw [if_pos (by decide +kernel)]; kernel_rfl) | (rw [if_neg (by decide +kernel)]; exact ⟨rfl, rfl⟩))
    (fun os started H enc _ => lifted os started H enc)

theorem proved : Rows.FnExactTotalOfNotesSaid := over
#print axioms proved
end Go.Proofs.Ytajdikbammfbjaa.fnExactTotalOfNotes
