/-
  Contracts: slices.Equal of structs of plain fields.
-/
import Derived.Test.YtajdikbammfbjaaEqual
import Derived.Laws.StructEq
namespace Go.Proofs.Ytajdikbammfbjaa
open Go.RowKit

theorem RS.obs {M M' : Nat} {w : World} {A : Option Addr} {n cap : Nat} {l : List ObservationD} (h : RS M (rObservation M') w A n cap l) {k : Nat} (hk : k < n) :
    ∃ b off x, A = some ⟨b, off, none⟩ ∧ w.cell? ⟨b, off + k * 3, none⟩ = some (.int .i64 x.fMask) ∧ w.cell? ⟨b, off + k * 3 + 1, none⟩ = some (.int .i64 x.fClass) ∧ w.cell? ⟨b, off + k * 3 + 2, none⟩ = some (.bool x.fExact) ∧ I64 x.fMask ∧ I64 x.fClass ∧ Hid (l[k]? = some x) := by
  obtain ⟨b, off, x, cs, e, hrep, hc, hx⟩ := h.at_ hk
  obtain ⟨rfl, h1, h2⟩ := rObservation_rep.1 hrep
  exact ⟨b, off, x, e, hc 0 _ rfl, hc 1 _ rfl, hc 2 _ rfl, h1, h2, hx⟩

theorem guardObs : Try.prog.eqGuardType Try.prog.depth 40 = false := by kernel_rfl
theorem neqObs (x x' : ObservationD) (W : World) : (binOp .neq 40 (.agg #[.int .i64 x.fMask, .int .i64 x.fClass, .bool x.fExact]) (.agg #[.int .i64 x'.fMask, .int .i64 x'.fClass, .bool x'.fExact])).run Try.prog W = .ok (.bool (!decide (x = x'))) W := by
  rw [run_neq_struct, show (10000 : Nat) = 9999 + 1 from rfl, run_equalIn_struct _ _ _ _ _ (by kernel_rfl) (by kernel_rfl)]
  have hd : decide (x = x') = ((x.fMask == x'.fMask) && ((x.fClass == x'.fClass) && (x.fExact == x'.fExact))) := by
    rw [Bool.eq_iff_iff]
    cases x; cases x'
    simp
  rw [hd]
  by_cases h1 : x.fMask = x'.fMask <;> by_cases h2 : x.fClass = x'.fClass <;> by_cases h3 : x.fExact = x'.fExact <;> simp [go_sem, Try.underlying40, Try.underlying3, Try.underlying4, h1, h2, h3]

set_option maxRecDepth 100000 in
set_option maxHeartbeats 800000 in
theorem equalObs_c (A A' : Option Addr) (n n' cap cap' : Nat) (l l' : List ObservationD) (w : World) (hr : RS NB (rObservation NB) w A n cap l) (hr' : RS NB (rObservation NB) w A' n' cap' l') :
    Calls Try.prog 93 #[.slice A n cap, .slice A' n' cap'] w fun e w' => e = .returned (.bool (decide (l = l'))) ∧ Qt w w' := by
  have hn := hr.bound
  have hn' := hr'.bound
  by_cases hne : n = n'
  · subst hne
    go_enter Try.func93, Try.ntmps93
    go_wp2
    go_loopw [13] (fun i wr => ∃ k : Nat, k ≤ n ∧ i = .int .i64 k ∧ l.take k = l'.take k ∧ ∃ q, wr = w.drewN q) (fun i _ => n - (intOf i).toNat)
    case atStart => exact ⟨0, Nat.zero_le _, rfl, rfl, 0, rfl⟩
    case round =>
      obtain ⟨k, hk, rfl, heq, q, rfl⟩ := hrel
      have HE := Lib.hid heq; clear heq
      by_cases hlt : k < n
      · obtain ⟨b, off, x, rfl, c0, c1, c2, _, _, hxk⟩ := hr.obs hlt
        obtain ⟨b', off', x', rfl, c0', c1', c2', _, _, hxk'⟩ := hr'.obs hlt
        have hop := fun W => neqObs x x' W
        have g1 := guardObs
        by_cases hx : x = x'
        · have hb : decide (x = x') = true := by simp [hx]
          have HX := Lib.hid hx; clear hx
          go_wp2
          go_quiet (fail)
          go_wp2
          go_roundw
          case rel => exact ⟨k + 1, by omega, by go_num, take_eq_snoc HE.out hxk.out (HX.out ▸ hxk'.out), (by first | exact ⟨_, rfl⟩ | (simp only [World.drewN_drewN]; exact ⟨_, rfl⟩))⟩
          case measure => simp [intOf]; omega
        · have hb : decide (x = x') = false := by simp [hx]
          go_wp2
          go_quiet (fail)
          go_wp2
          go_ret
          exact ⟨ret_bool (a := false) (by have := ne_of_at hxk.out hxk'.out hx; simp [this]), (by first | exact ⟨_, rfl⟩ | (simp only [World.drewN_drewN]; exact ⟨_, rfl⟩))⟩
      · go_wp2
        go_ret
        have e : l = l' := by rw [← take_all hr.len hlt, ← take_all hr'.len hlt]; exact HE.out
        exact ⟨ret_bool (a := true) (by simp [e]), _, rfl⟩
  · have hb : ((n : Int) != (n' : Int)) = true := by simp; omega
    go_enter Try.func93, Try.ntmps93
    go_wp2
    go_ret
    have e : l ≠ l' := by rintro rfl; exact hne (hr.len.symm.trans hr'.len)
    exact ⟨ret_bool (a := false) (by simp [e]), Qt.refl _⟩
end Go.Proofs.Ytajdikbammfbjaa
