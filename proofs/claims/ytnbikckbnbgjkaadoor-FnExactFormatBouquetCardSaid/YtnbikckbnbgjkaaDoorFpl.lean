/-
  Fpl
-/
import Derived.Test.YtnbikckbnbgjkaaDoorKeep
import Derived.Test.YtnbikckbnbgjkaaDoorFmi
import Derived.Test.YtnbikckbnbgjkaaDoorEqLib
import Derived.Deep.Cut
namespace Go.Proofs.YtnbikckbnbgjkaaDoor
open Go.RowKit
set_option linter.unusedVariables false
set_option linter.unusedSimpArgs false
def varT (v : Int) : ByteArray := if v = 0 then ⟨#[88]⟩ else if v = 1 then ⟨#[89]⟩ else if v = 2 then ⟨#[90]⟩ else if v = 3 then ⟨#[85]⟩ else ⟨#[]⟩
theorem varT_le (v : Int) : (varT v).size ≤ 1 := by
 unfold varT; repeat' split
 all_goals decide
theorem varT_out {v : Int} (h : inR v 0 3 = false) : varT v = ⟨#[]⟩ := by
 have := inR_f.1 h
 unfold varT
 rw [if_neg (by omega), if_neg (by omega), if_neg (by omega), if_neg (by omega)]
set_option maxRecDepth 100000 in
set_option maxHeartbeats 1600000 in
theorem sVariableName_c (v : Int) (w : World) : Calls Tryd.prog 73 #[.int .i64 v] w fun e w' => e = .returned (.string (varT v)) ∧ w' = w := by
 cases h : inR v 0 3
 ·have HN := Lib.hid (varT_out h)
  have K := Lib.hid (fun W => l1In_v h W); clear h
  go_enter Tryd.func73, Tryd.ntmps73
  go_wp2_with (go_at_call 40; refine (K.out _).mono ?_; rintro e w' ⟨rfl, hww⟩; replace hww := hww.symm; subst hww)
  go_ret
  exact ⟨by rw [HN.out]; rfl, rfl⟩
 ·have h4 : v = 0 ∨ v = 1 ∨ v = 2 ∨ v = 3 := by have := inR_t.1 h; omega
  have K := Lib.hid (fun W => l1In_v h W); clear h
  rcases h4 with rfl | rfl | rfl | rfl
  all_goals
   go_enter Tryd.func73, Tryd.ntmps73
   go_wp2_with (go_at_call 40; refine (K.out _).mono ?_; rintro e w' ⟨rfl, hww⟩; replace hww := hww.symm; subst hww)
   go_ret
   exact ⟨rfl, rfl⟩
set_option maxRecDepth 100000 in
set_option maxHeartbeats 1600000 in
theorem iVariableName_c (v : Int) (w : World) : Calls Tryd.prog 78 #[.int .i64 v] w fun e w' => e = .returned (.string (varT v)) ∧ w' = w := by
 cases h : inR v 0 3
 ·have HN := Lib.hid (varT_out h)
  have K := Lib.hid (fun W => within_v h W); clear h
  go_enter Tryd.func78, Tryd.ntmps78
  go_wp2_with (go_at_call 46; refine (K.out _).mono ?_; rintro e w' ⟨rfl, hww⟩; replace hww := hww.symm; subst hww)
  go_ret
  exact ⟨by rw [HN.out]; rfl, rfl⟩
 ·have h4 : v = 0 ∨ v = 1 ∨ v = 2 ∨ v = 3 := by have := inR_t.1 h; omega
  have K := Lib.hid (fun W => within_v h W); clear h
  rcases h4 with rfl | rfl | rfl | rfl
  all_goals
   go_enter Tryd.func78, Tryd.ntmps78
   go_wp2_with (go_at_call 46; refine (K.out _).mono ?_; rintro e w' ⟨rfl, hww⟩; replace hww := hww.symm; subst hww)
   go_ret
   exact ⟨rfl, rfl⟩
def stepT (x : PlanStepD) : ByteArray :=
 if x.fKind = 1 ∧ inR x.fAtom 0 3 = true ∧ x.fOrder = 0 then fmtI x.fAtom
 else if x.fAtom = 0 ∧ inR x.fOrder 0 3 = true then
  (if x.fKind = 2 then ⟨#[47]⟩ ++ varT x.fOrder else if x.fKind = 4 then ⟨#[77]⟩ ++ varT x.fOrder else if x.fKind = 3 ∧ x.fOrder = 0 then ⟨#[72]⟩ else if x.fKind = 5 ∧ x.fOrder = 0 then ⟨#[78]⟩ else ⟨#[]⟩)
 else ⟨#[]⟩
theorem stepT_le {x : PlanStepD} (h : I64 x.fAtom) : (stepT x).size ≤ 21 := by
 have h1 := fmtI_le h
 have h2 := varT_le x.fOrder
 have e1 : (⟨#[47]⟩ : ByteArray).size = 1 := rfl
 have e2 : (⟨#[77]⟩ : ByteArray).size = 1 := rfl
 have e3 : (⟨#[72]⟩ : ByteArray).size = 1 := rfl
 have e4 : (⟨#[78]⟩ : ByteArray).size = 1 := rfl
 have e5 : (⟨#[]⟩ : ByteArray).size = 0 := rfl
 unfold stepT
 split
 ·exact h1
 ·split
  ·split
   ·rw [ByteArray.size_append]; omega
   ·split
    ·rw [ByteArray.size_append]; omega
    ·split
     ·omega
     ·split <;> omega
  ·omega
set_option maxRecDepth 100000 in
set_option maxHeartbeats 6400000 in
theorem sStep1_c (xa xo : Int) (w : World) (iA : I64 xa) : Calls Tryd.prog 60 #[.agg #[.int .i64 1, .int .i64 xa, .int .i64 xo]] w fun e w' => e = .returned (.string (stepT ⟨1, xa, xo⟩)) ∧ Below w.heap.size w w' := by
 have h00 : inR 0 0 3 = true := rfl
 have ha : xa = 0 ∨ (xa ≠ 0 ∧ inR xa 0 3 = true) ∨ (xa ≠ 0 ∧ inR xa 0 3 = false) := by
  rcases Decidable.em (xa = 0) with h | h
  ·exact .inl h
  ·cases e : inR xa 0 3
   ·exact .inr (.inr ⟨h, rfl⟩)
   ·exact .inr (.inl ⟨h, rfl⟩)
 have ho : xo = 0 ∨ (xo ≠ 0 ∧ inR xo 0 3 = true) ∨ (xo ≠ 0 ∧ inR xo 0 3 = false) := by
  rcases Decidable.em (xo = 0) with h | h
  ·exact .inl h
  ·cases e : inR xo 0 3
   ·exact .inr (.inr ⟨h, rfl⟩)
   ·exact .inr (.inl ⟨h, rfl⟩)
 rcases ha with rfl | ⟨ha0, haR⟩ | ⟨ha0, haR⟩
 ·rcases ho with rfl | ⟨ho0, hoR⟩ | ⟨ho0, hoR⟩
  ·have HN : Hid (stepT ⟨1, 0, 0⟩ = fmtI 0) := by show _ = _; simp [stepT, h00]
   have hB := (Below.refl w.heap.size w).alloc (Nat.le_refl _) (.cells #[.int .i64 1, .int .i64 0, .int .i64 0] 113)
   have bxx := Bx.new w [.int .i64 1, .int .i64 0, .int .i64 0] 113
   have kx_0 := bxx 0 _ rfl
   have kx_1 := bxx 1 _ rfl
   have kx_2 := bxx 2 _ rfl
   have KF : Hid (∀ W, Below w.heap.size w W → Calls Tryd.prog 23 #[.int .i64 0] W fun e w' => e = .returned (.string (fmtI 0)) ∧ Below W.heap.size W w') := by
    show ∀ W, _ → _
    exact fun W hW => sFormatInt_c 0 W iA
   obtain ⟨F1, hF1⟩ : ∃ F, F = fmtI 0 := ⟨_, rfl⟩
   rw [← hF1] at KF
   have HF1 := Lib.hid hF1; clear hF1
   go_enter Tryd.func60, Tryd.ntmps60
   go_wp2_with (first | (go_at_call 40; refine (l1In_c _ _ _ _).mono ?_; rintro e w' ⟨rfl, rfl⟩) | (go_at_call 23; refine (KF.out _ hB).mono ?_; rintro e w2 ⟨rfl, hb2⟩))
   go_ret
   exact ⟨by rw [HN.out, ← HF1.out]; rfl, hB.trans (hb2.mono hB.size)⟩
  ·have HN : Hid (stepT ⟨1, 0, xo⟩ = ⟨#[]⟩) := by show _ = _; simp [stepT, h00, ho0, hoR]
   have qo0 : (xo == 0) = false := by simp [ho0]
   have hB := (Below.refl w.heap.size w).alloc (Nat.le_refl _) (.cells #[.int .i64 1, .int .i64 0, .int .i64 xo] 113)
   have bxx := Bx.new w [.int .i64 1, .int .i64 0, .int .i64 xo] 113
   have kx_0 := bxx 0 _ rfl
   have kx_1 := bxx 1 _ rfl
   have kx_2 := bxx 2 _ rfl
   go_enter Tryd.func60, Tryd.ntmps60
   go_wp2_with (first | (go_at_call 40; refine (l1In_c _ _ _ _).mono ?_; rintro e w' ⟨rfl, rfl⟩))
   go_ret
   exact ⟨by rw [HN.out]; rfl, hB⟩
  ·have HN : Hid (stepT ⟨1, 0, xo⟩ = ⟨#[]⟩) := by show _ = _; simp [stepT, h00, ho0, hoR]
   have qo0 : (xo == 0) = false := by simp [ho0]
   have hB := (Below.refl w.heap.size w).alloc (Nat.le_refl _) (.cells #[.int .i64 1, .int .i64 0, .int .i64 xo] 113)
   have bxx := Bx.new w [.int .i64 1, .int .i64 0, .int .i64 xo] 113
   have kx_0 := bxx 0 _ rfl
   have kx_1 := bxx 1 _ rfl
   have kx_2 := bxx 2 _ rfl
   go_enter Tryd.func60, Tryd.ntmps60
   go_wp2_with (first | (go_at_call 40; refine (l1In_c _ _ _ _).mono ?_; rintro e w' ⟨rfl, rfl⟩))
   go_ret
   exact ⟨by rw [HN.out]; rfl, hB⟩
 ·rcases ho with rfl | ⟨ho0, hoR⟩ | ⟨ho0, hoR⟩
  ·have HN : Hid (stepT ⟨1, xa, 0⟩ = fmtI xa) := by show _ = _; simp [stepT, h00, ha0, haR]
   have qa0 : (xa != 0) = true := by simp [ha0]
   have qa1 : (xa == 0) = false := by simp [ha0]
   have hB := (Below.refl w.heap.size w).alloc (Nat.le_refl _) (.cells #[.int .i64 1, .int .i64 xa, .int .i64 0] 113)
   have bxx := Bx.new w [.int .i64 1, .int .i64 xa, .int .i64 0] 113
   have kx_0 := bxx 0 _ rfl
   have kx_1 := bxx 1 _ rfl
   have kx_2 := bxx 2 _ rfl
   have KF : Hid (∀ W, Below w.heap.size w W → Calls Tryd.prog 23 #[.int .i64 xa] W fun e w' => e = .returned (.string (fmtI xa)) ∧ Below W.heap.size W w') := by
    show ∀ W, _ → _
    exact fun W hW => sFormatInt_c xa W iA
   obtain ⟨F1, hF1⟩ : ∃ F, F = fmtI xa := ⟨_, rfl⟩
   rw [← hF1] at KF
   have HF1 := Lib.hid hF1; clear hF1
   go_enter Tryd.func60, Tryd.ntmps60
   go_wp2_with (first | (go_at_call 40; refine (l1In_c _ _ _ _).mono ?_; rintro e w' ⟨rfl, rfl⟩) | (go_at_call 23; refine (KF.out _ hB).mono ?_; rintro e w2 ⟨rfl, hb2⟩))
   go_ret
   exact ⟨by rw [HN.out, ← HF1.out]; rfl, hB.trans (hb2.mono hB.size)⟩
  ·have HN : Hid (stepT ⟨1, xa, xo⟩ = ⟨#[]⟩) := by show _ = _; simp [stepT, h00, ha0, haR, ho0, hoR]
   have qa0 : (xa != 0) = true := by simp [ha0]
   have qa1 : (xa == 0) = false := by simp [ha0]
   have qo0 : (xo == 0) = false := by simp [ho0]
   have hB := (Below.refl w.heap.size w).alloc (Nat.le_refl _) (.cells #[.int .i64 1, .int .i64 xa, .int .i64 xo] 113)
   have bxx := Bx.new w [.int .i64 1, .int .i64 xa, .int .i64 xo] 113
   have kx_0 := bxx 0 _ rfl
   have kx_1 := bxx 1 _ rfl
   have kx_2 := bxx 2 _ rfl
   go_enter Tryd.func60, Tryd.ntmps60
   go_wp2_with (first | (go_at_call 40; refine (l1In_c _ _ _ _).mono ?_; rintro e w' ⟨rfl, rfl⟩))
   go_ret
   exact ⟨by rw [HN.out]; rfl, hB⟩
  ·have HN : Hid (stepT ⟨1, xa, xo⟩ = ⟨#[]⟩) := by show _ = _; simp [stepT, h00, ha0, haR, ho0, hoR]
   have qa0 : (xa != 0) = true := by simp [ha0]
   have qa1 : (xa == 0) = false := by simp [ha0]
   have qo0 : (xo == 0) = false := by simp [ho0]
   have hB := (Below.refl w.heap.size w).alloc (Nat.le_refl _) (.cells #[.int .i64 1, .int .i64 xa, .int .i64 xo] 113)
   have bxx := Bx.new w [.int .i64 1, .int .i64 xa, .int .i64 xo] 113
   have kx_0 := bxx 0 _ rfl
   have kx_1 := bxx 1 _ rfl
   have kx_2 := bxx 2 _ rfl
   go_enter Tryd.func60, Tryd.ntmps60
   go_wp2_with (first | (go_at_call 40; refine (l1In_c _ _ _ _).mono ?_; rintro e w' ⟨rfl, rfl⟩))
   go_ret
   exact ⟨by rw [HN.out]; rfl, hB⟩
 ·rcases ho with rfl | ⟨ho0, hoR⟩ | ⟨ho0, hoR⟩
  ·have HN : Hid (stepT ⟨1, xa, 0⟩ = ⟨#[]⟩) := by show _ = _; simp [stepT, h00, ha0, haR]
   have qa0 : (xa != 0) = true := by simp [ha0]
   have qa1 : (xa == 0) = false := by simp [ha0]
   have hB := (Below.refl w.heap.size w).alloc (Nat.le_refl _) (.cells #[.int .i64 1, .int .i64 xa, .int .i64 0] 113)
   have bxx := Bx.new w [.int .i64 1, .int .i64 xa, .int .i64 0] 113
   have kx_0 := bxx 0 _ rfl
   have kx_1 := bxx 1 _ rfl
   have kx_2 := bxx 2 _ rfl
   go_enter Tryd.func60, Tryd.ntmps60
   go_wp2_with (first | (go_at_call 40; refine (l1In_c _ _ _ _).mono ?_; rintro e w' ⟨rfl, rfl⟩))
   go_ret
   exact ⟨by rw [HN.out]; rfl, hB⟩
  ·have HN : Hid (stepT ⟨1, xa, xo⟩ = ⟨#[]⟩) := by show _ = _; simp [stepT, h00, ha0, haR, ho0, hoR]
   have qa0 : (xa != 0) = true := by simp [ha0]
   have qa1 : (xa == 0) = false := by simp [ha0]
   have qo0 : (xo == 0) = false := by simp [ho0]
   have hB := (Below.refl w.heap.size w).alloc (Nat.le_refl _) (.cells #[.int .i64 1, .int .i64 xa, .int .i64 xo] 113)
   have bxx := Bx.new w [.int .i64 1, .int .i64 xa, .int .i64 xo] 113
   have kx_0 := bxx 0 _ rfl
   have kx_1 := bxx 1 _ rfl
   have kx_2 := bxx 2 _ rfl
   go_enter Tryd.func60, Tryd.ntmps60
   go_wp2_with (first | (go_at_call 40; refine (l1In_c _ _ _ _).mono ?_; rintro e w' ⟨rfl, rfl⟩))
   go_ret
   exact ⟨by rw [HN.out]; rfl, hB⟩
  ·have HN : Hid (stepT ⟨1, xa, xo⟩ = ⟨#[]⟩) := by show _ = _; simp [stepT, h00, ha0, haR, ho0, hoR]
   have qa0 : (xa != 0) = true := by simp [ha0]
   have qa1 : (xa == 0) = false := by simp [ha0]
   have qo0 : (xo == 0) = false := by simp [ho0]
   have hB := (Below.refl w.heap.size w).alloc (Nat.le_refl _) (.cells #[.int .i64 1, .int .i64 xa, .int .i64 xo] 113)
   have bxx := Bx.new w [.int .i64 1, .int .i64 xa, .int .i64 xo] 113
   have kx_0 := bxx 0 _ rfl
   have kx_1 := bxx 1 _ rfl
   have kx_2 := bxx 2 _ rfl
   go_enter Tryd.func60, Tryd.ntmps60
   go_wp2_with (first | (go_at_call 40; refine (l1In_c _ _ _ _).mono ?_; rintro e w' ⟨rfl, rfl⟩))
   go_ret
   exact ⟨by rw [HN.out]; rfl, hB⟩
set_option maxRecDepth 100000 in
set_option maxHeartbeats 6400000 in
theorem sStep2_c (xa xo : Int) (w : World) (iA : I64 xa) : Calls Tryd.prog 60 #[.agg #[.int .i64 2, .int .i64 xa, .int .i64 xo]] w fun e w' => e = .returned (.string (stepT ⟨2, xa, xo⟩)) ∧ Below w.heap.size w w' := by
 have h00 : inR 0 0 3 = true := rfl
 have ha : xa = 0 ∨ (xa ≠ 0 ∧ inR xa 0 3 = true) ∨ (xa ≠ 0 ∧ inR xa 0 3 = false) := by
  rcases Decidable.em (xa = 0) with h | h
  ·exact .inl h
  ·cases e : inR xa 0 3
   ·exact .inr (.inr ⟨h, rfl⟩)
   ·exact .inr (.inl ⟨h, rfl⟩)
 have ho : xo = 0 ∨ (xo ≠ 0 ∧ inR xo 0 3 = true) ∨ (xo ≠ 0 ∧ inR xo 0 3 = false) := by
  rcases Decidable.em (xo = 0) with h | h
  ·exact .inl h
  ·cases e : inR xo 0 3
   ·exact .inr (.inr ⟨h, rfl⟩)
   ·exact .inr (.inl ⟨h, rfl⟩)
 rcases ha with rfl | ⟨ha0, haR⟩ | ⟨ha0, haR⟩
 ·rcases ho with rfl | ⟨ho0, hoR⟩ | ⟨ho0, hoR⟩
  ·have HN : Hid (stepT ⟨2, 0, 0⟩ = ⟨#[47]⟩ ++ varT 0) := by show _ = _; simp [stepT, h00]
   have hB := (Below.refl w.heap.size w).alloc (Nat.le_refl _) (.cells #[.int .i64 2, .int .i64 0, .int .i64 0] 113)
   have bxx := Bx.new w [.int .i64 2, .int .i64 0, .int .i64 0] 113
   have kx_0 := bxx 0 _ rfl
   have kx_1 := bxx 1 _ rfl
   have kx_2 := bxx 2 _ rfl
   have KV := Lib.hid (fun W => sVariableName_c 0 W)
   have zV := varT_le 0
   obtain ⟨F1, hF1⟩ : ∃ F, F = varT 0 := ⟨_, rfl⟩
   rw [← hF1] at KV zV
   have HF1 := Lib.hid hF1; clear hF1
   have n1 : ¬ 9223372036854775807 < 1 + F1.size := by omega
   go_enter Tryd.func60, Tryd.ntmps60
   go_wp2_with (first | (go_at_call 40; refine (l1In_c _ _ _ _).mono ?_; rintro e w' ⟨rfl, rfl⟩) | (go_at_call 73; refine (KV.out _).mono ?_; rintro e w' ⟨rfl, rfl⟩))
   go_ret
   exact ⟨by rw [HN.out, ← HF1.out]; rfl, hB⟩
  ·have HN : Hid (stepT ⟨2, 0, xo⟩ = ⟨#[47]⟩ ++ varT xo) := by show _ = _; simp [stepT, h00, ho0, hoR]
   have qo0 : (xo == 0) = false := by simp [ho0]
   have hB := (Below.refl w.heap.size w).alloc (Nat.le_refl _) (.cells #[.int .i64 2, .int .i64 0, .int .i64 xo] 113)
   have bxx := Bx.new w [.int .i64 2, .int .i64 0, .int .i64 xo] 113
   have kx_0 := bxx 0 _ rfl
   have kx_1 := bxx 1 _ rfl
   have kx_2 := bxx 2 _ rfl
   have KV := Lib.hid (fun W => sVariableName_c xo W)
   have zV := varT_le xo
   obtain ⟨F1, hF1⟩ : ∃ F, F = varT xo := ⟨_, rfl⟩
   rw [← hF1] at KV zV
   have HF1 := Lib.hid hF1; clear hF1
   have n1 : ¬ 9223372036854775807 < 1 + F1.size := by omega
   go_enter Tryd.func60, Tryd.ntmps60
   go_wp2_with (first | (go_at_call 40; refine (l1In_c _ _ _ _).mono ?_; rintro e w' ⟨rfl, rfl⟩) | (go_at_call 73; refine (KV.out _).mono ?_; rintro e w' ⟨rfl, rfl⟩))
   go_ret
   exact ⟨by rw [HN.out, ← HF1.out]; rfl, hB⟩
  ·have HN : Hid (stepT ⟨2, 0, xo⟩ = ⟨#[]⟩) := by show _ = _; simp [stepT, h00, ho0, hoR]
   have qo0 : (xo == 0) = false := by simp [ho0]
   have hB := (Below.refl w.heap.size w).alloc (Nat.le_refl _) (.cells #[.int .i64 2, .int .i64 0, .int .i64 xo] 113)
   have bxx := Bx.new w [.int .i64 2, .int .i64 0, .int .i64 xo] 113
   have kx_0 := bxx 0 _ rfl
   have kx_1 := bxx 1 _ rfl
   have kx_2 := bxx 2 _ rfl
   go_enter Tryd.func60, Tryd.ntmps60
   go_wp2_with (first | (go_at_call 40; refine (l1In_c _ _ _ _).mono ?_; rintro e w' ⟨rfl, rfl⟩))
   go_ret
   exact ⟨by rw [HN.out]; rfl, hB⟩
 ·rcases ho with rfl | ⟨ho0, hoR⟩ | ⟨ho0, hoR⟩
  ·have HN : Hid (stepT ⟨2, xa, 0⟩ = ⟨#[]⟩) := by show _ = _; simp [stepT, h00, ha0, haR]
   have qa0 : (xa != 0) = true := by simp [ha0]
   have qa1 : (xa == 0) = false := by simp [ha0]
   have hB := (Below.refl w.heap.size w).alloc (Nat.le_refl _) (.cells #[.int .i64 2, .int .i64 xa, .int .i64 0] 113)
   have bxx := Bx.new w [.int .i64 2, .int .i64 xa, .int .i64 0] 113
   have kx_0 := bxx 0 _ rfl
   have kx_1 := bxx 1 _ rfl
   have kx_2 := bxx 2 _ rfl
   go_enter Tryd.func60, Tryd.ntmps60
   go_wp2_with (first | (go_at_call 40; refine (l1In_c _ _ _ _).mono ?_; rintro e w' ⟨rfl, rfl⟩))
   go_ret
   exact ⟨by rw [HN.out]; rfl, hB⟩
  ·have HN : Hid (stepT ⟨2, xa, xo⟩ = ⟨#[]⟩) := by show _ = _; simp [stepT, h00, ha0, haR, ho0, hoR]
   have qa0 : (xa != 0) = true := by simp [ha0]
   have qa1 : (xa == 0) = false := by simp [ha0]
   have qo0 : (xo == 0) = false := by simp [ho0]
   have hB := (Below.refl w.heap.size w).alloc (Nat.le_refl _) (.cells #[.int .i64 2, .int .i64 xa, .int .i64 xo] 113)
   have bxx := Bx.new w [.int .i64 2, .int .i64 xa, .int .i64 xo] 113
   have kx_0 := bxx 0 _ rfl
   have kx_1 := bxx 1 _ rfl
   have kx_2 := bxx 2 _ rfl
   go_enter Tryd.func60, Tryd.ntmps60
   go_wp2_with (first | (go_at_call 40; refine (l1In_c _ _ _ _).mono ?_; rintro e w' ⟨rfl, rfl⟩))
   go_ret
   exact ⟨by rw [HN.out]; rfl, hB⟩
  ·have HN : Hid (stepT ⟨2, xa, xo⟩ = ⟨#[]⟩) := by show _ = _; simp [stepT, h00, ha0, haR, ho0, hoR]
   have qa0 : (xa != 0) = true := by simp [ha0]
   have qa1 : (xa == 0) = false := by simp [ha0]
   have qo0 : (xo == 0) = false := by simp [ho0]
   have hB := (Below.refl w.heap.size w).alloc (Nat.le_refl _) (.cells #[.int .i64 2, .int .i64 xa, .int .i64 xo] 113)
   have bxx := Bx.new w [.int .i64 2, .int .i64 xa, .int .i64 xo] 113
   have kx_0 := bxx 0 _ rfl
   have kx_1 := bxx 1 _ rfl
   have kx_2 := bxx 2 _ rfl
   go_enter Tryd.func60, Tryd.ntmps60
   go_wp2_with (first | (go_at_call 40; refine (l1In_c _ _ _ _).mono ?_; rintro e w' ⟨rfl, rfl⟩))
   go_ret
   exact ⟨by rw [HN.out]; rfl, hB⟩
 ·rcases ho with rfl | ⟨ho0, hoR⟩ | ⟨ho0, hoR⟩
  ·have HN : Hid (stepT ⟨2, xa, 0⟩ = ⟨#[]⟩) := by show _ = _; simp [stepT, h00, ha0, haR]
   have qa0 : (xa != 0) = true := by simp [ha0]
   have qa1 : (xa == 0) = false := by simp [ha0]
   have hB := (Below.refl w.heap.size w).alloc (Nat.le_refl _) (.cells #[.int .i64 2, .int .i64 xa, .int .i64 0] 113)
   have bxx := Bx.new w [.int .i64 2, .int .i64 xa, .int .i64 0] 113
   have kx_0 := bxx 0 _ rfl
   have kx_1 := bxx 1 _ rfl
   have kx_2 := bxx 2 _ rfl
   go_enter Tryd.func60, Tryd.ntmps60
   go_wp2_with (first | (go_at_call 40; refine (l1In_c _ _ _ _).mono ?_; rintro e w' ⟨rfl, rfl⟩))
   go_ret
   exact ⟨by rw [HN.out]; rfl, hB⟩
  ·have HN : Hid (stepT ⟨2, xa, xo⟩ = ⟨#[]⟩) := by show _ = _; simp [stepT, h00, ha0, haR, ho0, hoR]
   have qa0 : (xa != 0) = true := by simp [ha0]
   have qa1 : (xa == 0) = false := by simp [ha0]
   have qo0 : (xo == 0) = false := by simp [ho0]
   have hB := (Below.refl w.heap.size w).alloc (Nat.le_refl _) (.cells #[.int .i64 2, .int .i64 xa, .int .i64 xo] 113)
   have bxx := Bx.new w [.int .i64 2, .int .i64 xa, .int .i64 xo] 113
   have kx_0 := bxx 0 _ rfl
   have kx_1 := bxx 1 _ rfl
   have kx_2 := bxx 2 _ rfl
   go_enter Tryd.func60, Tryd.ntmps60
   go_wp2_with (first | (go_at_call 40; refine (l1In_c _ _ _ _).mono ?_; rintro e w' ⟨rfl, rfl⟩))
   go_ret
   exact ⟨by rw [HN.out]; rfl, hB⟩
  ·have HN : Hid (stepT ⟨2, xa, xo⟩ = ⟨#[]⟩) := by show _ = _; simp [stepT, h00, ha0, haR, ho0, hoR]
   have qa0 : (xa != 0) = true := by simp [ha0]
   have qa1 : (xa == 0) = false := by simp [ha0]
   have qo0 : (xo == 0) = false := by simp [ho0]
   have hB := (Below.refl w.heap.size w).alloc (Nat.le_refl _) (.cells #[.int .i64 2, .int .i64 xa, .int .i64 xo] 113)
   have bxx := Bx.new w [.int .i64 2, .int .i64 xa, .int .i64 xo] 113
   have kx_0 := bxx 0 _ rfl
   have kx_1 := bxx 1 _ rfl
   have kx_2 := bxx 2 _ rfl
   go_enter Tryd.func60, Tryd.ntmps60
   go_wp2_with (first | (go_at_call 40; refine (l1In_c _ _ _ _).mono ?_; rintro e w' ⟨rfl, rfl⟩))
   go_ret
   exact ⟨by rw [HN.out]; rfl, hB⟩
set_option maxRecDepth 100000 in
set_option maxHeartbeats 6400000 in
theorem sStep3_c (xa xo : Int) (w : World) (iA : I64 xa) : Calls Tryd.prog 60 #[.agg #[.int .i64 3, .int .i64 xa, .int .i64 xo]] w fun e w' => e = .returned (.string (stepT ⟨3, xa, xo⟩)) ∧ Below w.heap.size w w' := by
 have h00 : inR 0 0 3 = true := rfl
 have ha : xa = 0 ∨ (xa ≠ 0 ∧ inR xa 0 3 = true) ∨ (xa ≠ 0 ∧ inR xa 0 3 = false) := by
  rcases Decidable.em (xa = 0) with h | h
  ·exact .inl h
  ·cases e : inR xa 0 3
   ·exact .inr (.inr ⟨h, rfl⟩)
   ·exact .inr (.inl ⟨h, rfl⟩)
 have ho : xo = 0 ∨ (xo ≠ 0 ∧ inR xo 0 3 = true) ∨ (xo ≠ 0 ∧ inR xo 0 3 = false) := by
  rcases Decidable.em (xo = 0) with h | h
  ·exact .inl h
  ·cases e : inR xo 0 3
   ·exact .inr (.inr ⟨h, rfl⟩)
   ·exact .inr (.inl ⟨h, rfl⟩)
 rcases ha with rfl | ⟨ha0, haR⟩ | ⟨ha0, haR⟩
 ·rcases ho with rfl | ⟨ho0, hoR⟩ | ⟨ho0, hoR⟩
  ·have HN : Hid (stepT ⟨3, 0, 0⟩ = ⟨#[72]⟩) := by show _ = _; simp [stepT, h00]
   have hB := (Below.refl w.heap.size w).alloc (Nat.le_refl _) (.cells #[.int .i64 3, .int .i64 0, .int .i64 0] 113)
   have bxx := Bx.new w [.int .i64 3, .int .i64 0, .int .i64 0] 113
   have kx_0 := bxx 0 _ rfl
   have kx_1 := bxx 1 _ rfl
   have kx_2 := bxx 2 _ rfl
   go_enter Tryd.func60, Tryd.ntmps60
   go_wp2_with (first | (go_at_call 40; refine (l1In_c _ _ _ _).mono ?_; rintro e w' ⟨rfl, rfl⟩))
   go_ret
   exact ⟨by rw [HN.out]; rfl, hB⟩
  ·have HN : Hid (stepT ⟨3, 0, xo⟩ = ⟨#[]⟩) := by show _ = _; simp [stepT, h00, ho0, hoR]
   have qo0 : (xo == 0) = false := by simp [ho0]
   have hB := (Below.refl w.heap.size w).alloc (Nat.le_refl _) (.cells #[.int .i64 3, .int .i64 0, .int .i64 xo] 113)
   have bxx := Bx.new w [.int .i64 3, .int .i64 0, .int .i64 xo] 113
   have kx_0 := bxx 0 _ rfl
   have kx_1 := bxx 1 _ rfl
   have kx_2 := bxx 2 _ rfl
   go_enter Tryd.func60, Tryd.ntmps60
   go_wp2_with (first | (go_at_call 40; refine (l1In_c _ _ _ _).mono ?_; rintro e w' ⟨rfl, rfl⟩))
   go_ret
   exact ⟨by rw [HN.out]; rfl, hB⟩
  ·have HN : Hid (stepT ⟨3, 0, xo⟩ = ⟨#[]⟩) := by show _ = _; simp [stepT, h00, ho0, hoR]
   have qo0 : (xo == 0) = false := by simp [ho0]
   have hB := (Below.refl w.heap.size w).alloc (Nat.le_refl _) (.cells #[.int .i64 3, .int .i64 0, .int .i64 xo] 113)
   have bxx := Bx.new w [.int .i64 3, .int .i64 0, .int .i64 xo] 113
   have kx_0 := bxx 0 _ rfl
   have kx_1 := bxx 1 _ rfl
   have kx_2 := bxx 2 _ rfl
   go_enter Tryd.func60, Tryd.ntmps60
   go_wp2_with (first | (go_at_call 40; refine (l1In_c _ _ _ _).mono ?_; rintro e w' ⟨rfl, rfl⟩))
   go_ret
   exact ⟨by rw [HN.out]; rfl, hB⟩
 ·rcases ho with rfl | ⟨ho0, hoR⟩ | ⟨ho0, hoR⟩
  ·have HN : Hid (stepT ⟨3, xa, 0⟩ = ⟨#[]⟩) := by show _ = _; simp [stepT, h00, ha0, haR]
   have qa0 : (xa != 0) = true := by simp [ha0]
   have qa1 : (xa == 0) = false := by simp [ha0]
   have hB := (Below.refl w.heap.size w).alloc (Nat.le_refl _) (.cells #[.int .i64 3, .int .i64 xa, .int .i64 0] 113)
   have bxx := Bx.new w [.int .i64 3, .int .i64 xa, .int .i64 0] 113
   have kx_0 := bxx 0 _ rfl
   have kx_1 := bxx 1 _ rfl
   have kx_2 := bxx 2 _ rfl
   go_enter Tryd.func60, Tryd.ntmps60
   go_wp2_with (first | (go_at_call 40; refine (l1In_c _ _ _ _).mono ?_; rintro e w' ⟨rfl, rfl⟩))
   go_ret
   exact ⟨by rw [HN.out]; rfl, hB⟩
  ·have HN : Hid (stepT ⟨3, xa, xo⟩ = ⟨#[]⟩) := by show _ = _; simp [stepT, h00, ha0, haR, ho0, hoR]
   have qa0 : (xa != 0) = true := by simp [ha0]
   have qa1 : (xa == 0) = false := by simp [ha0]
   have qo0 : (xo == 0) = false := by simp [ho0]
   have hB := (Below.refl w.heap.size w).alloc (Nat.le_refl _) (.cells #[.int .i64 3, .int .i64 xa, .int .i64 xo] 113)
   have bxx := Bx.new w [.int .i64 3, .int .i64 xa, .int .i64 xo] 113
   have kx_0 := bxx 0 _ rfl
   have kx_1 := bxx 1 _ rfl
   have kx_2 := bxx 2 _ rfl
   go_enter Tryd.func60, Tryd.ntmps60
   go_wp2_with (first | (go_at_call 40; refine (l1In_c _ _ _ _).mono ?_; rintro e w' ⟨rfl, rfl⟩))
   go_ret
   exact ⟨by rw [HN.out]; rfl, hB⟩
  ·have HN : Hid (stepT ⟨3, xa, xo⟩ = ⟨#[]⟩) := by show _ = _; simp [stepT, h00, ha0, haR, ho0, hoR]
   have qa0 : (xa != 0) = true := by simp [ha0]
   have qa1 : (xa == 0) = false := by simp [ha0]
   have qo0 : (xo == 0) = false := by simp [ho0]
   have hB := (Below.refl w.heap.size w).alloc (Nat.le_refl _) (.cells #[.int .i64 3, .int .i64 xa, .int .i64 xo] 113)
   have bxx := Bx.new w [.int .i64 3, .int .i64 xa, .int .i64 xo] 113
   have kx_0 := bxx 0 _ rfl
   have kx_1 := bxx 1 _ rfl
   have kx_2 := bxx 2 _ rfl
   go_enter Tryd.func60, Tryd.ntmps60
   go_wp2_with (first | (go_at_call 40; refine (l1In_c _ _ _ _).mono ?_; rintro e w' ⟨rfl, rfl⟩))
   go_ret
   exact ⟨by rw [HN.out]; rfl, hB⟩
 ·rcases ho with rfl | ⟨ho0, hoR⟩ | ⟨ho0, hoR⟩
  ·have HN : Hid (stepT ⟨3, xa, 0⟩ = ⟨#[]⟩) := by show _ = _; simp [stepT, h00, ha0, haR]
   have qa0 : (xa != 0) = true := by simp [ha0]
   have qa1 : (xa == 0) = false := by simp [ha0]
   have hB := (Below.refl w.heap.size w).alloc (Nat.le_refl _) (.cells #[.int .i64 3, .int .i64 xa, .int .i64 0] 113)
   have bxx := Bx.new w [.int .i64 3, .int .i64 xa, .int .i64 0] 113
   have kx_0 := bxx 0 _ rfl
   have kx_1 := bxx 1 _ rfl
   have kx_2 := bxx 2 _ rfl
   go_enter Tryd.func60, Tryd.ntmps60
   go_wp2_with (first | (go_at_call 40; refine (l1In_c _ _ _ _).mono ?_; rintro e w' ⟨rfl, rfl⟩))
   go_ret
   exact ⟨by rw [HN.out]; rfl, hB⟩
  ·have HN : Hid (stepT ⟨3, xa, xo⟩ = ⟨#[]⟩) := by show _ = _; simp [stepT, h00, ha0, haR, ho0, hoR]
   have qa0 : (xa != 0) = true := by simp [ha0]
   have qa1 : (xa == 0) = false := by simp [ha0]
   have qo0 : (xo == 0) = false := by simp [ho0]
   have hB := (Below.refl w.heap.size w).alloc (Nat.le_refl _) (.cells #[.int .i64 3, .int .i64 xa, .int .i64 xo] 113)
   have bxx := Bx.new w [.int .i64 3, .int .i64 xa, .int .i64 xo] 113
   have kx_0 := bxx 0 _ rfl
   have kx_1 := bxx 1 _ rfl
   have kx_2 := bxx 2 _ rfl
   go_enter Tryd.func60, Tryd.ntmps60
   go_wp2_with (first | (go_at_call 40; refine (l1In_c _ _ _ _).mono ?_; rintro e w' ⟨rfl, rfl⟩))
   go_ret
   exact ⟨by rw [HN.out]; rfl, hB⟩
  ·have HN : Hid (stepT ⟨3, xa, xo⟩ = ⟨#[]⟩) := by show _ = _; simp [stepT, h00, ha0, haR, ho0, hoR]
   have qa0 : (xa != 0) = true := by simp [ha0]
   have qa1 : (xa == 0) = false := by simp [ha0]
   have qo0 : (xo == 0) = false := by simp [ho0]
   have hB := (Below.refl w.heap.size w).alloc (Nat.le_refl _) (.cells #[.int .i64 3, .int .i64 xa, .int .i64 xo] 113)
   have bxx := Bx.new w [.int .i64 3, .int .i64 xa, .int .i64 xo] 113
   have kx_0 := bxx 0 _ rfl
   have kx_1 := bxx 1 _ rfl
   have kx_2 := bxx 2 _ rfl
   go_enter Tryd.func60, Tryd.ntmps60
   go_wp2_with (first | (go_at_call 40; refine (l1In_c _ _ _ _).mono ?_; rintro e w' ⟨rfl, rfl⟩))
   go_ret
   exact ⟨by rw [HN.out]; rfl, hB⟩
set_option maxRecDepth 100000 in
set_option maxHeartbeats 6400000 in
theorem sStep4_c (xa xo : Int) (w : World) (iA : I64 xa) : Calls Tryd.prog 60 #[.agg #[.int .i64 4, .int .i64 xa, .int .i64 xo]] w fun e w' => e = .returned (.string (stepT ⟨4, xa, xo⟩)) ∧ Below w.heap.size w w' := by
 have h00 : inR 0 0 3 = true := rfl
 have ha : xa = 0 ∨ (xa ≠ 0 ∧ inR xa 0 3 = true) ∨ (xa ≠ 0 ∧ inR xa 0 3 = false) := by
  rcases Decidable.em (xa = 0) with h | h
  ·exact .inl h
  ·cases e : inR xa 0 3
   ·exact .inr (.inr ⟨h, rfl⟩)
   ·exact .inr (.inl ⟨h, rfl⟩)
 have ho : xo = 0 ∨ (xo ≠ 0 ∧ inR xo 0 3 = true) ∨ (xo ≠ 0 ∧ inR xo 0 3 = false) := by
  rcases Decidable.em (xo = 0) with h | h
  ·exact .inl h
  ·cases e : inR xo 0 3
   ·exact .inr (.inr ⟨h, rfl⟩)
   ·exact .inr (.inl ⟨h, rfl⟩)
 rcases ha with rfl | ⟨ha0, haR⟩ | ⟨ha0, haR⟩
 ·rcases ho with rfl | ⟨ho0, hoR⟩ | ⟨ho0, hoR⟩
  ·have HN : Hid (stepT ⟨4, 0, 0⟩ = ⟨#[77]⟩ ++ varT 0) := by show _ = _; simp [stepT, h00]
   have hB := (Below.refl w.heap.size w).alloc (Nat.le_refl _) (.cells #[.int .i64 4, .int .i64 0, .int .i64 0] 113)
   have bxx := Bx.new w [.int .i64 4, .int .i64 0, .int .i64 0] 113
   have kx_0 := bxx 0 _ rfl
   have kx_1 := bxx 1 _ rfl
   have kx_2 := bxx 2 _ rfl
   have KV := Lib.hid (fun W => sVariableName_c 0 W)
   have zV := varT_le 0
   obtain ⟨F1, hF1⟩ : ∃ F, F = varT 0 := ⟨_, rfl⟩
   rw [← hF1] at KV zV
   have HF1 := Lib.hid hF1; clear hF1
   have n1 : ¬ 9223372036854775807 < 1 + F1.size := by omega
   go_enter Tryd.func60, Tryd.ntmps60
   go_wp2_with (first | (go_at_call 40; refine (l1In_c _ _ _ _).mono ?_; rintro e w' ⟨rfl, rfl⟩) | (go_at_call 73; refine (KV.out _).mono ?_; rintro e w' ⟨rfl, rfl⟩))
   go_ret
   exact ⟨by rw [HN.out, ← HF1.out]; rfl, hB⟩
  ·have HN : Hid (stepT ⟨4, 0, xo⟩ = ⟨#[77]⟩ ++ varT xo) := by show _ = _; simp [stepT, h00, ho0, hoR]
   have qo0 : (xo == 0) = false := by simp [ho0]
   have hB := (Below.refl w.heap.size w).alloc (Nat.le_refl _) (.cells #[.int .i64 4, .int .i64 0, .int .i64 xo] 113)
   have bxx := Bx.new w [.int .i64 4, .int .i64 0, .int .i64 xo] 113
   have kx_0 := bxx 0 _ rfl
   have kx_1 := bxx 1 _ rfl
   have kx_2 := bxx 2 _ rfl
   have KV := Lib.hid (fun W => sVariableName_c xo W)
   have zV := varT_le xo
   obtain ⟨F1, hF1⟩ : ∃ F, F = varT xo := ⟨_, rfl⟩
   rw [← hF1] at KV zV
   have HF1 := Lib.hid hF1; clear hF1
   have n1 : ¬ 9223372036854775807 < 1 + F1.size := by omega
   go_enter Tryd.func60, Tryd.ntmps60
   go_wp2_with (first | (go_at_call 40; refine (l1In_c _ _ _ _).mono ?_; rintro e w' ⟨rfl, rfl⟩) | (go_at_call 73; refine (KV.out _).mono ?_; rintro e w' ⟨rfl, rfl⟩))
   go_ret
   exact ⟨by rw [HN.out, ← HF1.out]; rfl, hB⟩
  ·have HN : Hid (stepT ⟨4, 0, xo⟩ = ⟨#[]⟩) := by show _ = _; simp [stepT, h00, ho0, hoR]
   have qo0 : (xo == 0) = false := by simp [ho0]
   have hB := (Below.refl w.heap.size w).alloc (Nat.le_refl _) (.cells #[.int .i64 4, .int .i64 0, .int .i64 xo] 113)
   have bxx := Bx.new w [.int .i64 4, .int .i64 0, .int .i64 xo] 113
   have kx_0 := bxx 0 _ rfl
   have kx_1 := bxx 1 _ rfl
   have kx_2 := bxx 2 _ rfl
   go_enter Tryd.func60, Tryd.ntmps60
   go_wp2_with (first | (go_at_call 40; refine (l1In_c _ _ _ _).mono ?_; rintro e w' ⟨rfl, rfl⟩))
   go_ret
   exact ⟨by rw [HN.out]; rfl, hB⟩
 ·rcases ho with rfl | ⟨ho0, hoR⟩ | ⟨ho0, hoR⟩
  ·have HN : Hid (stepT ⟨4, xa, 0⟩ = ⟨#[]⟩) := by show _ = _; simp [stepT, h00, ha0, haR]
   have qa0 : (xa != 0) = true := by simp [ha0]
   have qa1 : (xa == 0) = false := by simp [ha0]
   have hB := (Below.refl w.heap.size w).alloc (Nat.le_refl _) (.cells #[.int .i64 4, .int .i64 xa, .int .i64 0] 113)
   have bxx := Bx.new w [.int .i64 4, .int .i64 xa, .int .i64 0] 113
   have kx_0 := bxx 0 _ rfl
   have kx_1 := bxx 1 _ rfl
   have kx_2 := bxx 2 _ rfl
   go_enter Tryd.func60, Tryd.ntmps60
   go_wp2_with (first | (go_at_call 40; refine (l1In_c _ _ _ _).mono ?_; rintro e w' ⟨rfl, rfl⟩))
   go_ret
   exact ⟨by rw [HN.out]; rfl, hB⟩
  ·have HN : Hid (stepT ⟨4, xa, xo⟩ = ⟨#[]⟩) := by show _ = _; simp [stepT, h00, ha0, haR, ho0, hoR]
   have qa0 : (xa != 0) = true := by simp [ha0]
   have qa1 : (xa == 0) = false := by simp [ha0]
   have qo0 : (xo == 0) = false := by simp [ho0]
   have hB := (Below.refl w.heap.size w).alloc (Nat.le_refl _) (.cells #[.int .i64 4, .int .i64 xa, .int .i64 xo] 113)
   have bxx := Bx.new w [.int .i64 4, .int .i64 xa, .int .i64 xo] 113
   have kx_0 := bxx 0 _ rfl
   have kx_1 := bxx 1 _ rfl
   have kx_2 := bxx 2 _ rfl
   go_enter Tryd.func60, Tryd.ntmps60
   go_wp2_with (first | (go_at_call 40; refine (l1In_c _ _ _ _).mono ?_; rintro e w' ⟨rfl, rfl⟩))
   go_ret
   exact ⟨by rw [HN.out]; rfl, hB⟩
  ·have HN : Hid (stepT ⟨4, xa, xo⟩ = ⟨#[]⟩) := by show _ = _; simp [stepT, h00, ha0, haR, ho0, hoR]
   have qa0 : (xa != 0) = true := by simp [ha0]
   have qa1 : (xa == 0) = false := by simp [ha0]
   have qo0 : (xo == 0) = false := by simp [ho0]
   have hB := (Below.refl w.heap.size w).alloc (Nat.le_refl _) (.cells #[.int .i64 4, .int .i64 xa, .int .i64 xo] 113)
   have bxx := Bx.new w [.int .i64 4, .int .i64 xa, .int .i64 xo] 113
   have kx_0 := bxx 0 _ rfl
   have kx_1 := bxx 1 _ rfl
   have kx_2 := bxx 2 _ rfl
   go_enter Tryd.func60, Tryd.ntmps60
   go_wp2_with (first | (go_at_call 40; refine (l1In_c _ _ _ _).mono ?_; rintro e w' ⟨rfl, rfl⟩))
   go_ret
   exact ⟨by rw [HN.out]; rfl, hB⟩
 ·rcases ho with rfl | ⟨ho0, hoR⟩ | ⟨ho0, hoR⟩
  ·have HN : Hid (stepT ⟨4, xa, 0⟩ = ⟨#[]⟩) := by show _ = _; simp [stepT, h00, ha0, haR]
   have qa0 : (xa != 0) = true := by simp [ha0]
   have qa1 : (xa == 0) = false := by simp [ha0]
   have hB := (Below.refl w.heap.size w).alloc (Nat.le_refl _) (.cells #[.int .i64 4, .int .i64 xa, .int .i64 0] 113)
   have bxx := Bx.new w [.int .i64 4, .int .i64 xa, .int .i64 0] 113
   have kx_0 := bxx 0 _ rfl
   have kx_1 := bxx 1 _ rfl
   have kx_2 := bxx 2 _ rfl
   go_enter Tryd.func60, Tryd.ntmps60
   go_wp2_with (first | (go_at_call 40; refine (l1In_c _ _ _ _).mono ?_; rintro e w' ⟨rfl, rfl⟩))
   go_ret
   exact ⟨by rw [HN.out]; rfl, hB⟩
  ·have HN : Hid (stepT ⟨4, xa, xo⟩ = ⟨#[]⟩) := by show _ = _; simp [stepT, h00, ha0, haR, ho0, hoR]
   have qa0 : (xa != 0) = true := by simp [ha0]
   have qa1 : (xa == 0) = false := by simp [ha0]
   have qo0 : (xo == 0) = false := by simp [ho0]
   have hB := (Below.refl w.heap.size w).alloc (Nat.le_refl _) (.cells #[.int .i64 4, .int .i64 xa, .int .i64 xo] 113)
   have bxx := Bx.new w [.int .i64 4, .int .i64 xa, .int .i64 xo] 113
   have kx_0 := bxx 0 _ rfl
   have kx_1 := bxx 1 _ rfl
   have kx_2 := bxx 2 _ rfl
   go_enter Tryd.func60, Tryd.ntmps60
   go_wp2_with (first | (go_at_call 40; refine (l1In_c _ _ _ _).mono ?_; rintro e w' ⟨rfl, rfl⟩))
   go_ret
   exact ⟨by rw [HN.out]; rfl, hB⟩
  ·have HN : Hid (stepT ⟨4, xa, xo⟩ = ⟨#[]⟩) := by show _ = _; simp [stepT, h00, ha0, haR, ho0, hoR]
   have qa0 : (xa != 0) = true := by simp [ha0]
   have qa1 : (xa == 0) = false := by simp [ha0]
   have qo0 : (xo == 0) = false := by simp [ho0]
   have hB := (Below.refl w.heap.size w).alloc (Nat.le_refl _) (.cells #[.int .i64 4, .int .i64 xa, .int .i64 xo] 113)
   have bxx := Bx.new w [.int .i64 4, .int .i64 xa, .int .i64 xo] 113
   have kx_0 := bxx 0 _ rfl
   have kx_1 := bxx 1 _ rfl
   have kx_2 := bxx 2 _ rfl
   go_enter Tryd.func60, Tryd.ntmps60
   go_wp2_with (first | (go_at_call 40; refine (l1In_c _ _ _ _).mono ?_; rintro e w' ⟨rfl, rfl⟩))
   go_ret
   exact ⟨by rw [HN.out]; rfl, hB⟩
set_option maxRecDepth 100000 in
set_option maxHeartbeats 6400000 in
theorem sStep5_c (xa xo : Int) (w : World) (iA : I64 xa) : Calls Tryd.prog 60 #[.agg #[.int .i64 5, .int .i64 xa, .int .i64 xo]] w fun e w' => e = .returned (.string (stepT ⟨5, xa, xo⟩)) ∧ Below w.heap.size w w' := by
 have h00 : inR 0 0 3 = true := rfl
 have ha : xa = 0 ∨ (xa ≠ 0 ∧ inR xa 0 3 = true) ∨ (xa ≠ 0 ∧ inR xa 0 3 = false) := by
  rcases Decidable.em (xa = 0) with h | h
  ·exact .inl h
  ·cases e : inR xa 0 3
   ·exact .inr (.inr ⟨h, rfl⟩)
   ·exact .inr (.inl ⟨h, rfl⟩)
 have ho : xo = 0 ∨ (xo ≠ 0 ∧ inR xo 0 3 = true) ∨ (xo ≠ 0 ∧ inR xo 0 3 = false) := by
  rcases Decidable.em (xo = 0) with h | h
  ·exact .inl h
  ·cases e : inR xo 0 3
   ·exact .inr (.inr ⟨h, rfl⟩)
   ·exact .inr (.inl ⟨h, rfl⟩)
 rcases ha with rfl | ⟨ha0, haR⟩ | ⟨ha0, haR⟩
 ·rcases ho with rfl | ⟨ho0, hoR⟩ | ⟨ho0, hoR⟩
  ·have HN : Hid (stepT ⟨5, 0, 0⟩ = ⟨#[78]⟩) := by show _ = _; simp [stepT, h00]
   have hB := (Below.refl w.heap.size w).alloc (Nat.le_refl _) (.cells #[.int .i64 5, .int .i64 0, .int .i64 0] 113)
   have bxx := Bx.new w [.int .i64 5, .int .i64 0, .int .i64 0] 113
   have kx_0 := bxx 0 _ rfl
   have kx_1 := bxx 1 _ rfl
   have kx_2 := bxx 2 _ rfl
   go_enter Tryd.func60, Tryd.ntmps60
   go_wp2_with (first | (go_at_call 40; refine (l1In_c _ _ _ _).mono ?_; rintro e w' ⟨rfl, rfl⟩))
   go_ret
   exact ⟨by rw [HN.out]; rfl, hB⟩
  ·have HN : Hid (stepT ⟨5, 0, xo⟩ = ⟨#[]⟩) := by show _ = _; simp [stepT, h00, ho0, hoR]
   have qo0 : (xo == 0) = false := by simp [ho0]
   have hB := (Below.refl w.heap.size w).alloc (Nat.le_refl _) (.cells #[.int .i64 5, .int .i64 0, .int .i64 xo] 113)
   have bxx := Bx.new w [.int .i64 5, .int .i64 0, .int .i64 xo] 113
   have kx_0 := bxx 0 _ rfl
   have kx_1 := bxx 1 _ rfl
   have kx_2 := bxx 2 _ rfl
   go_enter Tryd.func60, Tryd.ntmps60
   go_wp2_with (first | (go_at_call 40; refine (l1In_c _ _ _ _).mono ?_; rintro e w' ⟨rfl, rfl⟩))
   go_ret
   exact ⟨by rw [HN.out]; rfl, hB⟩
  ·have HN : Hid (stepT ⟨5, 0, xo⟩ = ⟨#[]⟩) := by show _ = _; simp [stepT, h00, ho0, hoR]
   have qo0 : (xo == 0) = false := by simp [ho0]
   have hB := (Below.refl w.heap.size w).alloc (Nat.le_refl _) (.cells #[.int .i64 5, .int .i64 0, .int .i64 xo] 113)
   have bxx := Bx.new w [.int .i64 5, .int .i64 0, .int .i64 xo] 113
   have kx_0 := bxx 0 _ rfl
   have kx_1 := bxx 1 _ rfl
   have kx_2 := bxx 2 _ rfl
   go_enter Tryd.func60, Tryd.ntmps60
   go_wp2_with (first | (go_at_call 40; refine (l1In_c _ _ _ _).mono ?_; rintro e w' ⟨rfl, rfl⟩))
   go_ret
   exact ⟨by rw [HN.out]; rfl, hB⟩
 ·rcases ho with rfl | ⟨ho0, hoR⟩ | ⟨ho0, hoR⟩
  ·have HN : Hid (stepT ⟨5, xa, 0⟩ = ⟨#[]⟩) := by show _ = _; simp [stepT, h00, ha0, haR]
   have qa0 : (xa != 0) = true := by simp [ha0]
   have qa1 : (xa == 0) = false := by simp [ha0]
   have hB := (Below.refl w.heap.size w).alloc (Nat.le_refl _) (.cells #[.int .i64 5, .int .i64 xa, .int .i64 0] 113)
   have bxx := Bx.new w [.int .i64 5, .int .i64 xa, .int .i64 0] 113
   have kx_0 := bxx 0 _ rfl
   have kx_1 := bxx 1 _ rfl
   have kx_2 := bxx 2 _ rfl
   go_enter Tryd.func60, Tryd.ntmps60
   go_wp2_with (first | (go_at_call 40; refine (l1In_c _ _ _ _).mono ?_; rintro e w' ⟨rfl, rfl⟩))
   go_ret
   exact ⟨by rw [HN.out]; rfl, hB⟩
  ·have HN : Hid (stepT ⟨5, xa, xo⟩ = ⟨#[]⟩) := by show _ = _; simp [stepT, h00, ha0, haR, ho0, hoR]
   have qa0 : (xa != 0) = true := by simp [ha0]
   have qa1 : (xa == 0) = false := by simp [ha0]
   have qo0 : (xo == 0) = false := by simp [ho0]
   have hB := (Below.refl w.heap.size w).alloc (Nat.le_refl _) (.cells #[.int .i64 5, .int .i64 xa, .int .i64 xo] 113)
   have bxx := Bx.new w [.int .i64 5, .int .i64 xa, .int .i64 xo] 113
   have kx_0 := bxx 0 _ rfl
   have kx_1 := bxx 1 _ rfl
   have kx_2 := bxx 2 _ rfl
   go_enter Tryd.func60, Tryd.ntmps60
   go_wp2_with (first | (go_at_call 40; refine (l1In_c _ _ _ _).mono ?_; rintro e w' ⟨rfl, rfl⟩))
   go_ret
   exact ⟨by rw [HN.out]; rfl, hB⟩
  ·have HN : Hid (stepT ⟨5, xa, xo⟩ = ⟨#[]⟩) := by show _ = _; simp [stepT, h00, ha0, haR, ho0, hoR]
   have qa0 : (xa != 0) = true := by simp [ha0]
   have qa1 : (xa == 0) = false := by simp [ha0]
   have qo0 : (xo == 0) = false := by simp [ho0]
   have hB := (Below.refl w.heap.size w).alloc (Nat.le_refl _) (.cells #[.int .i64 5, .int .i64 xa, .int .i64 xo] 113)
   have bxx := Bx.new w [.int .i64 5, .int .i64 xa, .int .i64 xo] 113
   have kx_0 := bxx 0 _ rfl
   have kx_1 := bxx 1 _ rfl
   have kx_2 := bxx 2 _ rfl
   go_enter Tryd.func60, Tryd.ntmps60
   go_wp2_with (first | (go_at_call 40; refine (l1In_c _ _ _ _).mono ?_; rintro e w' ⟨rfl, rfl⟩))
   go_ret
   exact ⟨by rw [HN.out]; rfl, hB⟩
 ·rcases ho with rfl | ⟨ho0, hoR⟩ | ⟨ho0, hoR⟩
  ·have HN : Hid (stepT ⟨5, xa, 0⟩ = ⟨#[]⟩) := by show _ = _; simp [stepT, h00, ha0, haR]
   have qa0 : (xa != 0) = true := by simp [ha0]
   have qa1 : (xa == 0) = false := by simp [ha0]
   have hB := (Below.refl w.heap.size w).alloc (Nat.le_refl _) (.cells #[.int .i64 5, .int .i64 xa, .int .i64 0] 113)
   have bxx := Bx.new w [.int .i64 5, .int .i64 xa, .int .i64 0] 113
   have kx_0 := bxx 0 _ rfl
   have kx_1 := bxx 1 _ rfl
   have kx_2 := bxx 2 _ rfl
   go_enter Tryd.func60, Tryd.ntmps60
   go_wp2_with (first | (go_at_call 40; refine (l1In_c _ _ _ _).mono ?_; rintro e w' ⟨rfl, rfl⟩))
   go_ret
   exact ⟨by rw [HN.out]; rfl, hB⟩
  ·have HN : Hid (stepT ⟨5, xa, xo⟩ = ⟨#[]⟩) := by show _ = _; simp [stepT, h00, ha0, haR, ho0, hoR]
   have qa0 : (xa != 0) = true := by simp [ha0]
   have qa1 : (xa == 0) = false := by simp [ha0]
   have qo0 : (xo == 0) = false := by simp [ho0]
   have hB := (Below.refl w.heap.size w).alloc (Nat.le_refl _) (.cells #[.int .i64 5, .int .i64 xa, .int .i64 xo] 113)
   have bxx := Bx.new w [.int .i64 5, .int .i64 xa, .int .i64 xo] 113
   have kx_0 := bxx 0 _ rfl
   have kx_1 := bxx 1 _ rfl
   have kx_2 := bxx 2 _ rfl
   go_enter Tryd.func60, Tryd.ntmps60
   go_wp2_with (first | (go_at_call 40; refine (l1In_c _ _ _ _).mono ?_; rintro e w' ⟨rfl, rfl⟩))
   go_ret
   exact ⟨by rw [HN.out]; rfl, hB⟩
  ·have HN : Hid (stepT ⟨5, xa, xo⟩ = ⟨#[]⟩) := by show _ = _; simp [stepT, h00, ha0, haR, ho0, hoR]
   have qa0 : (xa != 0) = true := by simp [ha0]
   have qa1 : (xa == 0) = false := by simp [ha0]
   have qo0 : (xo == 0) = false := by simp [ho0]
   have hB := (Below.refl w.heap.size w).alloc (Nat.le_refl _) (.cells #[.int .i64 5, .int .i64 xa, .int .i64 xo] 113)
   have bxx := Bx.new w [.int .i64 5, .int .i64 xa, .int .i64 xo] 113
   have kx_0 := bxx 0 _ rfl
   have kx_1 := bxx 1 _ rfl
   have kx_2 := bxx 2 _ rfl
   go_enter Tryd.func60, Tryd.ntmps60
   go_wp2_with (first | (go_at_call 40; refine (l1In_c _ _ _ _).mono ?_; rintro e w' ⟨rfl, rfl⟩))
   go_ret
   exact ⟨by rw [HN.out]; rfl, hB⟩
set_option maxRecDepth 100000 in
set_option maxHeartbeats 6400000 in
theorem sStep0_c (xk : Int) (hk1 : xk ≠ 1) (hk2 : xk ≠ 2) (hk3 : xk ≠ 3) (hk4 : xk ≠ 4) (hk5 : xk ≠ 5) (xa xo : Int) (w : World) (iA : I64 xa) : Calls Tryd.prog 60 #[.agg #[.int .i64 xk, .int .i64 xa, .int .i64 xo]] w fun e w' => e = .returned (.string (stepT ⟨xk, xa, xo⟩)) ∧ Below w.heap.size w w' := by
 have h00 : inR 0 0 3 = true := rfl
 have ha : xa = 0 ∨ (xa ≠ 0 ∧ inR xa 0 3 = true) ∨ (xa ≠ 0 ∧ inR xa 0 3 = false) := by
  rcases Decidable.em (xa = 0) with h | h
  ·exact .inl h
  ·cases e : inR xa 0 3
   ·exact .inr (.inr ⟨h, rfl⟩)
   ·exact .inr (.inl ⟨h, rfl⟩)
 have ho : xo = 0 ∨ (xo ≠ 0 ∧ inR xo 0 3 = true) ∨ (xo ≠ 0 ∧ inR xo 0 3 = false) := by
  rcases Decidable.em (xo = 0) with h | h
  ·exact .inl h
  ·cases e : inR xo 0 3
   ·exact .inr (.inr ⟨h, rfl⟩)
   ·exact .inr (.inl ⟨h, rfl⟩)
 have qk1 : (xk == 1) = false := by simp [hk1]
 have qk2 : (xk == 2) = false := by simp [hk2]
 have qk3 : (xk == 3) = false := by simp [hk3]
 have qk4 : (xk == 4) = false := by simp [hk4]
 have qk5 : (xk == 5) = false := by simp [hk5]
 rcases ha with rfl | ⟨ha0, haR⟩ | ⟨ha0, haR⟩
 ·rcases ho with rfl | ⟨ho0, hoR⟩ | ⟨ho0, hoR⟩
  ·have HN : Hid (stepT ⟨xk, 0, 0⟩ = ⟨#[]⟩) := by show _ = _; simp [stepT, h00, hk1, hk2, hk3, hk4, hk5]
   have hB := (Below.refl w.heap.size w).alloc (Nat.le_refl _) (.cells #[.int .i64 xk, .int .i64 0, .int .i64 0] 113)
   have bxx := Bx.new w [.int .i64 xk, .int .i64 0, .int .i64 0] 113
   have kx_0 := bxx 0 _ rfl
   have kx_1 := bxx 1 _ rfl
   have kx_2 := bxx 2 _ rfl
   go_enter Tryd.func60, Tryd.ntmps60
   go_wp2_with (first | (go_at_call 40; refine (l1In_c _ _ _ _).mono ?_; rintro e w' ⟨rfl, rfl⟩))
   go_ret
   exact ⟨by rw [HN.out]; rfl, hB⟩
  ·have HN : Hid (stepT ⟨xk, 0, xo⟩ = ⟨#[]⟩) := by show _ = _; simp [stepT, h00, ho0, hoR, hk1, hk2, hk3, hk4, hk5]
   have qo0 : (xo == 0) = false := by simp [ho0]
   have hB := (Below.refl w.heap.size w).alloc (Nat.le_refl _) (.cells #[.int .i64 xk, .int .i64 0, .int .i64 xo] 113)
   have bxx := Bx.new w [.int .i64 xk, .int .i64 0, .int .i64 xo] 113
   have kx_0 := bxx 0 _ rfl
   have kx_1 := bxx 1 _ rfl
   have kx_2 := bxx 2 _ rfl
   go_enter Tryd.func60, Tryd.ntmps60
   go_wp2_with (first | (go_at_call 40; refine (l1In_c _ _ _ _).mono ?_; rintro e w' ⟨rfl, rfl⟩))
   go_ret
   exact ⟨by rw [HN.out]; rfl, hB⟩
  ·have HN : Hid (stepT ⟨xk, 0, xo⟩ = ⟨#[]⟩) := by show _ = _; simp [stepT, h00, ho0, hoR, hk1, hk2, hk3, hk4, hk5]
   have qo0 : (xo == 0) = false := by simp [ho0]
   have hB := (Below.refl w.heap.size w).alloc (Nat.le_refl _) (.cells #[.int .i64 xk, .int .i64 0, .int .i64 xo] 113)
   have bxx := Bx.new w [.int .i64 xk, .int .i64 0, .int .i64 xo] 113
   have kx_0 := bxx 0 _ rfl
   have kx_1 := bxx 1 _ rfl
   have kx_2 := bxx 2 _ rfl
   go_enter Tryd.func60, Tryd.ntmps60
   go_wp2_with (first | (go_at_call 40; refine (l1In_c _ _ _ _).mono ?_; rintro e w' ⟨rfl, rfl⟩))
   go_ret
   exact ⟨by rw [HN.out]; rfl, hB⟩
 ·rcases ho with rfl | ⟨ho0, hoR⟩ | ⟨ho0, hoR⟩
  ·have HN : Hid (stepT ⟨xk, xa, 0⟩ = ⟨#[]⟩) := by show _ = _; simp [stepT, h00, ha0, haR, hk1, hk2, hk3, hk4, hk5]
   have qa0 : (xa != 0) = true := by simp [ha0]
   have qa1 : (xa == 0) = false := by simp [ha0]
   have hB := (Below.refl w.heap.size w).alloc (Nat.le_refl _) (.cells #[.int .i64 xk, .int .i64 xa, .int .i64 0] 113)
   have bxx := Bx.new w [.int .i64 xk, .int .i64 xa, .int .i64 0] 113
   have kx_0 := bxx 0 _ rfl
   have kx_1 := bxx 1 _ rfl
   have kx_2 := bxx 2 _ rfl
   go_enter Tryd.func60, Tryd.ntmps60
   go_wp2_with (first | (go_at_call 40; refine (l1In_c _ _ _ _).mono ?_; rintro e w' ⟨rfl, rfl⟩))
   go_ret
   exact ⟨by rw [HN.out]; rfl, hB⟩
  ·have HN : Hid (stepT ⟨xk, xa, xo⟩ = ⟨#[]⟩) := by show _ = _; simp [stepT, h00, ha0, haR, ho0, hoR, hk1, hk2, hk3, hk4, hk5]
   have qa0 : (xa != 0) = true := by simp [ha0]
   have qa1 : (xa == 0) = false := by simp [ha0]
   have qo0 : (xo == 0) = false := by simp [ho0]
   have hB := (Below.refl w.heap.size w).alloc (Nat.le_refl _) (.cells #[.int .i64 xk, .int .i64 xa, .int .i64 xo] 113)
   have bxx := Bx.new w [.int .i64 xk, .int .i64 xa, .int .i64 xo] 113
   have kx_0 := bxx 0 _ rfl
   have kx_1 := bxx 1 _ rfl
   have kx_2 := bxx 2 _ rfl
   go_enter Tryd.func60, Tryd.ntmps60
   go_wp2_with (first | (go_at_call 40; refine (l1In_c _ _ _ _).mono ?_; rintro e w' ⟨rfl, rfl⟩))
   go_ret
   exact ⟨by rw [HN.out]; rfl, hB⟩
  ·have HN : Hid (stepT ⟨xk, xa, xo⟩ = ⟨#[]⟩) := by show _ = _; simp [stepT, h00, ha0, haR, ho0, hoR, hk1, hk2, hk3, hk4, hk5]
   have qa0 : (xa != 0) = true := by simp [ha0]
   have qa1 : (xa == 0) = false := by simp [ha0]
   have qo0 : (xo == 0) = false := by simp [ho0]
   have hB := (Below.refl w.heap.size w).alloc (Nat.le_refl _) (.cells #[.int .i64 xk, .int .i64 xa, .int .i64 xo] 113)
   have bxx := Bx.new w [.int .i64 xk, .int .i64 xa, .int .i64 xo] 113
   have kx_0 := bxx 0 _ rfl
   have kx_1 := bxx 1 _ rfl
   have kx_2 := bxx 2 _ rfl
   go_enter Tryd.func60, Tryd.ntmps60
   go_wp2_with (first | (go_at_call 40; refine (l1In_c _ _ _ _).mono ?_; rintro e w' ⟨rfl, rfl⟩))
   go_ret
   exact ⟨by rw [HN.out]; rfl, hB⟩
 ·rcases ho with rfl | ⟨ho0, hoR⟩ | ⟨ho0, hoR⟩
  ·have HN : Hid (stepT ⟨xk, xa, 0⟩ = ⟨#[]⟩) := by show _ = _; simp [stepT, h00, ha0, haR, hk1, hk2, hk3, hk4, hk5]
   have qa0 : (xa != 0) = true := by simp [ha0]
   have qa1 : (xa == 0) = false := by simp [ha0]
   have hB := (Below.refl w.heap.size w).alloc (Nat.le_refl _) (.cells #[.int .i64 xk, .int .i64 xa, .int .i64 0] 113)
   have bxx := Bx.new w [.int .i64 xk, .int .i64 xa, .int .i64 0] 113
   have kx_0 := bxx 0 _ rfl
   have kx_1 := bxx 1 _ rfl
   have kx_2 := bxx 2 _ rfl
   go_enter Tryd.func60, Tryd.ntmps60
   go_wp2_with (first | (go_at_call 40; refine (l1In_c _ _ _ _).mono ?_; rintro e w' ⟨rfl, rfl⟩))
   go_ret
   exact ⟨by rw [HN.out]; rfl, hB⟩
  ·have HN : Hid (stepT ⟨xk, xa, xo⟩ = ⟨#[]⟩) := by show _ = _; simp [stepT, h00, ha0, haR, ho0, hoR, hk1, hk2, hk3, hk4, hk5]
   have qa0 : (xa != 0) = true := by simp [ha0]
   have qa1 : (xa == 0) = false := by simp [ha0]
   have qo0 : (xo == 0) = false := by simp [ho0]
   have hB := (Below.refl w.heap.size w).alloc (Nat.le_refl _) (.cells #[.int .i64 xk, .int .i64 xa, .int .i64 xo] 113)
   have bxx := Bx.new w [.int .i64 xk, .int .i64 xa, .int .i64 xo] 113
   have kx_0 := bxx 0 _ rfl
   have kx_1 := bxx 1 _ rfl
   have kx_2 := bxx 2 _ rfl
   go_enter Tryd.func60, Tryd.ntmps60
   go_wp2_with (first | (go_at_call 40; refine (l1In_c _ _ _ _).mono ?_; rintro e w' ⟨rfl, rfl⟩))
   go_ret
   exact ⟨by rw [HN.out]; rfl, hB⟩
  ·have HN : Hid (stepT ⟨xk, xa, xo⟩ = ⟨#[]⟩) := by show _ = _; simp [stepT, h00, ha0, haR, ho0, hoR, hk1, hk2, hk3, hk4, hk5]
   have qa0 : (xa != 0) = true := by simp [ha0]
   have qa1 : (xa == 0) = false := by simp [ha0]
   have qo0 : (xo == 0) = false := by simp [ho0]
   have hB := (Below.refl w.heap.size w).alloc (Nat.le_refl _) (.cells #[.int .i64 xk, .int .i64 xa, .int .i64 xo] 113)
   have bxx := Bx.new w [.int .i64 xk, .int .i64 xa, .int .i64 xo] 113
   have kx_0 := bxx 0 _ rfl
   have kx_1 := bxx 1 _ rfl
   have kx_2 := bxx 2 _ rfl
   go_enter Tryd.func60, Tryd.ntmps60
   go_wp2_with (first | (go_at_call 40; refine (l1In_c _ _ _ _).mono ?_; rintro e w' ⟨rfl, rfl⟩))
   go_ret
   exact ⟨by rw [HN.out]; rfl, hB⟩
set_option maxRecDepth 100000 in
set_option maxHeartbeats 6400000 in
theorem iStep1_c (xa xo : Int) (w : World) (iA : I64 xa) (ht : Tab w) : Calls Tryd.prog 64 #[.agg #[.int .i64 1, .int .i64 xa, .int .i64 xo]] w fun e w' => e = .returned (.string (stepT ⟨1, xa, xo⟩)) ∧ Below w.heap.size w w' := by
 have h00 : inR 0 0 3 = true := rfl
 have ha : xa = 0 ∨ (xa ≠ 0 ∧ inR xa 0 3 = true) ∨ (xa ≠ 0 ∧ inR xa 0 3 = false) := by
  rcases Decidable.em (xa = 0) with h | h
  ·exact .inl h
  ·cases e : inR xa 0 3
   ·exact .inr (.inr ⟨h, rfl⟩)
   ·exact .inr (.inl ⟨h, rfl⟩)
 have ho : xo = 0 ∨ (xo ≠ 0 ∧ inR xo 0 3 = true) ∨ (xo ≠ 0 ∧ inR xo 0 3 = false) := by
  rcases Decidable.em (xo = 0) with h | h
  ·exact .inl h
  ·cases e : inR xo 0 3
   ·exact .inr (.inr ⟨h, rfl⟩)
   ·exact .inr (.inl ⟨h, rfl⟩)
 rcases ha with rfl | ⟨ha0, haR⟩ | ⟨ha0, haR⟩
 ·rcases ho with rfl | ⟨ho0, hoR⟩ | ⟨ho0, hoR⟩
  ·have HN : Hid (stepT ⟨1, 0, 0⟩ = fmtI 0) := by show _ = _; simp [stepT, h00]
   have hB := (Below.refl w.heap.size w).alloc (Nat.le_refl _) (.cells #[.int .i64 1, .int .i64 0, .int .i64 0] 113)
   have bxx := Bx.new w [.int .i64 1, .int .i64 0, .int .i64 0] 113
   have kx_0 := bxx 0 _ rfl
   have kx_1 := bxx 1 _ rfl
   have kx_2 := bxx 2 _ rfl
   have KF : Hid (∀ W, Below w.heap.size w W → Calls Tryd.prog 27 #[.int .i64 0] W fun e w' => e = .returned (.string (fmtI 0)) ∧ Below W.heap.size W w') := by
    show ∀ W, _ → _
    exact fun W hW => iFormatInt_c 0 W iA (ht.below hW)
   obtain ⟨F1, hF1⟩ : ∃ F, F = fmtI 0 := ⟨_, rfl⟩
   rw [← hF1] at KF
   have HF1 := Lib.hid hF1; clear hF1
   go_enter Tryd.func64, Tryd.ntmps64
   go_wp2_with (first | (go_at_call 46; refine (within_c _ _ _ _).mono ?_; rintro e w' ⟨rfl, rfl⟩) | (go_at_call 27; refine (KF.out _ hB).mono ?_; rintro e w2 ⟨rfl, hb2⟩))
   go_ret
   exact ⟨by rw [HN.out, ← HF1.out]; rfl, hB.trans (hb2.mono hB.size)⟩
  ·have HN : Hid (stepT ⟨1, 0, xo⟩ = ⟨#[]⟩) := by show _ = _; simp [stepT, h00, ho0, hoR]
   have qo0 : (xo == 0) = false := by simp [ho0]
   have hB := (Below.refl w.heap.size w).alloc (Nat.le_refl _) (.cells #[.int .i64 1, .int .i64 0, .int .i64 xo] 113)
   have bxx := Bx.new w [.int .i64 1, .int .i64 0, .int .i64 xo] 113
   have kx_0 := bxx 0 _ rfl
   have kx_1 := bxx 1 _ rfl
   have kx_2 := bxx 2 _ rfl
   go_enter Tryd.func64, Tryd.ntmps64
   go_wp2_with (first | (go_at_call 46; refine (within_c _ _ _ _).mono ?_; rintro e w' ⟨rfl, rfl⟩))
   go_ret
   exact ⟨by rw [HN.out]; rfl, hB⟩
  ·have HN : Hid (stepT ⟨1, 0, xo⟩ = ⟨#[]⟩) := by show _ = _; simp [stepT, h00, ho0, hoR]
   have qo0 : (xo == 0) = false := by simp [ho0]
   have hB := (Below.refl w.heap.size w).alloc (Nat.le_refl _) (.cells #[.int .i64 1, .int .i64 0, .int .i64 xo] 113)
   have bxx := Bx.new w [.int .i64 1, .int .i64 0, .int .i64 xo] 113
   have kx_0 := bxx 0 _ rfl
   have kx_1 := bxx 1 _ rfl
   have kx_2 := bxx 2 _ rfl
   go_enter Tryd.func64, Tryd.ntmps64
   go_wp2_with (first | (go_at_call 46; refine (within_c _ _ _ _).mono ?_; rintro e w' ⟨rfl, rfl⟩))
   go_ret
   exact ⟨by rw [HN.out]; rfl, hB⟩
 ·rcases ho with rfl | ⟨ho0, hoR⟩ | ⟨ho0, hoR⟩
  ·have HN : Hid (stepT ⟨1, xa, 0⟩ = fmtI xa) := by show _ = _; simp [stepT, h00, ha0, haR]
   have qa0 : (xa != 0) = true := by simp [ha0]
   have qa1 : (xa == 0) = false := by simp [ha0]
   have hB := (Below.refl w.heap.size w).alloc (Nat.le_refl _) (.cells #[.int .i64 1, .int .i64 xa, .int .i64 0] 113)
   have bxx := Bx.new w [.int .i64 1, .int .i64 xa, .int .i64 0] 113
   have kx_0 := bxx 0 _ rfl
   have kx_1 := bxx 1 _ rfl
   have kx_2 := bxx 2 _ rfl
   have KF : Hid (∀ W, Below w.heap.size w W → Calls Tryd.prog 27 #[.int .i64 xa] W fun e w' => e = .returned (.string (fmtI xa)) ∧ Below W.heap.size W w') := by
    show ∀ W, _ → _
    exact fun W hW => iFormatInt_c xa W iA (ht.below hW)
   obtain ⟨F1, hF1⟩ : ∃ F, F = fmtI xa := ⟨_, rfl⟩
   rw [← hF1] at KF
   have HF1 := Lib.hid hF1; clear hF1
   go_enter Tryd.func64, Tryd.ntmps64
   go_wp2_with (first | (go_at_call 46; refine (within_c _ _ _ _).mono ?_; rintro e w' ⟨rfl, rfl⟩) | (go_at_call 27; refine (KF.out _ hB).mono ?_; rintro e w2 ⟨rfl, hb2⟩))
   go_ret
   exact ⟨by rw [HN.out, ← HF1.out]; rfl, hB.trans (hb2.mono hB.size)⟩
  ·have HN : Hid (stepT ⟨1, xa, xo⟩ = ⟨#[]⟩) := by show _ = _; simp [stepT, h00, ha0, haR, ho0, hoR]
   have qa0 : (xa != 0) = true := by simp [ha0]
   have qa1 : (xa == 0) = false := by simp [ha0]
   have qo0 : (xo == 0) = false := by simp [ho0]
   have hB := (Below.refl w.heap.size w).alloc (Nat.le_refl _) (.cells #[.int .i64 1, .int .i64 xa, .int .i64 xo] 113)
   have bxx := Bx.new w [.int .i64 1, .int .i64 xa, .int .i64 xo] 113
   have kx_0 := bxx 0 _ rfl
   have kx_1 := bxx 1 _ rfl
   have kx_2 := bxx 2 _ rfl
   go_enter Tryd.func64, Tryd.ntmps64
   go_wp2_with (first | (go_at_call 46; refine (within_c _ _ _ _).mono ?_; rintro e w' ⟨rfl, rfl⟩))
   go_ret
   exact ⟨by rw [HN.out]; rfl, hB⟩
  ·have HN : Hid (stepT ⟨1, xa, xo⟩ = ⟨#[]⟩) := by show _ = _; simp [stepT, h00, ha0, haR, ho0, hoR]
   have qa0 : (xa != 0) = true := by simp [ha0]
   have qa1 : (xa == 0) = false := by simp [ha0]
   have qo0 : (xo == 0) = false := by simp [ho0]
   have hB := (Below.refl w.heap.size w).alloc (Nat.le_refl _) (.cells #[.int .i64 1, .int .i64 xa, .int .i64 xo] 113)
   have bxx := Bx.new w [.int .i64 1, .int .i64 xa, .int .i64 xo] 113
   have kx_0 := bxx 0 _ rfl
   have kx_1 := bxx 1 _ rfl
   have kx_2 := bxx 2 _ rfl
   go_enter Tryd.func64, Tryd.ntmps64
   go_wp2_with (first | (go_at_call 46; refine (within_c _ _ _ _).mono ?_; rintro e w' ⟨rfl, rfl⟩))
   go_ret
   exact ⟨by rw [HN.out]; rfl, hB⟩
 ·rcases ho with rfl | ⟨ho0, hoR⟩ | ⟨ho0, hoR⟩
  ·have HN : Hid (stepT ⟨1, xa, 0⟩ = ⟨#[]⟩) := by show _ = _; simp [stepT, h00, ha0, haR]
   have qa0 : (xa != 0) = true := by simp [ha0]
   have qa1 : (xa == 0) = false := by simp [ha0]
   have hB := (Below.refl w.heap.size w).alloc (Nat.le_refl _) (.cells #[.int .i64 1, .int .i64 xa, .int .i64 0] 113)
   have bxx := Bx.new w [.int .i64 1, .int .i64 xa, .int .i64 0] 113
   have kx_0 := bxx 0 _ rfl
   have kx_1 := bxx 1 _ rfl
   have kx_2 := bxx 2 _ rfl
   go_enter Tryd.func64, Tryd.ntmps64
   go_wp2_with (first | (go_at_call 46; refine (within_c _ _ _ _).mono ?_; rintro e w' ⟨rfl, rfl⟩))
   go_ret
   exact ⟨by rw [HN.out]; rfl, hB⟩
  ·have HN : Hid (stepT ⟨1, xa, xo⟩ = ⟨#[]⟩) := by show _ = _; simp [stepT, h00, ha0, haR, ho0, hoR]
   have qa0 : (xa != 0) = true := by simp [ha0]
   have qa1 : (xa == 0) = false := by simp [ha0]
   have qo0 : (xo == 0) = false := by simp [ho0]
   have hB := (Below.refl w.heap.size w).alloc (Nat.le_refl _) (.cells #[.int .i64 1, .int .i64 xa, .int .i64 xo] 113)
   have bxx := Bx.new w [.int .i64 1, .int .i64 xa, .int .i64 xo] 113
   have kx_0 := bxx 0 _ rfl
   have kx_1 := bxx 1 _ rfl
   have kx_2 := bxx 2 _ rfl
   go_enter Tryd.func64, Tryd.ntmps64
   go_wp2_with (first | (go_at_call 46; refine (within_c _ _ _ _).mono ?_; rintro e w' ⟨rfl, rfl⟩))
   go_ret
   exact ⟨by rw [HN.out]; rfl, hB⟩
  ·have HN : Hid (stepT ⟨1, xa, xo⟩ = ⟨#[]⟩) := by show _ = _; simp [stepT, h00, ha0, haR, ho0, hoR]
   have qa0 : (xa != 0) = true := by simp [ha0]
   have qa1 : (xa == 0) = false := by simp [ha0]
   have qo0 : (xo == 0) = false := by simp [ho0]
   have hB := (Below.refl w.heap.size w).alloc (Nat.le_refl _) (.cells #[.int .i64 1, .int .i64 xa, .int .i64 xo] 113)
   have bxx := Bx.new w [.int .i64 1, .int .i64 xa, .int .i64 xo] 113
   have kx_0 := bxx 0 _ rfl
   have kx_1 := bxx 1 _ rfl
   have kx_2 := bxx 2 _ rfl
   go_enter Tryd.func64, Tryd.ntmps64
   go_wp2_with (first | (go_at_call 46; refine (within_c _ _ _ _).mono ?_; rintro e w' ⟨rfl, rfl⟩))
   go_ret
   exact ⟨by rw [HN.out]; rfl, hB⟩
set_option maxRecDepth 100000 in
set_option maxHeartbeats 6400000 in
theorem iStep2_c (xa xo : Int) (w : World) (iA : I64 xa) (ht : Tab w) : Calls Tryd.prog 64 #[.agg #[.int .i64 2, .int .i64 xa, .int .i64 xo]] w fun e w' => e = .returned (.string (stepT ⟨2, xa, xo⟩)) ∧ Below w.heap.size w w' := by
 have h00 : inR 0 0 3 = true := rfl
 have ha : xa = 0 ∨ (xa ≠ 0 ∧ inR xa 0 3 = true) ∨ (xa ≠ 0 ∧ inR xa 0 3 = false) := by
  rcases Decidable.em (xa = 0) with h | h
  ·exact .inl h
  ·cases e : inR xa 0 3
   ·exact .inr (.inr ⟨h, rfl⟩)
   ·exact .inr (.inl ⟨h, rfl⟩)
 have ho : xo = 0 ∨ (xo ≠ 0 ∧ inR xo 0 3 = true) ∨ (xo ≠ 0 ∧ inR xo 0 3 = false) := by
  rcases Decidable.em (xo = 0) with h | h
  ·exact .inl h
  ·cases e : inR xo 0 3
   ·exact .inr (.inr ⟨h, rfl⟩)
   ·exact .inr (.inl ⟨h, rfl⟩)
 rcases ha with rfl | ⟨ha0, haR⟩ | ⟨ha0, haR⟩
 ·rcases ho with rfl | ⟨ho0, hoR⟩ | ⟨ho0, hoR⟩
  ·have HN : Hid (stepT ⟨2, 0, 0⟩ = ⟨#[47]⟩ ++ varT 0) := by show _ = _; simp [stepT, h00]
   have hB := (Below.refl w.heap.size w).alloc (Nat.le_refl _) (.cells #[.int .i64 2, .int .i64 0, .int .i64 0] 113)
   have bxx := Bx.new w [.int .i64 2, .int .i64 0, .int .i64 0] 113
   have kx_0 := bxx 0 _ rfl
   have kx_1 := bxx 1 _ rfl
   have kx_2 := bxx 2 _ rfl
   have KV := Lib.hid (fun W => iVariableName_c 0 W)
   have zV := varT_le 0
   obtain ⟨F1, hF1⟩ : ∃ F, F = varT 0 := ⟨_, rfl⟩
   rw [← hF1] at KV zV
   have HF1 := Lib.hid hF1; clear hF1
   have n1 : ¬ 9223372036854775807 < 1 + F1.size := by omega
   go_enter Tryd.func64, Tryd.ntmps64
   go_wp2_with (first | (go_at_call 46; refine (within_c _ _ _ _).mono ?_; rintro e w' ⟨rfl, rfl⟩) | (go_at_call 78; refine (KV.out _).mono ?_; rintro e w' ⟨rfl, rfl⟩))
   go_ret
   exact ⟨by rw [HN.out, ← HF1.out]; rfl, hB⟩
  ·have HN : Hid (stepT ⟨2, 0, xo⟩ = ⟨#[47]⟩ ++ varT xo) := by show _ = _; simp [stepT, h00, ho0, hoR]
   have qo0 : (xo == 0) = false := by simp [ho0]
   have hB := (Below.refl w.heap.size w).alloc (Nat.le_refl _) (.cells #[.int .i64 2, .int .i64 0, .int .i64 xo] 113)
   have bxx := Bx.new w [.int .i64 2, .int .i64 0, .int .i64 xo] 113
   have kx_0 := bxx 0 _ rfl
   have kx_1 := bxx 1 _ rfl
   have kx_2 := bxx 2 _ rfl
   have KV := Lib.hid (fun W => iVariableName_c xo W)
   have zV := varT_le xo
   obtain ⟨F1, hF1⟩ : ∃ F, F = varT xo := ⟨_, rfl⟩
   rw [← hF1] at KV zV
   have HF1 := Lib.hid hF1; clear hF1
   have n1 : ¬ 9223372036854775807 < 1 + F1.size := by omega
   go_enter Tryd.func64, Tryd.ntmps64
   go_wp2_with (first | (go_at_call 46; refine (within_c _ _ _ _).mono ?_; rintro e w' ⟨rfl, rfl⟩) | (go_at_call 78; refine (KV.out _).mono ?_; rintro e w' ⟨rfl, rfl⟩))
   go_ret
   exact ⟨by rw [HN.out, ← HF1.out]; rfl, hB⟩
  ·have HN : Hid (stepT ⟨2, 0, xo⟩ = ⟨#[]⟩) := by show _ = _; simp [stepT, h00, ho0, hoR]
   have qo0 : (xo == 0) = false := by simp [ho0]
   have hB := (Below.refl w.heap.size w).alloc (Nat.le_refl _) (.cells #[.int .i64 2, .int .i64 0, .int .i64 xo] 113)
   have bxx := Bx.new w [.int .i64 2, .int .i64 0, .int .i64 xo] 113
   have kx_0 := bxx 0 _ rfl
   have kx_1 := bxx 1 _ rfl
   have kx_2 := bxx 2 _ rfl
   go_enter Tryd.func64, Tryd.ntmps64
   go_wp2_with (first | (go_at_call 46; refine (within_c _ _ _ _).mono ?_; rintro e w' ⟨rfl, rfl⟩))
   go_ret
   exact ⟨by rw [HN.out]; rfl, hB⟩
 ·rcases ho with rfl | ⟨ho0, hoR⟩ | ⟨ho0, hoR⟩
  ·have HN : Hid (stepT ⟨2, xa, 0⟩ = ⟨#[]⟩) := by show _ = _; simp [stepT, h00, ha0, haR]
   have qa0 : (xa != 0) = true := by simp [ha0]
   have qa1 : (xa == 0) = false := by simp [ha0]
   have hB := (Below.refl w.heap.size w).alloc (Nat.le_refl _) (.cells #[.int .i64 2, .int .i64 xa, .int .i64 0] 113)
   have bxx := Bx.new w [.int .i64 2, .int .i64 xa, .int .i64 0] 113
   have kx_0 := bxx 0 _ rfl
   have kx_1 := bxx 1 _ rfl
   have kx_2 := bxx 2 _ rfl
   go_enter Tryd.func64, Tryd.ntmps64
   go_wp2_with (first | (go_at_call 46; refine (within_c _ _ _ _).mono ?_; rintro e w' ⟨rfl, rfl⟩))
   go_ret
   exact ⟨by rw [HN.out]; rfl, hB⟩
  ·have HN : Hid (stepT ⟨2, xa, xo⟩ = ⟨#[]⟩) := by show _ = _; simp [stepT, h00, ha0, haR, ho0, hoR]
   have qa0 : (xa != 0) = true := by simp [ha0]
   have qa1 : (xa == 0) = false := by simp [ha0]
   have qo0 : (xo == 0) = false := by simp [ho0]
   have hB := (Below.refl w.heap.size w).alloc (Nat.le_refl _) (.cells #[.int .i64 2, .int .i64 xa, .int .i64 xo] 113)
   have bxx := Bx.new w [.int .i64 2, .int .i64 xa, .int .i64 xo] 113
   have kx_0 := bxx 0 _ rfl
   have kx_1 := bxx 1 _ rfl
   have kx_2 := bxx 2 _ rfl
   go_enter Tryd.func64, Tryd.ntmps64
   go_wp2_with (first | (go_at_call 46; refine (within_c _ _ _ _).mono ?_; rintro e w' ⟨rfl, rfl⟩))
   go_ret
   exact ⟨by rw [HN.out]; rfl, hB⟩
  ·have HN : Hid (stepT ⟨2, xa, xo⟩ = ⟨#[]⟩) := by show _ = _; simp [stepT, h00, ha0, haR, ho0, hoR]
   have qa0 : (xa != 0) = true := by simp [ha0]
   have qa1 : (xa == 0) = false := by simp [ha0]
   have qo0 : (xo == 0) = false := by simp [ho0]
   have hB := (Below.refl w.heap.size w).alloc (Nat.le_refl _) (.cells #[.int .i64 2, .int .i64 xa, .int .i64 xo] 113)
   have bxx := Bx.new w [.int .i64 2, .int .i64 xa, .int .i64 xo] 113
   have kx_0 := bxx 0 _ rfl
   have kx_1 := bxx 1 _ rfl
   have kx_2 := bxx 2 _ rfl
   go_enter Tryd.func64, Tryd.ntmps64
   go_wp2_with (first | (go_at_call 46; refine (within_c _ _ _ _).mono ?_; rintro e w' ⟨rfl, rfl⟩))
   go_ret
   exact ⟨by rw [HN.out]; rfl, hB⟩
 ·rcases ho with rfl | ⟨ho0, hoR⟩ | ⟨ho0, hoR⟩
  ·have HN : Hid (stepT ⟨2, xa, 0⟩ = ⟨#[]⟩) := by show _ = _; simp [stepT, h00, ha0, haR]
   have qa0 : (xa != 0) = true := by simp [ha0]
   have qa1 : (xa == 0) = false := by simp [ha0]
   have hB := (Below.refl w.heap.size w).alloc (Nat.le_refl _) (.cells #[.int .i64 2, .int .i64 xa, .int .i64 0] 113)
   have bxx := Bx.new w [.int .i64 2, .int .i64 xa, .int .i64 0] 113
   have kx_0 := bxx 0 _ rfl
   have kx_1 := bxx 1 _ rfl
   have kx_2 := bxx 2 _ rfl
   go_enter Tryd.func64, Tryd.ntmps64
   go_wp2_with (first | (go_at_call 46; refine (within_c _ _ _ _).mono ?_; rintro e w' ⟨rfl, rfl⟩))
   go_ret
   exact ⟨by rw [HN.out]; rfl, hB⟩
  ·have HN : Hid (stepT ⟨2, xa, xo⟩ = ⟨#[]⟩) := by show _ = _; simp [stepT, h00, ha0, haR, ho0, hoR]
   have qa0 : (xa != 0) = true := by simp [ha0]
   have qa1 : (xa == 0) = false := by simp [ha0]
   have qo0 : (xo == 0) = false := by simp [ho0]
   have hB := (Below.refl w.heap.size w).alloc (Nat.le_refl _) (.cells #[.int .i64 2, .int .i64 xa, .int .i64 xo] 113)
   have bxx := Bx.new w [.int .i64 2, .int .i64 xa, .int .i64 xo] 113
   have kx_0 := bxx 0 _ rfl
   have kx_1 := bxx 1 _ rfl
   have kx_2 := bxx 2 _ rfl
   go_enter Tryd.func64, Tryd.ntmps64
   go_wp2_with (first | (go_at_call 46; refine (within_c _ _ _ _).mono ?_; rintro e w' ⟨rfl, rfl⟩))
   go_ret
   exact ⟨by rw [HN.out]; rfl, hB⟩
  ·have HN : Hid (stepT ⟨2, xa, xo⟩ = ⟨#[]⟩) := by show _ = _; simp [stepT, h00, ha0, haR, ho0, hoR]
   have qa0 : (xa != 0) = true := by simp [ha0]
   have qa1 : (xa == 0) = false := by simp [ha0]
   have qo0 : (xo == 0) = false := by simp [ho0]
   have hB := (Below.refl w.heap.size w).alloc (Nat.le_refl _) (.cells #[.int .i64 2, .int .i64 xa, .int .i64 xo] 113)
   have bxx := Bx.new w [.int .i64 2, .int .i64 xa, .int .i64 xo] 113
   have kx_0 := bxx 0 _ rfl
   have kx_1 := bxx 1 _ rfl
   have kx_2 := bxx 2 _ rfl
   go_enter Tryd.func64, Tryd.ntmps64
   go_wp2_with (first | (go_at_call 46; refine (within_c _ _ _ _).mono ?_; rintro e w' ⟨rfl, rfl⟩))
   go_ret
   exact ⟨by rw [HN.out]; rfl, hB⟩
set_option maxRecDepth 100000 in
set_option maxHeartbeats 6400000 in
theorem iStep3_c (xa xo : Int) (w : World) (iA : I64 xa) (ht : Tab w) : Calls Tryd.prog 64 #[.agg #[.int .i64 3, .int .i64 xa, .int .i64 xo]] w fun e w' => e = .returned (.string (stepT ⟨3, xa, xo⟩)) ∧ Below w.heap.size w w' := by
 have h00 : inR 0 0 3 = true := rfl
 have ha : xa = 0 ∨ (xa ≠ 0 ∧ inR xa 0 3 = true) ∨ (xa ≠ 0 ∧ inR xa 0 3 = false) := by
  rcases Decidable.em (xa = 0) with h | h
  ·exact .inl h
  ·cases e : inR xa 0 3
   ·exact .inr (.inr ⟨h, rfl⟩)
   ·exact .inr (.inl ⟨h, rfl⟩)
 have ho : xo = 0 ∨ (xo ≠ 0 ∧ inR xo 0 3 = true) ∨ (xo ≠ 0 ∧ inR xo 0 3 = false) := by
  rcases Decidable.em (xo = 0) with h | h
  ·exact .inl h
  ·cases e : inR xo 0 3
   ·exact .inr (.inr ⟨h, rfl⟩)
   ·exact .inr (.inl ⟨h, rfl⟩)
 rcases ha with rfl | ⟨ha0, haR⟩ | ⟨ha0, haR⟩
 ·rcases ho with rfl | ⟨ho0, hoR⟩ | ⟨ho0, hoR⟩
  ·have HN : Hid (stepT ⟨3, 0, 0⟩ = ⟨#[72]⟩) := by show _ = _; simp [stepT, h00]
   have hB := (Below.refl w.heap.size w).alloc (Nat.le_refl _) (.cells #[.int .i64 3, .int .i64 0, .int .i64 0] 113)
   have bxx := Bx.new w [.int .i64 3, .int .i64 0, .int .i64 0] 113
   have kx_0 := bxx 0 _ rfl
   have kx_1 := bxx 1 _ rfl
   have kx_2 := bxx 2 _ rfl
   go_enter Tryd.func64, Tryd.ntmps64
   go_wp2_with (first | (go_at_call 46; refine (within_c _ _ _ _).mono ?_; rintro e w' ⟨rfl, rfl⟩))
   go_ret
   exact ⟨by rw [HN.out]; rfl, hB⟩
  ·have HN : Hid (stepT ⟨3, 0, xo⟩ = ⟨#[]⟩) := by show _ = _; simp [stepT, h00, ho0, hoR]
   have qo0 : (xo == 0) = false := by simp [ho0]
   have hB := (Below.refl w.heap.size w).alloc (Nat.le_refl _) (.cells #[.int .i64 3, .int .i64 0, .int .i64 xo] 113)
   have bxx := Bx.new w [.int .i64 3, .int .i64 0, .int .i64 xo] 113
   have kx_0 := bxx 0 _ rfl
   have kx_1 := bxx 1 _ rfl
   have kx_2 := bxx 2 _ rfl
   go_enter Tryd.func64, Tryd.ntmps64
   go_wp2_with (first | (go_at_call 46; refine (within_c _ _ _ _).mono ?_; rintro e w' ⟨rfl, rfl⟩))
   go_ret
   exact ⟨by rw [HN.out]; rfl, hB⟩
  ·have HN : Hid (stepT ⟨3, 0, xo⟩ = ⟨#[]⟩) := by show _ = _; simp [stepT, h00, ho0, hoR]
   have qo0 : (xo == 0) = false := by simp [ho0]
   have hB := (Below.refl w.heap.size w).alloc (Nat.le_refl _) (.cells #[.int .i64 3, .int .i64 0, .int .i64 xo] 113)
   have bxx := Bx.new w [.int .i64 3, .int .i64 0, .int .i64 xo] 113
   have kx_0 := bxx 0 _ rfl
   have kx_1 := bxx 1 _ rfl
   have kx_2 := bxx 2 _ rfl
   go_enter Tryd.func64, Tryd.ntmps64
   go_wp2_with (first | (go_at_call 46; refine (within_c _ _ _ _).mono ?_; rintro e w' ⟨rfl, rfl⟩))
   go_ret
   exact ⟨by rw [HN.out]; rfl, hB⟩
 ·rcases ho with rfl | ⟨ho0, hoR⟩ | ⟨ho0, hoR⟩
  ·have HN : Hid (stepT ⟨3, xa, 0⟩ = ⟨#[]⟩) := by show _ = _; simp [stepT, h00, ha0, haR]
   have qa0 : (xa != 0) = true := by simp [ha0]
   have qa1 : (xa == 0) = false := by simp [ha0]
   have hB := (Below.refl w.heap.size w).alloc (Nat.le_refl _) (.cells #[.int .i64 3, .int .i64 xa, .int .i64 0] 113)
   have bxx := Bx.new w [.int .i64 3, .int .i64 xa, .int .i64 0] 113
   have kx_0 := bxx 0 _ rfl
   have kx_1 := bxx 1 _ rfl
   have kx_2 := bxx 2 _ rfl
   go_enter Tryd.func64, Tryd.ntmps64
   go_wp2_with (first | (go_at_call 46; refine (within_c _ _ _ _).mono ?_; rintro e w' ⟨rfl, rfl⟩))
   go_ret
   exact ⟨by rw [HN.out]; rfl, hB⟩
  ·have HN : Hid (stepT ⟨3, xa, xo⟩ = ⟨#[]⟩) := by show _ = _; simp [stepT, h00, ha0, haR, ho0, hoR]
   have qa0 : (xa != 0) = true := by simp [ha0]
   have qa1 : (xa == 0) = false := by simp [ha0]
   have qo0 : (xo == 0) = false := by simp [ho0]
   have hB := (Below.refl w.heap.size w).alloc (Nat.le_refl _) (.cells #[.int .i64 3, .int .i64 xa, .int .i64 xo] 113)
   have bxx := Bx.new w [.int .i64 3, .int .i64 xa, .int .i64 xo] 113
   have kx_0 := bxx 0 _ rfl
   have kx_1 := bxx 1 _ rfl
   have kx_2 := bxx 2 _ rfl
   go_enter Tryd.func64, Tryd.ntmps64
   go_wp2_with (first | (go_at_call 46; refine (within_c _ _ _ _).mono ?_; rintro e w' ⟨rfl, rfl⟩))
   go_ret
   exact ⟨by rw [HN.out]; rfl, hB⟩
  ·have HN : Hid (stepT ⟨3, xa, xo⟩ = ⟨#[]⟩) := by show _ = _; simp [stepT, h00, ha0, haR, ho0, hoR]
   have qa0 : (xa != 0) = true := by simp [ha0]
   have qa1 : (xa == 0) = false := by simp [ha0]
   have qo0 : (xo == 0) = false := by simp [ho0]
   have hB := (Below.refl w.heap.size w).alloc (Nat.le_refl _) (.cells #[.int .i64 3, .int .i64 xa, .int .i64 xo] 113)
   have bxx := Bx.new w [.int .i64 3, .int .i64 xa, .int .i64 xo] 113
   have kx_0 := bxx 0 _ rfl
   have kx_1 := bxx 1 _ rfl
   have kx_2 := bxx 2 _ rfl
   go_enter Tryd.func64, Tryd.ntmps64
   go_wp2_with (first | (go_at_call 46; refine (within_c _ _ _ _).mono ?_; rintro e w' ⟨rfl, rfl⟩))
   go_ret
   exact ⟨by rw [HN.out]; rfl, hB⟩
 ·rcases ho with rfl | ⟨ho0, hoR⟩ | ⟨ho0, hoR⟩
  ·have HN : Hid (stepT ⟨3, xa, 0⟩ = ⟨#[]⟩) := by show _ = _; simp [stepT, h00, ha0, haR]
   have qa0 : (xa != 0) = true := by simp [ha0]
   have qa1 : (xa == 0) = false := by simp [ha0]
   have hB := (Below.refl w.heap.size w).alloc (Nat.le_refl _) (.cells #[.int .i64 3, .int .i64 xa, .int .i64 0] 113)
   have bxx := Bx.new w [.int .i64 3, .int .i64 xa, .int .i64 0] 113
   have kx_0 := bxx 0 _ rfl
   have kx_1 := bxx 1 _ rfl
   have kx_2 := bxx 2 _ rfl
   go_enter Tryd.func64, Tryd.ntmps64
   go_wp2_with (first | (go_at_call 46; refine (within_c _ _ _ _).mono ?_; rintro e w' ⟨rfl, rfl⟩))
   go_ret
   exact ⟨by rw [HN.out]; rfl, hB⟩
  ·have HN : Hid (stepT ⟨3, xa, xo⟩ = ⟨#[]⟩) := by show _ = _; simp [stepT, h00, ha0, haR, ho0, hoR]
   have qa0 : (xa != 0) = true := by simp [ha0]
   have qa1 : (xa == 0) = false := by simp [ha0]
   have qo0 : (xo == 0) = false := by simp [ho0]
   have hB := (Below.refl w.heap.size w).alloc (Nat.le_refl _) (.cells #[.int .i64 3, .int .i64 xa, .int .i64 xo] 113)
   have bxx := Bx.new w [.int .i64 3, .int .i64 xa, .int .i64 xo] 113
   have kx_0 := bxx 0 _ rfl
   have kx_1 := bxx 1 _ rfl
   have kx_2 := bxx 2 _ rfl
   go_enter Tryd.func64, Tryd.ntmps64
   go_wp2_with (first | (go_at_call 46; refine (within_c _ _ _ _).mono ?_; rintro e w' ⟨rfl, rfl⟩))
   go_ret
   exact ⟨by rw [HN.out]; rfl, hB⟩
  ·have HN : Hid (stepT ⟨3, xa, xo⟩ = ⟨#[]⟩) := by show _ = _; simp [stepT, h00, ha0, haR, ho0, hoR]
   have qa0 : (xa != 0) = true := by simp [ha0]
   have qa1 : (xa == 0) = false := by simp [ha0]
   have qo0 : (xo == 0) = false := by simp [ho0]
   have hB := (Below.refl w.heap.size w).alloc (Nat.le_refl _) (.cells #[.int .i64 3, .int .i64 xa, .int .i64 xo] 113)
   have bxx := Bx.new w [.int .i64 3, .int .i64 xa, .int .i64 xo] 113
   have kx_0 := bxx 0 _ rfl
   have kx_1 := bxx 1 _ rfl
   have kx_2 := bxx 2 _ rfl
   go_enter Tryd.func64, Tryd.ntmps64
   go_wp2_with (first | (go_at_call 46; refine (within_c _ _ _ _).mono ?_; rintro e w' ⟨rfl, rfl⟩))
   go_ret
   exact ⟨by rw [HN.out]; rfl, hB⟩
set_option maxRecDepth 100000 in
set_option maxHeartbeats 6400000 in
theorem iStep4_c (xa xo : Int) (w : World) (iA : I64 xa) (ht : Tab w) : Calls Tryd.prog 64 #[.agg #[.int .i64 4, .int .i64 xa, .int .i64 xo]] w fun e w' => e = .returned (.string (stepT ⟨4, xa, xo⟩)) ∧ Below w.heap.size w w' := by
 have h00 : inR 0 0 3 = true := rfl
 have ha : xa = 0 ∨ (xa ≠ 0 ∧ inR xa 0 3 = true) ∨ (xa ≠ 0 ∧ inR xa 0 3 = false) := by
  rcases Decidable.em (xa = 0) with h | h
  ·exact .inl h
  ·cases e : inR xa 0 3
   ·exact .inr (.inr ⟨h, rfl⟩)
   ·exact .inr (.inl ⟨h, rfl⟩)
 have ho : xo = 0 ∨ (xo ≠ 0 ∧ inR xo 0 3 = true) ∨ (xo ≠ 0 ∧ inR xo 0 3 = false) := by
  rcases Decidable.em (xo = 0) with h | h
  ·exact .inl h
  ·cases e : inR xo 0 3
   ·exact .inr (.inr ⟨h, rfl⟩)
   ·exact .inr (.inl ⟨h, rfl⟩)
 rcases ha with rfl | ⟨ha0, haR⟩ | ⟨ha0, haR⟩
 ·rcases ho with rfl | ⟨ho0, hoR⟩ | ⟨ho0, hoR⟩
  ·have HN : Hid (stepT ⟨4, 0, 0⟩ = ⟨#[77]⟩ ++ varT 0) := by show _ = _; simp [stepT, h00]
   have hB := (Below.refl w.heap.size w).alloc (Nat.le_refl _) (.cells #[.int .i64 4, .int .i64 0, .int .i64 0] 113)
   have bxx := Bx.new w [.int .i64 4, .int .i64 0, .int .i64 0] 113
   have kx_0 := bxx 0 _ rfl
   have kx_1 := bxx 1 _ rfl
   have kx_2 := bxx 2 _ rfl
   have KV := Lib.hid (fun W => iVariableName_c 0 W)
   have zV := varT_le 0
   obtain ⟨F1, hF1⟩ : ∃ F, F = varT 0 := ⟨_, rfl⟩
   rw [← hF1] at KV zV
   have HF1 := Lib.hid hF1; clear hF1
   have n1 : ¬ 9223372036854775807 < 1 + F1.size := by omega
   go_enter Tryd.func64, Tryd.ntmps64
   go_wp2_with (first | (go_at_call 46; refine (within_c _ _ _ _).mono ?_; rintro e w' ⟨rfl, rfl⟩) | (go_at_call 78; refine (KV.out _).mono ?_; rintro e w' ⟨rfl, rfl⟩))
   go_ret
   exact ⟨by rw [HN.out, ← HF1.out]; rfl, hB⟩
  ·have HN : Hid (stepT ⟨4, 0, xo⟩ = ⟨#[77]⟩ ++ varT xo) := by show _ = _; simp [stepT, h00, ho0, hoR]
   have qo0 : (xo == 0) = false := by simp [ho0]
   have hB := (Below.refl w.heap.size w).alloc (Nat.le_refl _) (.cells #[.int .i64 4, .int .i64 0, .int .i64 xo] 113)
   have bxx := Bx.new w [.int .i64 4, .int .i64 0, .int .i64 xo] 113
   have kx_0 := bxx 0 _ rfl
   have kx_1 := bxx 1 _ rfl
   have kx_2 := bxx 2 _ rfl
   have KV := Lib.hid (fun W => iVariableName_c xo W)
   have zV := varT_le xo
   obtain ⟨F1, hF1⟩ : ∃ F, F = varT xo := ⟨_, rfl⟩
   rw [← hF1] at KV zV
   have HF1 := Lib.hid hF1; clear hF1
   have n1 : ¬ 9223372036854775807 < 1 + F1.size := by omega
   go_enter Tryd.func64, Tryd.ntmps64
   go_wp2_with (first | (go_at_call 46; refine (within_c _ _ _ _).mono ?_; rintro e w' ⟨rfl, rfl⟩) | (go_at_call 78; refine (KV.out _).mono ?_; rintro e w' ⟨rfl, rfl⟩))
   go_ret
   exact ⟨by rw [HN.out, ← HF1.out]; rfl, hB⟩
  ·have HN : Hid (stepT ⟨4, 0, xo⟩ = ⟨#[]⟩) := by show _ = _; simp [stepT, h00, ho0, hoR]
   have qo0 : (xo == 0) = false := by simp [ho0]
   have hB := (Below.refl w.heap.size w).alloc (Nat.le_refl _) (.cells #[.int .i64 4, .int .i64 0, .int .i64 xo] 113)
   have bxx := Bx.new w [.int .i64 4, .int .i64 0, .int .i64 xo] 113
   have kx_0 := bxx 0 _ rfl
   have kx_1 := bxx 1 _ rfl
   have kx_2 := bxx 2 _ rfl
   go_enter Tryd.func64, Tryd.ntmps64
   go_wp2_with (first | (go_at_call 46; refine (within_c _ _ _ _).mono ?_; rintro e w' ⟨rfl, rfl⟩))
   go_ret
   exact ⟨by rw [HN.out]; rfl, hB⟩
 ·rcases ho with rfl | ⟨ho0, hoR⟩ | ⟨ho0, hoR⟩
  ·have HN : Hid (stepT ⟨4, xa, 0⟩ = ⟨#[]⟩) := by show _ = _; simp [stepT, h00, ha0, haR]
   have qa0 : (xa != 0) = true := by simp [ha0]
   have qa1 : (xa == 0) = false := by simp [ha0]
   have hB := (Below.refl w.heap.size w).alloc (Nat.le_refl _) (.cells #[.int .i64 4, .int .i64 xa, .int .i64 0] 113)
   have bxx := Bx.new w [.int .i64 4, .int .i64 xa, .int .i64 0] 113
   have kx_0 := bxx 0 _ rfl
   have kx_1 := bxx 1 _ rfl
   have kx_2 := bxx 2 _ rfl
   go_enter Tryd.func64, Tryd.ntmps64
   go_wp2_with (first | (go_at_call 46; refine (within_c _ _ _ _).mono ?_; rintro e w' ⟨rfl, rfl⟩))
   go_ret
   exact ⟨by rw [HN.out]; rfl, hB⟩
  ·have HN : Hid (stepT ⟨4, xa, xo⟩ = ⟨#[]⟩) := by show _ = _; simp [stepT, h00, ha0, haR, ho0, hoR]
   have qa0 : (xa != 0) = true := by simp [ha0]
   have qa1 : (xa == 0) = false := by simp [ha0]
   have qo0 : (xo == 0) = false := by simp [ho0]
   have hB := (Below.refl w.heap.size w).alloc (Nat.le_refl _) (.cells #[.int .i64 4, .int .i64 xa, .int .i64 xo] 113)
   have bxx := Bx.new w [.int .i64 4, .int .i64 xa, .int .i64 xo] 113
   have kx_0 := bxx 0 _ rfl
   have kx_1 := bxx 1 _ rfl
   have kx_2 := bxx 2 _ rfl
   go_enter Tryd.func64, Tryd.ntmps64
   go_wp2_with (first | (go_at_call 46; refine (within_c _ _ _ _).mono ?_; rintro e w' ⟨rfl, rfl⟩))
   go_ret
   exact ⟨by rw [HN.out]; rfl, hB⟩
  ·have HN : Hid (stepT ⟨4, xa, xo⟩ = ⟨#[]⟩) := by show _ = _; simp [stepT, h00, ha0, haR, ho0, hoR]
   have qa0 : (xa != 0) = true := by simp [ha0]
   have qa1 : (xa == 0) = false := by simp [ha0]
   have qo0 : (xo == 0) = false := by simp [ho0]
   have hB := (Below.refl w.heap.size w).alloc (Nat.le_refl _) (.cells #[.int .i64 4, .int .i64 xa, .int .i64 xo] 113)
   have bxx := Bx.new w [.int .i64 4, .int .i64 xa, .int .i64 xo] 113
   have kx_0 := bxx 0 _ rfl
   have kx_1 := bxx 1 _ rfl
   have kx_2 := bxx 2 _ rfl
   go_enter Tryd.func64, Tryd.ntmps64
   go_wp2_with (first | (go_at_call 46; refine (within_c _ _ _ _).mono ?_; rintro e w' ⟨rfl, rfl⟩))
   go_ret
   exact ⟨by rw [HN.out]; rfl, hB⟩
 ·rcases ho with rfl | ⟨ho0, hoR⟩ | ⟨ho0, hoR⟩
  ·have HN : Hid (stepT ⟨4, xa, 0⟩ = ⟨#[]⟩) := by show _ = _; simp [stepT, h00, ha0, haR]
   have qa0 : (xa != 0) = true := by simp [ha0]
   have qa1 : (xa == 0) = false := by simp [ha0]
   have hB := (Below.refl w.heap.size w).alloc (Nat.le_refl _) (.cells #[.int .i64 4, .int .i64 xa, .int .i64 0] 113)
   have bxx := Bx.new w [.int .i64 4, .int .i64 xa, .int .i64 0] 113
   have kx_0 := bxx 0 _ rfl
   have kx_1 := bxx 1 _ rfl
   have kx_2 := bxx 2 _ rfl
   go_enter Tryd.func64, Tryd.ntmps64
   go_wp2_with (first | (go_at_call 46; refine (within_c _ _ _ _).mono ?_; rintro e w' ⟨rfl, rfl⟩))
   go_ret
   exact ⟨by rw [HN.out]; rfl, hB⟩
  ·have HN : Hid (stepT ⟨4, xa, xo⟩ = ⟨#[]⟩) := by show _ = _; simp [stepT, h00, ha0, haR, ho0, hoR]
   have qa0 : (xa != 0) = true := by simp [ha0]
   have qa1 : (xa == 0) = false := by simp [ha0]
   have qo0 : (xo == 0) = false := by simp [ho0]
   have hB := (Below.refl w.heap.size w).alloc (Nat.le_refl _) (.cells #[.int .i64 4, .int .i64 xa, .int .i64 xo] 113)
   have bxx := Bx.new w [.int .i64 4, .int .i64 xa, .int .i64 xo] 113
   have kx_0 := bxx 0 _ rfl
   have kx_1 := bxx 1 _ rfl
   have kx_2 := bxx 2 _ rfl
   go_enter Tryd.func64, Tryd.ntmps64
   go_wp2_with (first | (go_at_call 46; refine (within_c _ _ _ _).mono ?_; rintro e w' ⟨rfl, rfl⟩))
   go_ret
   exact ⟨by rw [HN.out]; rfl, hB⟩
  ·have HN : Hid (stepT ⟨4, xa, xo⟩ = ⟨#[]⟩) := by show _ = _; simp [stepT, h00, ha0, haR, ho0, hoR]
   have qa0 : (xa != 0) = true := by simp [ha0]
   have qa1 : (xa == 0) = false := by simp [ha0]
   have qo0 : (xo == 0) = false := by simp [ho0]
   have hB := (Below.refl w.heap.size w).alloc (Nat.le_refl _) (.cells #[.int .i64 4, .int .i64 xa, .int .i64 xo] 113)
   have bxx := Bx.new w [.int .i64 4, .int .i64 xa, .int .i64 xo] 113
   have kx_0 := bxx 0 _ rfl
   have kx_1 := bxx 1 _ rfl
   have kx_2 := bxx 2 _ rfl
   go_enter Tryd.func64, Tryd.ntmps64
   go_wp2_with (first | (go_at_call 46; refine (within_c _ _ _ _).mono ?_; rintro e w' ⟨rfl, rfl⟩))
   go_ret
   exact ⟨by rw [HN.out]; rfl, hB⟩
set_option maxRecDepth 100000 in
set_option maxHeartbeats 6400000 in
theorem iStep5_c (xa xo : Int) (w : World) (iA : I64 xa) (ht : Tab w) : Calls Tryd.prog 64 #[.agg #[.int .i64 5, .int .i64 xa, .int .i64 xo]] w fun e w' => e = .returned (.string (stepT ⟨5, xa, xo⟩)) ∧ Below w.heap.size w w' := by
 have h00 : inR 0 0 3 = true := rfl
 have ha : xa = 0 ∨ (xa ≠ 0 ∧ inR xa 0 3 = true) ∨ (xa ≠ 0 ∧ inR xa 0 3 = false) := by
  rcases Decidable.em (xa = 0) with h | h
  ·exact .inl h
  ·cases e : inR xa 0 3
   ·exact .inr (.inr ⟨h, rfl⟩)
   ·exact .inr (.inl ⟨h, rfl⟩)
 have ho : xo = 0 ∨ (xo ≠ 0 ∧ inR xo 0 3 = true) ∨ (xo ≠ 0 ∧ inR xo 0 3 = false) := by
  rcases Decidable.em (xo = 0) with h | h
  ·exact .inl h
  ·cases e : inR xo 0 3
   ·exact .inr (.inr ⟨h, rfl⟩)
   ·exact .inr (.inl ⟨h, rfl⟩)
 rcases ha with rfl | ⟨ha0, haR⟩ | ⟨ha0, haR⟩
 ·rcases ho with rfl | ⟨ho0, hoR⟩ | ⟨ho0, hoR⟩
  ·have HN : Hid (stepT ⟨5, 0, 0⟩ = ⟨#[78]⟩) := by show _ = _; simp [stepT, h00]
   have hB := (Below.refl w.heap.size w).alloc (Nat.le_refl _) (.cells #[.int .i64 5, .int .i64 0, .int .i64 0] 113)
   have bxx := Bx.new w [.int .i64 5, .int .i64 0, .int .i64 0] 113
   have kx_0 := bxx 0 _ rfl
   have kx_1 := bxx 1 _ rfl
   have kx_2 := bxx 2 _ rfl
   go_enter Tryd.func64, Tryd.ntmps64
   go_wp2_with (first | (go_at_call 46; refine (within_c _ _ _ _).mono ?_; rintro e w' ⟨rfl, rfl⟩))
   go_ret
   exact ⟨by rw [HN.out]; rfl, hB⟩
  ·have HN : Hid (stepT ⟨5, 0, xo⟩ = ⟨#[]⟩) := by show _ = _; simp [stepT, h00, ho0, hoR]
   have qo0 : (xo == 0) = false := by simp [ho0]
   have hB := (Below.refl w.heap.size w).alloc (Nat.le_refl _) (.cells #[.int .i64 5, .int .i64 0, .int .i64 xo] 113)
   have bxx := Bx.new w [.int .i64 5, .int .i64 0, .int .i64 xo] 113
   have kx_0 := bxx 0 _ rfl
   have kx_1 := bxx 1 _ rfl
   have kx_2 := bxx 2 _ rfl
   go_enter Tryd.func64, Tryd.ntmps64
   go_wp2_with (first | (go_at_call 46; refine (within_c _ _ _ _).mono ?_; rintro e w' ⟨rfl, rfl⟩))
   go_ret
   exact ⟨by rw [HN.out]; rfl, hB⟩
  ·have HN : Hid (stepT ⟨5, 0, xo⟩ = ⟨#[]⟩) := by show _ = _; simp [stepT, h00, ho0, hoR]
   have qo0 : (xo == 0) = false := by simp [ho0]
   have hB := (Below.refl w.heap.size w).alloc (Nat.le_refl _) (.cells #[.int .i64 5, .int .i64 0, .int .i64 xo] 113)
   have bxx := Bx.new w [.int .i64 5, .int .i64 0, .int .i64 xo] 113
   have kx_0 := bxx 0 _ rfl
   have kx_1 := bxx 1 _ rfl
   have kx_2 := bxx 2 _ rfl
   go_enter Tryd.func64, Tryd.ntmps64
   go_wp2_with (first | (go_at_call 46; refine (within_c _ _ _ _).mono ?_; rintro e w' ⟨rfl, rfl⟩))
   go_ret
   exact ⟨by rw [HN.out]; rfl, hB⟩
 ·rcases ho with rfl | ⟨ho0, hoR⟩ | ⟨ho0, hoR⟩
  ·have HN : Hid (stepT ⟨5, xa, 0⟩ = ⟨#[]⟩) := by show _ = _; simp [stepT, h00, ha0, haR]
   have qa0 : (xa != 0) = true := by simp [ha0]
   have qa1 : (xa == 0) = false := by simp [ha0]
   have hB := (Below.refl w.heap.size w).alloc (Nat.le_refl _) (.cells #[.int .i64 5, .int .i64 xa, .int .i64 0] 113)
   have bxx := Bx.new w [.int .i64 5, .int .i64 xa, .int .i64 0] 113
   have kx_0 := bxx 0 _ rfl
   have kx_1 := bxx 1 _ rfl
   have kx_2 := bxx 2 _ rfl
   go_enter Tryd.func64, Tryd.ntmps64
   go_wp2_with (first | (go_at_call 46; refine (within_c _ _ _ _).mono ?_; rintro e w' ⟨rfl, rfl⟩))
   go_ret
   exact ⟨by rw [HN.out]; rfl, hB⟩
  ·have HN : Hid (stepT ⟨5, xa, xo⟩ = ⟨#[]⟩) := by show _ = _; simp [stepT, h00, ha0, haR, ho0, hoR]
   have qa0 : (xa != 0) = true := by simp [ha0]
   have qa1 : (xa == 0) = false := by simp [ha0]
   have qo0 : (xo == 0) = false := by simp [ho0]
   have hB := (Below.refl w.heap.size w).alloc (Nat.le_refl _) (.cells #[.int .i64 5, .int .i64 xa, .int .i64 xo] 113)
   have bxx := Bx.new w [.int .i64 5, .int .i64 xa, .int .i64 xo] 113
   have kx_0 := bxx 0 _ rfl
   have kx_1 := bxx 1 _ rfl
   have kx_2 := bxx 2 _ rfl
   go_enter Tryd.func64, Tryd.ntmps64
   go_wp2_with (first | (go_at_call 46; refine (within_c _ _ _ _).mono ?_; rintro e w' ⟨rfl, rfl⟩))
   go_ret
   exact ⟨by rw [HN.out]; rfl, hB⟩
  ·have HN : Hid (stepT ⟨5, xa, xo⟩ = ⟨#[]⟩) := by show _ = _; simp [stepT, h00, ha0, haR, ho0, hoR]
   have qa0 : (xa != 0) = true := by simp [ha0]
   have qa1 : (xa == 0) = false := by simp [ha0]
   have qo0 : (xo == 0) = false := by simp [ho0]
   have hB := (Below.refl w.heap.size w).alloc (Nat.le_refl _) (.cells #[.int .i64 5, .int .i64 xa, .int .i64 xo] 113)
   have bxx := Bx.new w [.int .i64 5, .int .i64 xa, .int .i64 xo] 113
   have kx_0 := bxx 0 _ rfl
   have kx_1 := bxx 1 _ rfl
   have kx_2 := bxx 2 _ rfl
   go_enter Tryd.func64, Tryd.ntmps64
   go_wp2_with (first | (go_at_call 46; refine (within_c _ _ _ _).mono ?_; rintro e w' ⟨rfl, rfl⟩))
   go_ret
   exact ⟨by rw [HN.out]; rfl, hB⟩
 ·rcases ho with rfl | ⟨ho0, hoR⟩ | ⟨ho0, hoR⟩
  ·have HN : Hid (stepT ⟨5, xa, 0⟩ = ⟨#[]⟩) := by show _ = _; simp [stepT, h00, ha0, haR]
   have qa0 : (xa != 0) = true := by simp [ha0]
   have qa1 : (xa == 0) = false := by simp [ha0]
   have hB := (Below.refl w.heap.size w).alloc (Nat.le_refl _) (.cells #[.int .i64 5, .int .i64 xa, .int .i64 0] 113)
   have bxx := Bx.new w [.int .i64 5, .int .i64 xa, .int .i64 0] 113
   have kx_0 := bxx 0 _ rfl
   have kx_1 := bxx 1 _ rfl
   have kx_2 := bxx 2 _ rfl
   go_enter Tryd.func64, Tryd.ntmps64
   go_wp2_with (first | (go_at_call 46; refine (within_c _ _ _ _).mono ?_; rintro e w' ⟨rfl, rfl⟩))
   go_ret
   exact ⟨by rw [HN.out]; rfl, hB⟩
  ·have HN : Hid (stepT ⟨5, xa, xo⟩ = ⟨#[]⟩) := by show _ = _; simp [stepT, h00, ha0, haR, ho0, hoR]
   have qa0 : (xa != 0) = true := by simp [ha0]
   have qa1 : (xa == 0) = false := by simp [ha0]
   have qo0 : (xo == 0) = false := by simp [ho0]
   have hB := (Below.refl w.heap.size w).alloc (Nat.le_refl _) (.cells #[.int .i64 5, .int .i64 xa, .int .i64 xo] 113)
   have bxx := Bx.new w [.int .i64 5, .int .i64 xa, .int .i64 xo] 113
   have kx_0 := bxx 0 _ rfl
   have kx_1 := bxx 1 _ rfl
   have kx_2 := bxx 2 _ rfl
   go_enter Tryd.func64, Tryd.ntmps64
   go_wp2_with (first | (go_at_call 46; refine (within_c _ _ _ _).mono ?_; rintro e w' ⟨rfl, rfl⟩))
   go_ret
   exact ⟨by rw [HN.out]; rfl, hB⟩
  ·have HN : Hid (stepT ⟨5, xa, xo⟩ = ⟨#[]⟩) := by show _ = _; simp [stepT, h00, ha0, haR, ho0, hoR]
   have qa0 : (xa != 0) = true := by simp [ha0]
   have qa1 : (xa == 0) = false := by simp [ha0]
   have qo0 : (xo == 0) = false := by simp [ho0]
   have hB := (Below.refl w.heap.size w).alloc (Nat.le_refl _) (.cells #[.int .i64 5, .int .i64 xa, .int .i64 xo] 113)
   have bxx := Bx.new w [.int .i64 5, .int .i64 xa, .int .i64 xo] 113
   have kx_0 := bxx 0 _ rfl
   have kx_1 := bxx 1 _ rfl
   have kx_2 := bxx 2 _ rfl
   go_enter Tryd.func64, Tryd.ntmps64
   go_wp2_with (first | (go_at_call 46; refine (within_c _ _ _ _).mono ?_; rintro e w' ⟨rfl, rfl⟩))
   go_ret
   exact ⟨by rw [HN.out]; rfl, hB⟩
set_option maxRecDepth 100000 in
set_option maxHeartbeats 6400000 in
theorem iStep0_c (xk : Int) (hk1 : xk ≠ 1) (hk2 : xk ≠ 2) (hk3 : xk ≠ 3) (hk4 : xk ≠ 4) (hk5 : xk ≠ 5) (xa xo : Int) (w : World) (iA : I64 xa) (ht : Tab w) : Calls Tryd.prog 64 #[.agg #[.int .i64 xk, .int .i64 xa, .int .i64 xo]] w fun e w' => e = .returned (.string (stepT ⟨xk, xa, xo⟩)) ∧ Below w.heap.size w w' := by
 have h00 : inR 0 0 3 = true := rfl
 have ha : xa = 0 ∨ (xa ≠ 0 ∧ inR xa 0 3 = true) ∨ (xa ≠ 0 ∧ inR xa 0 3 = false) := by
  rcases Decidable.em (xa = 0) with h | h
  ·exact .inl h
  ·cases e : inR xa 0 3
   ·exact .inr (.inr ⟨h, rfl⟩)
   ·exact .inr (.inl ⟨h, rfl⟩)
 have ho : xo = 0 ∨ (xo ≠ 0 ∧ inR xo 0 3 = true) ∨ (xo ≠ 0 ∧ inR xo 0 3 = false) := by
  rcases Decidable.em (xo = 0) with h | h
  ·exact .inl h
  ·cases e : inR xo 0 3
   ·exact .inr (.inr ⟨h, rfl⟩)
   ·exact .inr (.inl ⟨h, rfl⟩)
 have qk1 : (xk == 1) = false := by simp [hk1]
 have qk2 : (xk == 2) = false := by simp [hk2]
 have qk3 : (xk == 3) = false := by simp [hk3]
 have qk4 : (xk == 4) = false := by simp [hk4]
 have qk5 : (xk == 5) = false := by simp [hk5]
 rcases ha with rfl | ⟨ha0, haR⟩ | ⟨ha0, haR⟩
 ·rcases ho with rfl | ⟨ho0, hoR⟩ | ⟨ho0, hoR⟩
  ·have HN : Hid (stepT ⟨xk, 0, 0⟩ = ⟨#[]⟩) := by show _ = _; simp [stepT, h00, hk1, hk2, hk3, hk4, hk5]
   have hB := (Below.refl w.heap.size w).alloc (Nat.le_refl _) (.cells #[.int .i64 xk, .int .i64 0, .int .i64 0] 113)
   have bxx := Bx.new w [.int .i64 xk, .int .i64 0, .int .i64 0] 113
   have kx_0 := bxx 0 _ rfl
   have kx_1 := bxx 1 _ rfl
   have kx_2 := bxx 2 _ rfl
   go_enter Tryd.func64, Tryd.ntmps64
   go_wp2_with (first | (go_at_call 46; refine (within_c _ _ _ _).mono ?_; rintro e w' ⟨rfl, rfl⟩))
   go_ret
   exact ⟨by rw [HN.out]; rfl, hB⟩
  ·have HN : Hid (stepT ⟨xk, 0, xo⟩ = ⟨#[]⟩) := by show _ = _; simp [stepT, h00, ho0, hoR, hk1, hk2, hk3, hk4, hk5]
   have qo0 : (xo == 0) = false := by simp [ho0]
   have hB := (Below.refl w.heap.size w).alloc (Nat.le_refl _) (.cells #[.int .i64 xk, .int .i64 0, .int .i64 xo] 113)
   have bxx := Bx.new w [.int .i64 xk, .int .i64 0, .int .i64 xo] 113
   have kx_0 := bxx 0 _ rfl
   have kx_1 := bxx 1 _ rfl
   have kx_2 := bxx 2 _ rfl
   go_enter Tryd.func64, Tryd.ntmps64
   go_wp2_with (first | (go_at_call 46; refine (within_c _ _ _ _).mono ?_; rintro e w' ⟨rfl, rfl⟩))
   go_ret
   exact ⟨by rw [HN.out]; rfl, hB⟩
  ·have HN : Hid (stepT ⟨xk, 0, xo⟩ = ⟨#[]⟩) := by show _ = _; simp [stepT, h00, ho0, hoR, hk1, hk2, hk3, hk4, hk5]
   have qo0 : (xo == 0) = false := by simp [ho0]
   have hB := (Below.refl w.heap.size w).alloc (Nat.le_refl _) (.cells #[.int .i64 xk, .int .i64 0, .int .i64 xo] 113)
   have bxx := Bx.new w [.int .i64 xk, .int .i64 0, .int .i64 xo] 113
   have kx_0 := bxx 0 _ rfl
   have kx_1 := bxx 1 _ rfl
   have kx_2 := bxx 2 _ rfl
   go_enter Tryd.func64, Tryd.ntmps64
   go_wp2_with (first | (go_at_call 46; refine (within_c _ _ _ _).mono ?_; rintro e w' ⟨rfl, rfl⟩))
   go_ret
   exact ⟨by rw [HN.out]; rfl, hB⟩
 ·rcases ho with rfl | ⟨ho0, hoR⟩ | ⟨ho0, hoR⟩
  ·have HN : Hid (stepT ⟨xk, xa, 0⟩ = ⟨#[]⟩) := by show _ = _; simp [stepT, h00, ha0, haR, hk1, hk2, hk3, hk4, hk5]
   have qa0 : (xa != 0) = true := by simp [ha0]
   have qa1 : (xa == 0) = false := by simp [ha0]
   have hB := (Below.refl w.heap.size w).alloc (Nat.le_refl _) (.cells #[.int .i64 xk, .int .i64 xa, .int .i64 0] 113)
   have bxx := Bx.new w [.int .i64 xk, .int .i64 xa, .int .i64 0] 113
   have kx_0 := bxx 0 _ rfl
   have kx_1 := bxx 1 _ rfl
   have kx_2 := bxx 2 _ rfl
   go_enter Tryd.func64, Tryd.ntmps64
   go_wp2_with (first | (go_at_call 46; refine (within_c _ _ _ _).mono ?_; rintro e w' ⟨rfl, rfl⟩))
   go_ret
   exact ⟨by rw [HN.out]; rfl, hB⟩
  ·have HN : Hid (stepT ⟨xk, xa, xo⟩ = ⟨#[]⟩) := by show _ = _; simp [stepT, h00, ha0, haR, ho0, hoR, hk1, hk2, hk3, hk4, hk5]
   have qa0 : (xa != 0) = true := by simp [ha0]
   have qa1 : (xa == 0) = false := by simp [ha0]
   have qo0 : (xo == 0) = false := by simp [ho0]
   have hB := (Below.refl w.heap.size w).alloc (Nat.le_refl _) (.cells #[.int .i64 xk, .int .i64 xa, .int .i64 xo] 113)
   have bxx := Bx.new w [.int .i64 xk, .int .i64 xa, .int .i64 xo] 113
   have kx_0 := bxx 0 _ rfl
   have kx_1 := bxx 1 _ rfl
   have kx_2 := bxx 2 _ rfl
   go_enter Tryd.func64, Tryd.ntmps64
   go_wp2_with (first | (go_at_call 46; refine (within_c _ _ _ _).mono ?_; rintro e w' ⟨rfl, rfl⟩))
   go_ret
   exact ⟨by rw [HN.out]; rfl, hB⟩
  ·have HN : Hid (stepT ⟨xk, xa, xo⟩ = ⟨#[]⟩) := by show _ = _; simp [stepT, h00, ha0, haR, ho0, hoR, hk1, hk2, hk3, hk4, hk5]
   have qa0 : (xa != 0) = true := by simp [ha0]
   have qa1 : (xa == 0) = false := by simp [ha0]
   have qo0 : (xo == 0) = false := by simp [ho0]
   have hB := (Below.refl w.heap.size w).alloc (Nat.le_refl _) (.cells #[.int .i64 xk, .int .i64 xa, .int .i64 xo] 113)
   have bxx := Bx.new w [.int .i64 xk, .int .i64 xa, .int .i64 xo] 113
   have kx_0 := bxx 0 _ rfl
   have kx_1 := bxx 1 _ rfl
   have kx_2 := bxx 2 _ rfl
   go_enter Tryd.func64, Tryd.ntmps64
   go_wp2_with (first | (go_at_call 46; refine (within_c _ _ _ _).mono ?_; rintro e w' ⟨rfl, rfl⟩))
   go_ret
   exact ⟨by rw [HN.out]; rfl, hB⟩
 ·rcases ho with rfl | ⟨ho0, hoR⟩ | ⟨ho0, hoR⟩
  ·have HN : Hid (stepT ⟨xk, xa, 0⟩ = ⟨#[]⟩) := by show _ = _; simp [stepT, h00, ha0, haR, hk1, hk2, hk3, hk4, hk5]
   have qa0 : (xa != 0) = true := by simp [ha0]
   have qa1 : (xa == 0) = false := by simp [ha0]
   have hB := (Below.refl w.heap.size w).alloc (Nat.le_refl _) (.cells #[.int .i64 xk, .int .i64 xa, .int .i64 0] 113)
   have bxx := Bx.new w [.int .i64 xk, .int .i64 xa, .int .i64 0] 113
   have kx_0 := bxx 0 _ rfl
   have kx_1 := bxx 1 _ rfl
   have kx_2 := bxx 2 _ rfl
   go_enter Tryd.func64, Tryd.ntmps64
   go_wp2_with (first | (go_at_call 46; refine (within_c _ _ _ _).mono ?_; rintro e w' ⟨rfl, rfl⟩))
   go_ret
   exact ⟨by rw [HN.out]; rfl, hB⟩
  ·have HN : Hid (stepT ⟨xk, xa, xo⟩ = ⟨#[]⟩) := by show _ = _; simp [stepT, h00, ha0, haR, ho0, hoR, hk1, hk2, hk3, hk4, hk5]
   have qa0 : (xa != 0) = true := by simp [ha0]
   have qa1 : (xa == 0) = false := by simp [ha0]
   have qo0 : (xo == 0) = false := by simp [ho0]
   have hB := (Below.refl w.heap.size w).alloc (Nat.le_refl _) (.cells #[.int .i64 xk, .int .i64 xa, .int .i64 xo] 113)
   have bxx := Bx.new w [.int .i64 xk, .int .i64 xa, .int .i64 xo] 113
   have kx_0 := bxx 0 _ rfl
   have kx_1 := bxx 1 _ rfl
   have kx_2 := bxx 2 _ rfl
   go_enter Tryd.func64, Tryd.ntmps64
   go_wp2_with (first | (go_at_call 46; refine (within_c _ _ _ _).mono ?_; rintro e w' ⟨rfl, rfl⟩))
   go_ret
   exact ⟨by rw [HN.out]; rfl, hB⟩
  ·have HN : Hid (stepT ⟨xk, xa, xo⟩ = ⟨#[]⟩) := by show _ = _; simp [stepT, h00, ha0, haR, ho0, hoR, hk1, hk2, hk3, hk4, hk5]
   have qa0 : (xa != 0) = true := by simp [ha0]
   have qa1 : (xa == 0) = false := by simp [ha0]
   have qo0 : (xo == 0) = false := by simp [ho0]
   have hB := (Below.refl w.heap.size w).alloc (Nat.le_refl _) (.cells #[.int .i64 xk, .int .i64 xa, .int .i64 xo] 113)
   have bxx := Bx.new w [.int .i64 xk, .int .i64 xa, .int .i64 xo] 113
   have kx_0 := bxx 0 _ rfl
   have kx_1 := bxx 1 _ rfl
   have kx_2 := bxx 2 _ rfl
   go_enter Tryd.func64, Tryd.ntmps64
   go_wp2_with (first | (go_at_call 46; refine (within_c _ _ _ _).mono ?_; rintro e w' ⟨rfl, rfl⟩))
   go_ret
   exact ⟨by rw [HN.out]; rfl, hB⟩
theorem sStepText_c (cs : List Value) (x : PlanStepD) (w : World) (hx : (rPlanStep NB).rep w cs x) : Calls Tryd.prog 60 #[.agg cs.toArray] w fun e w' => e = .returned (.string (stepT x)) ∧ Below w.heap.size w w' := by
 obtain ⟨rfl, i0, i1, i2⟩ := rPlanStep_rep.1 hx
 obtain ⟨xk, xa, xo⟩ := x
 rcases Decidable.em (xk = 1) with rfl | h1
 ·exact sStep1_c xa xo w i1
 rcases Decidable.em (xk = 2) with rfl | h2
 ·exact sStep2_c xa xo w i1
 rcases Decidable.em (xk = 3) with rfl | h3
 ·exact sStep3_c xa xo w i1
 rcases Decidable.em (xk = 4) with rfl | h4
 ·exact sStep4_c xa xo w i1
 rcases Decidable.em (xk = 5) with rfl | h5
 ·exact sStep5_c xa xo w i1
 exact sStep0_c xk h1 h2 h3 h4 h5 xa xo w i1
theorem iStepText_c (cs : List Value) (x : PlanStepD) (w : World) (hx : (rPlanStep NB).rep w cs x) (ht : Tab w) : Calls Tryd.prog 64 #[.agg cs.toArray] w fun e w' => e = .returned (.string (stepT x)) ∧ Below w.heap.size w w' := by
 obtain ⟨rfl, i0, i1, i2⟩ := rPlanStep_rep.1 hx
 obtain ⟨xk, xa, xo⟩ := x
 rcases Decidable.em (xk = 1) with rfl | h1
 ·exact iStep1_c xa xo w i1 ht
 rcases Decidable.em (xk = 2) with rfl | h2
 ·exact iStep2_c xa xo w i1 ht
 rcases Decidable.em (xk = 3) with rfl | h3
 ·exact iStep3_c xa xo w i1 ht
 rcases Decidable.em (xk = 4) with rfl | h4
 ·exact iStep4_c xa xo w i1 ht
 rcases Decidable.em (xk = 5) with rfl | h5
 ·exact iStep5_c xa xo w i1 ht
 exact iStep0_c xk h1 h2 h3 h4 h5 xa xo w i1 ht
end Go.Proofs.YtnbikckbnbgjkaaDoor
