/-
  Fmt
-/
import Derived.Test.YtnbikckbnbgjkaaDoorText
import Derived.Lib.ItoaNum
import Derived.Lib.ItoaLen
namespace Go.Proofs.YtnbikckbnbgjkaaDoor
open Go.RowKit
set_option linter.unusedVariables false
set_option linter.unusedSimpArgs false

/-- the decimal text of n -/
def fmtI (n : Int) : ByteArray := ⟨(Lib.itoa n).toArray⟩
theorem fmtI_le {n : Int} (h : I64 n) : (fmtI n).size ≤ 21 := by
 have := Lib.itoa_length_le n h.1 h.2
 show (Lib.itoa n).toArray.size ≤ 21
 rw [List.size_toArray]; exact this
theorem digB_eq (k : Nat) : digB k = UInt8.ofNat (48 + k % 10) := rfl
theorem digF_dec {f : Nat} : ∀ {k : Nat} {out : ByteArray}, 0 < k → k < 10 ^ f → digF f k out = ⟨(Lib.decDigits k).toArray⟩ ++ out := by
 induction f with
 | zero => intro k out h1 h2; simp at h2; omega
 | succ f ih =>
  intro k out h1 h2
  rw [digF_step (by omega)]
  rw [Nat.pow_succ] at h2
  by_cases h : k < 10
  ·rw [show k / 10 = 0 by omega, digF_zero, Lib.decDigits, dif_pos h, digB_eq, show k % 10 = k by omega]
  ·rw [ih (by omega) (by omega), Lib.decDigits.eq_1 k, dif_neg h, digB_eq]
   rw [← ByteArray.append_assoc]
   congr 1
theorem digF_all {k : Nat} (h1 : 0 < k) (h2 : k < 10 ^ 19) : digF 19 k ⟨#[]⟩ = ⟨(Lib.decDigits k).toArray⟩ := by
 rw [digF_dec h1 h2]; apply ByteArray.ext; simp
theorem fmtI_zero : fmtI 0 = ⟨#[48]⟩ := by
 unfold fmtI Lib.itoa; rw [if_neg (by omega), show (0 : Int).toNat = 0 from rfl, Lib.decDigits, dif_pos (by omega)]; rfl
theorem fmtI_pos {j : Nat} (h1 : 0 < j) (h2 : j < 10 ^ 19) : fmtI (j : Int) = digF 19 j ⟨#[]⟩ := by
 unfold fmtI Lib.itoa; rw [if_neg (by omega), Int.toNat_natCast, digF_all h1 h2]
theorem fmtI_neg {j : Nat} (h1 : 0 < j) (h2 : j < 10 ^ 19) : fmtI (-(j : Int)) = ⟨#[45]⟩ ++ digF 19 j ⟨#[]⟩ := by
 unfold fmtI Lib.itoa; rw [if_pos (by omega), Int.natAbs_neg, Int.natAbs_natCast, digF_all h1 h2]; apply ByteArray.ext; simp
theorem conv_byte (wr : World) (t : Nat) : (convert 98 9 (.slice (some ⟨wr.heap.size, 0, none⟩) 1 1)).run Tryd.prog (wr.alloc (.cells #[.int .u8 (48 + (t : Int) % 10)] 5)) = .ok (.string ⟨#[digB t]⟩) (wr.alloc (.cells #[.int .u8 (48 + (t : Int) % 10)] 5)) := by
 refine run_convert_bytes_back (P := Tryd.prog) _ _ _ 5 ⟨wr.heap.size, 0, none⟩ 1 [digB t] Tryd.underlying98 Tryd.underlying5 Tryd.underlying9 (fun i hi => ?_)
 match i, hi with
 | 0, _ =>
  have h1 := cells_new wr 5 [Value.int IntKind.u8 (48 + (t : Int) % 10)] 0 (Value.int IntKind.u8 (48 + (t : Int) % 10)) rfl
  have e : ((digB t).toNat : Int) = 48 + (t : Int) % 10 := by unfold digB; rw [UInt8.toNat_ofNat']; omega
  show _ = some (Value.int IntKind.u8 ((digB t).toNat : Int))
  rw [e]; exact h1
set_option maxRecDepth 100000 in
set_option maxHeartbeats 1600000 in
theorem sFormatInt_c (n : Int) (w : World) (h : I64 n) : Calls Tryd.prog 23 #[.int .i64 n] w fun e w' => e = .returned (.string (fmtI n)) ∧ Below w.heap.size w w' := by
 have h19 : (10 : Nat) ^ 19 = 10000000000000000000 := by decide
 obtain ⟨hn0, hn1⟩ := h
 by_cases h0 : n = 0
 ·subst h0
  have HM := Lib.hid fmtI_zero
  go_enter Tryd.func23, Tryd.ntmps23
  go_wp2
  go_ret
  exact ⟨by rw [HM.out]; rfl, Below.refl _ _⟩
 by_cases hs : 0 < n
 ·obtain ⟨j, rfl⟩ : ∃ j : Nat, n = j := ⟨n.toNat, by omega⟩
  have HM := Lib.hid (fmtI_pos (j := j) (by omega) (by omega))
  have hj0 : 0 < j := by omega
  clear hs h0
  go_enter Tryd.func23, Tryd.ntmps23
  go_wp2
  go_loopw [0, 3] (fun vk vo wr => ∃ (f t : Nat) (out : ByteArray), vk = .int .i64 t ∧ vo = .string out ∧ t < 10 ^ f ∧ t ≤ j ∧ out.size + f ≤ 19 ∧ digF f t out = digF 19 j ⟨#[]⟩ ∧ Below w.heap.size w wr) (fun vk _ _ => (intOf vk).toNat)
  case atStart => exact ⟨19, j, _, rfl, rfl, by omega, Nat.le_refl _, Nat.le_refl _, rfl, Below.refl _ _⟩
  case round =>
   obtain ⟨f, t, out, rfl, rfl, hf, htj, hsz, hd, hB⟩ := hrel
   have HD := Lib.hid hd; clear hd
   have HF := Lib.hid hf; clear hf
   by_cases ht : 0 < t
   ·have hcv := conv_byte wr t
    obtain ⟨f', rfl⟩ : ∃ f', f = f' + 1 := by
     cases f with
     | zero => have := HF.out; simp at this; omega
     | succ f => exact ⟨f, rfl⟩
    have HN : Hid (digF f' (t / 10) (⟨#[digB t]⟩ ++ out) = digF 19 j ⟨#[]⟩) := by
     show _ = _
     rw [← HD.out, digF_step (by omega)]
    have HF2 : Hid (t / 10 < 10 ^ f') := by
     show _ < _
     have := HF.out
     rw [Nat.pow_succ] at this
     omega
    have hc1 : ¬ IntKind.i64.max < (((⟨#[digB t]⟩ : ByteArray).size + out.size : Nat) : Int) := by
     have e : (⟨#[digB t]⟩ : ByteArray).size = 1 := rfl
     rw [e, show IntKind.i64.max = 9223372036854775807 from rfl]; omega
    go_wp2
    go_roundw
    case rel => exact ⟨f', t / 10, _, by rw [show ((t / 10 : Nat) : Int) = (t : Int) / 10 by omega], rfl, HF2.out, by omega, by rw [ByteArray.size_append]; show 1 + out.size + f' ≤ 19; omega, HN.out, hB.alloc hB.size _⟩
    case measure => simp [intOf]; omega
   ·have HE : Hid (out = digF 19 j ⟨#[]⟩) := by
     show _ = _
     rw [← HD.out, show t = 0 by omega, digF_zero]
    go_wp2
    go_ret
    exact ⟨by rw [HM.out, ← HE.out]; rfl, hB⟩
 ·obtain ⟨j, rfl⟩ : ∃ j : Nat, n = -(j : Int) := ⟨n.natAbs, by omega⟩
  have HM := Lib.hid (fmtI_neg (j := j) (by omega) (by omega))
  have hj0 : 0 < j := by omega
  clear hs h0
  go_enter Tryd.func23, Tryd.ntmps23
  go_wp2
  go_loopw [0, 3] (fun vk vo wr => ∃ (f t : Nat) (out : ByteArray), vk = .int .i64 (-(t : Int)) ∧ vo = .string out ∧ t < 10 ^ f ∧ t ≤ j ∧ out.size + f ≤ 19 ∧ digF f t out = digF 19 j ⟨#[]⟩ ∧ Below w.heap.size w wr) (fun vk _ _ => (-(intOf vk)).toNat)
  case atStart => exact ⟨19, j, _, rfl, rfl, by omega, Nat.le_refl _, Nat.le_refl _, rfl, Below.refl _ _⟩
  case round =>
   obtain ⟨f, t, out, rfl, rfl, hf, htj, hsz, hd, hB⟩ := hrel
   have HD := Lib.hid hd; clear hd
   have HF := Lib.hid hf; clear hf
   by_cases ht : 0 < t
   ·have hcv := conv_byte wr t
    obtain ⟨f', rfl⟩ : ∃ f', f = f' + 1 := by
     cases f with
     | zero => have := HF.out; simp at this; omega
     | succ f => exact ⟨f, rfl⟩
    have HN : Hid (digF f' (t / 10) (⟨#[digB t]⟩ ++ out) = digF 19 j ⟨#[]⟩) := by
     show _ = _
     rw [← HD.out, digF_step (by omega)]
    have HF2 : Hid (t / 10 < 10 ^ f') := by
     show _ < _
     have := HF.out
     rw [Nat.pow_succ] at this
     omega
    have hc1 : ¬ IntKind.i64.max < (((⟨#[digB t]⟩ : ByteArray).size + out.size : Nat) : Int) := by
     have e : (⟨#[digB t]⟩ : ByteArray).size = 1 := rfl
     rw [e, show IntKind.i64.max = 9223372036854775807 from rfl]; omega
    by_cases hd0 : t % 10 = 0
    ·have hm : (t : Int) % 10 = 0 := by omega
     rw [hm] at hcv
     have hcv0 : (convert 98 9 (.slice (some ⟨wr.heap.size, 0, none⟩) 1 1)).run Tryd.prog (wr.alloc (.cells #[.int .u8 48] 5)) = .ok (.string ⟨#[digB t]⟩) (wr.alloc (.cells #[.int .u8 48] 5)) := hcv
     clear hcv hd0
     go_wp2
     go_roundw
     case rel => exact ⟨f', t / 10, _, by rw [show ((t / 10 : Nat) : Int) = (t : Int) / 10 by omega], rfl, HF2.out, by omega, by rw [ByteArray.size_append]; show 1 + out.size + f' ≤ 19; omega, HN.out, hB.alloc hB.size _⟩
     case measure => simp [intOf]; omega
    ·have hm : 0 < (t : Int) % 10 := by omega
     clear hd0
     go_wp2
     go_roundw
     case rel => exact ⟨f', t / 10, _, by rw [show ((t / 10 : Nat) : Int) = (t : Int) / 10 by omega], rfl, HF2.out, by omega, by rw [ByteArray.size_append]; show 1 + out.size + f' ≤ 19; omega, HN.out, hB.alloc hB.size _⟩
     case measure => simp [intOf]; omega
   ·have HE : Hid (out = digF 19 j ⟨#[]⟩) := by
     show _ = _
     rw [← HD.out, show t = 0 by omega, digF_zero]
    have hc1 : ¬ IntKind.i64.max < (((⟨#[45]⟩ : ByteArray).size + out.size : Nat) : Int) := by
     have e : (⟨#[45]⟩ : ByteArray).size = 1 := rfl
     rw [e, show IntKind.i64.max = 9223372036854775807 from rfl]; omega
    go_wp2
    go_ret
    exact ⟨by rw [HM.out, ← HE.out]; rfl, hB⟩
end Go.Proofs.YtnbikckbnbgjkaaDoor
