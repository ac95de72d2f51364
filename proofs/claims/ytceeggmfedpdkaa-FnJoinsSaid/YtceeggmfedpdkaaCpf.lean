/-
  Cpf
-/
import Derived.Test.YtceeggmfedpdkaaKeep
import Derived.Test.YtceeggmfedpdkaaSrr
namespace Go.Proofs.Ytceeggmfedpdkaa
open Go.RowKit
set_option linter.unusedVariables false
set_option linter.unusedSimpArgs false
section
variable {α : Type} [Inhabited α] {β : Type} [DecidableEq β]
/-- place j is kept: it begins a run -/
def kpK (k : α → β) (d : Array α) : Nat → Bool | 0 => true | i + 1 => decide (k d[i + 1]! ≠ k d[i]!)
theorem rowDrew (enc : α → Value) (w : World) (q g : Nat) (d : Array α) : (Sort.putRow enc (Sort.ahead w q) g 0 d).drew = Sort.putRow enc (Sort.ahead w (q + 1)) g 0 d := Go.Proofs.putRow_drewN (enc := enc) w q 1 g 0 d
set_option maxHeartbeats 4000000 in
set_option maxRecDepth 1000000 in
theorem compactRows_c (enc : α → Value) (hO : Go.Proofs.OneCell enc) (key : α → β) (zr : α) (hz : enc zr = .slice none 0 0) (g cap n : Nat) (d : Array α) (w : World) (hn : d.size = n)
  (hE : ∀ (dk : Array α) (x y : α) (q : Nat), dk.size = n → Calls Try.prog 87 #[enc x, enc y] (Sort.putRow enc (Sort.ahead w q) g 0 dk) fun e w' => e = .returned (.bool (decide (key x = key y))) ∧ ∃ qq, w' = (Sort.putRow enc (Sort.ahead w q) g 0 dk).drewN qq)
  (hH : Sort.Holds enc w g 0 d) (hsz : n ≤ 4294967296) (hcap : n ≤ cap) :
  Calls Try.prog 86 #[.slice (some ⟨g, 0, none⟩) n cap, .func (.func 87) #[] #[]] w fun e w' => e = .returned (.slice (some ⟨g, 0, none⟩) (Lib.keptUpTo (kpK key d) d n).length cap) ∧ ∃ q, w' = Sort.putRow enc (Sort.ahead w q) g 0 ((Lib.keptUpTo (kpK key d) d n) ++ List.replicate (n - (Lib.keptUpTo (kpK key d) d n).length) zr).toArray := by
 have hcl0 := hO.cells
 simp only [Value.cells] at hcl0
 have hst := hO.store Try.prog
 have HN := Lib.hid hn
 have HH := Lib.hid hH
 have HC := Lib.hid hE
 have HAll : Hid ((∀ j, j < n → kpK key d j = true) → ∀ q, Sort.putRow enc (Sort.ahead w q) g 0 d = Sort.putRow enc (Sort.ahead w q) g 0 ((Lib.keptUpTo (kpK key d) d n) ++ List.replicate (n - (Lib.keptUpTo (kpK key d) d n).length) zr).toArray ∧ (Lib.keptUpTo (kpK key d) d n).length = n) := by
  show _ → _
  intro h q
  have e : Lib.keptUpTo (kpK key d) d n = d.toList := by rw [Lib.keptUpTo_all _ _ _ h, ← hn]; exact Lib.range_map_get d
  rw [e]
  simp [hn]
 have HP : Hid (∀ q, Sort.Holds enc (Sort.putRow enc (Sort.ahead w q) g 0 d) g 0 d) := by
  show ∀ q, _
  exact fun q => Sort.holds_putRow enc _ g 0 d d (Sort.holds_ahead enc w q g 0 d hH) rfl
 clear hE hH hn
 go_enter Try.func86, Try.ntmps86
 by_cases h2 : n < 2
 ·have HZ := Lib.hid (HAll.out (fun j hj => by have hj0 : j = 0 := (by omega); subst hj0; rfl))
  have HW0 : Hid (w = Sort.putRow enc (Sort.ahead w 0) g 0 d) := by show _ = _; rw [Sort.putRow_self enc (Sort.ahead w 0) g 0 d (Sort.holds_ahead enc w 0 g 0 d HH.out)]; rfl
  go_wp2
  go_ret
  exact ⟨by rw [(HZ.out 0).2]; rfl, 0, HW0.out.trans (HZ.out 0).1⟩
 go_wp2
 go_loopw [5] (fun s wr => ∃ k q : Nat, 1 ≤ k ∧ k ≤ n ∧ s = .int .i64 k ∧ Hid (wr = Sort.putRow enc (Sort.ahead w q) g 0 d) ∧ Hid (∀ j, j < k → kpK key d j = true)) (fun s _ => n - (intOf s).toNat)
 case atStart => exact ⟨1, 0, by omega, by omega, by go_num, (by show _ = _; rw [Sort.putRow_self enc (Sort.ahead w 0) g 0 d (Sort.holds_ahead enc w 0 g 0 d HH.out)]; rfl), (by show ∀ j, _ → _; intro j hj; have hj0 : j = 0 := (by omega); subst hj0; rfl)⟩
 case round =>
  obtain ⟨k, q, hk1, hk, rfl, HW, HK⟩ := hrel
  by_cases hlt : k < n
  ·obtain ⟨j, hj⟩ : ∃ j, k = j + 1 := ⟨k - 1, by omega⟩
   have hjn : j < n := by omega
   have mj : IntKind.i64.wrap ((k : Int) - 1) = (j : Int) := by rw [IntWalk.i64_in _ (by omega)]; omega
   have HJ := Lib.hid hj; clear hj
   obtain ⟨x, hx⟩ : ∃ x, Hid (d[k]! = x) := ⟨_, rfl⟩
   obtain ⟨y, hy⟩ : ∃ y, Hid (d[j]! = y) := ⟨_, rfl⟩
   have hHk : Sort.Holds enc wr g 0 d := by rw [HW.out]; exact HP.out q
   have c1 := (hHk k (by rw [HN.out]; exact hlt)).1
   have c0 := (hHk j (by rw [HN.out]; exact hjn)).1
   rw [Nat.zero_add, hx.out] at c1
   rw [Nat.zero_add, hy.out] at c0
   have hcall := HC.out d x y (q + 1) HN.out
   rw [← rowDrew, ← HW.out] at hcall
   obtain ⟨bv, hbv⟩ : ∃ b, Hid (decide (key x = key y) = b) := ⟨_, rfl⟩
   rw [hbv.out] at hcall
   have HSS : Hid (∀ w', Below wr.heap.size wr w' → (w'.cell? ⟨g, k, none⟩ = some (enc x) ∧ w'.cell? ⟨g, j, none⟩ = some (enc y))) := by
    show ∀ w', _ → _
    intro w' hb
    exact ⟨cells_below hb _ _ c1, cells_below hb _ _ c0⟩
   clear hHk
   have hd0 := (Below.refl wr.heap.size wr).drew
   go_wp2
   refine hbg HSS.out hd0 (fun hHeld => ?_)
   refine tka 0 18 hHeld ?_; simp only [putS]
   refine tka 1 19 hHeld ?_; simp only [putS]
   refine tka 2 20 hHeld ?_; simp only [putS]
   refine tka 3 21 hHeld ?_; simp only [putS]
   refine tka 4 22 hHeld ?_; simp only [putS]
   refine tka 5 23 hHeld ?_; simp only [putS]
   refine tka 6 24 hHeld ?_; simp only [putS]
   refine tka 7 25 hHeld ?_; simp only [putS]
   refine tka 8 26 hHeld ?_; simp only [putS]
   refine tka 9 27 hHeld ?_; simp only [putS]
   refine rd 10 (some 28) fun K hK => ?_
   clear hHeld
   go_simp
   refine hcall.mono ?_
   rintro e w' ⟨rfl, qq, rfl⟩
   go_wp2_with fail
   refine hK.out _ _ (HSS.out _ (below_drewN (Below.refl wr.heap.size wr) (1 + qq))) (fun hHeld => ?_)
   clear hK K
   try simp only [putS]
   refine wpAnyH_done (by kernel_rfl) ?_ _
   clear hHeld
   clear HSS c0 c1 hd0 hcall
   have HW2 : Hid (wr.drewN (1 + qq) = Sort.putRow enc (Sort.ahead w (q + (1 + qq))) g 0 d) := by
    show _ = _
    rw [HW.out]; exact Go.Proofs.putRow_drewN (enc := enc) w q (1 + qq) g 0 d
   clear HW
   obtain ⟨wq, hwq⟩ : ∃ W, W = wr.drewN (1 + qq) := ⟨_, rfl⟩
   rw [← hwq] at HW2 ⊢
   clear hwq
   cases bv
   ·have HK2 : Hid (∀ i, i < k + 1 → kpK key d i = true) := by
     show ∀ i, _ → _
     intro i hi
     by_cases e : i < k
     ·exact HK.out i e
     ·obtain rfl : i = j + 1 := by have := HJ.out; omega
      show decide (key d[j + 1]! ≠ key d[j]!) = true
      have h1 := hbv.out
      rw [← HJ.out, hx.out, hy.out]
      simpa using h1
    go_wp2
    go_roundw
    case rel => exact ⟨k + 1, _, by omega, by omega, by go_num, HW2, HK2⟩
    case measure => simp [intOf]; omega
   ·have hdup : kpK key d k = false := by
     rw [HJ.out]
     show decide (key d[j + 1]! ≠ key d[j]!) = false
     have h1 := hbv.out
     rw [← HJ.out, hx.out, hy.out]
     simpa using h1
    have HI0 : Hid (Lib.KeptInv (kpK key d) d (k + 1) k d) := Lib.hid (Lib.KeptInv.start HK.out hdup)
    clear hdup
    go_wp2
    go_loopw [5, 7] (fun s7a s7b wr => ∃ (i r q : Nat) (dk : Array α), 1 ≤ r ∧ k + r ≤ n ∧ s7a = .int .i64 i ∧ s7b = .int .i64 r ∧ Hid (wr = Sort.putRow enc (Sort.ahead w q) g 0 dk) ∧ Hid (Lib.KeptInv (kpK key d) d (k + r) i dk)) (fun _ s _ => n - (intOf s).toNat)
    case atStart => exact ⟨k, 1, _, d, by omega, by omega, by go_num, by go_num, HW2, HI0⟩
    case round =>
     clear HW2 HI0
     obtain ⟨i, r, q2, dk, hr1, hrn, rfl, rfl, HW3, HI⟩ := hrel
     have hik : i < k + r := HI.out.lt
     have hdz : dk.size = n := HI.out.size.trans HN.out
     have hHk : Sort.Holds enc wr g 0 dk := by
      rw [HW3.out]
      exact Sort.holds_putRow enc (Sort.ahead w q2) g 0 d dk (Sort.holds_ahead enc w q2 g 0 d HH.out) HI.out.size
     by_cases hlt2 : r < n - k
     ·obtain ⟨s, hs⟩ : ∃ s, r = s + 1 := ⟨r - 1, by omega⟩
      have hsn : k + s < n := by omega
      have hsn2 : s < n - k := by omega
      have mj2 : IntKind.i64.wrap ((r : Int) - 1) = (s : Int) := by rw [IntWalk.i64_in _ (by omega)]; omega
      have HS := Lib.hid hs; clear hs
      obtain ⟨u, hu⟩ : ∃ x, Hid (d[k + r]! = x) := ⟨_, rfl⟩
      obtain ⟨v, hv⟩ : ∃ x, Hid (d[k + s]! = x) := ⟨_, rfl⟩
      obtain ⟨o, ho⟩ : ∃ x, Hid (dk[i]! = x) := ⟨_, rfl⟩
      have hc1 : wr.cell? ⟨g, k + r, none⟩ = some (enc u) := by
       have h1 := (hHk (k + r) (by omega)).1
       rw [Nat.zero_add, HI.out.high _ (by omega), hu.out] at h1; exact h1
      have hc0 : wr.cell? ⟨g, k + s, none⟩ = some (enc v) := by
       have h1 := (hHk (k + s) (by omega)).1
       rw [Nat.zero_add, HI.out.high _ (by have := HS.out; omega), hv.out] at h1; exact h1
      have hci := (hHk i (by omega)).1
      have hfi := (hHk i (by omega)).2
      rw [Nat.zero_add] at hci hfi
      rw [ho.out] at hci
      have hcall := HC.out dk u v (q2 + 1) hdz
      rw [← rowDrew, ← HW3.out] at hcall
      obtain ⟨bv, hbv2⟩ : ∃ b, Hid (decide (key u = key v) = b) := ⟨_, rfl⟩
      rw [hbv2.out] at hcall
      have HSS : Hid (∀ w', Below wr.heap.size wr w' → (w'.cell? ⟨g, k + r, none⟩ = some (enc u) ∧ w'.cell? ⟨g, k + s, none⟩ = some (enc v))) := by
       show ∀ w', _ → _
       intro w' hb
       exact ⟨cells_below hb _ _ hc1, cells_below hb _ _ hc0⟩
      clear hHk
      have hd0 := (Below.refl wr.heap.size wr).drew
      go_wp2
      refine hbg HSS.out hd0 (fun hHeld => ?_)
      refine tka 0 38 hHeld ?_; simp only [putS]
      refine tka 1 39 hHeld ?_; simp only [putS]
      refine tka 2 40 hHeld ?_; simp only [putS]
      refine tka 3 41 hHeld ?_; simp only [putS]
      refine tka 4 42 hHeld ?_; simp only [putS]
      refine tka 5 43 hHeld ?_; simp only [putS]
      refine tka 6 44 hHeld ?_; simp only [putS]
      refine tka 7 45 hHeld ?_; simp only [putS]
      refine tka 8 46 hHeld ?_; simp only [putS]
      refine tka 9 47 hHeld ?_; simp only [putS]
      refine rd 10 (some 48) fun K hK => ?_
      clear hHeld
      go_simp
      refine hcall.mono ?_
      rintro e w' ⟨rfl, qq, rfl⟩
      go_wp2_with fail
      refine hK.out _ _ (HSS.out _ (below_drewN (Below.refl wr.heap.size wr) (1 + qq))) (fun hHeld => ?_)
      clear hK K
      try simp only [putS]
      refine tka 11 49 hHeld ?_; simp only [putS]
      refine wpAnyH_done (by kernel_rfl) ?_ _
      clear hHeld
      clear HSS hd0 hcall
      have HW4 : Hid (wr.drewN (1 + qq) = Sort.putRow enc (Sort.ahead w (q2 + (1 + qq))) g 0 dk) := by
       show _ = _
       rw [HW3.out]; exact Go.Proofs.putRow_drewN (enc := enc) w q2 (1 + qq) g 0 dk
      have hb4 := below_drewN (Below.refl wr.heap.size wr) (1 + qq)
      replace hc1 := cells_below hb4 _ _ hc1
      replace hci := cells_below hb4 _ _ hci
      have hfi4 : (wr.drewN (1 + qq)).frozen? ⟨g, i, none⟩ = false := hfi
      clear HW3 hc0 hb4 hfi
      obtain ⟨wq, hwq⟩ : ∃ W, W = wr.drewN (1 + qq) := ⟨_, rfl⟩
      rw [← hwq] at HW4 hc1 hci hfi4 ⊢
      clear hwq
      have HKr : Hid (kpK key d (k + r) = !bv) := by
       show _ = _
       have e : k + r = (k + s) + 1 := by have := HS.out; omega
       have h1 := hbv2.out
       rw [← hu.out, ← hv.out, e] at h1
       rw [e]
       show decide (key d[k + s + 1]! ≠ key d[k + s]!) = !bv
       rw [← h1]; simp
      have hkr : k + r < n := by omega
      cases bv
      ·have HI2 : Hid (Lib.KeptInv (kpK key d) d (k + r + 1) (i + 1) (dk.setIfInBounds i u)) := by
        have := HI.out.keep (by rw [HN.out]; exact hkr) HKr.out
        rw [hu.out] at this; exact Lib.hid this
       have HW5 : Hid (wq.setCell ⟨g, i, none⟩ (enc u) = Sort.putRow enc (Sort.ahead w (q2 + (1 + qq))) g 0 (dk.setIfInBounds i u)) := by
        show _ = _
        rw [HW4.out]
        have := Sort.putRow_set enc (Sort.ahead w (q2 + (1 + qq))) g 0 dk i u (by omega)
        rw [Nat.zero_add] at this; exact this
       clear HW4 HI
       go_wp2
       go_roundw
       case rel => exact ⟨i + 1, r + 1, _, _, by omega, by omega, by go_num, by go_num, HW5, HI2⟩
       case measure => simp [intOf]; omega
      ·have HI2 : Hid (Lib.KeptInv (kpK key d) d (k + r + 1) i dk) := Lib.hid (HI.out.skip HKr.out)
       clear HI
       go_wp2
       go_roundw
       case rel => exact ⟨i, r + 1, _, dk, by omega, by omega, by go_num, by go_num, HW4, HI2⟩
       case measure => simp [intOf]; omega
     ·have hre : k + r = n := by omega
      have hiz : i < n := by omega
      have hni : 0 < n - i := by omega
      have HD : Hid ((Lib.keptUpTo (kpK key d) d n).length = i ∧ ∀ z, Lib.lay dk i (List.replicate (n - i) z) = (Lib.keptUpTo (kpK key d) d n ++ List.replicate (n - i) z).toArray) := by
       show _ ∧ _
       have h1 := HI.out
       rw [hre, ← HN.out] at h1
       rw [← HN.out]
       exact ⟨h1.len, fun z => h1.done z⟩
      have hcl : ∀ ty, (Builtin.clear_ #[38] ty #[.slice (some ⟨g, i, none⟩) (n - i) (cap - i)]).run Try.prog wr = .ok (.tuple #[]) (wr.setCells g i (List.replicate (n - i) (.slice none 0 0))) :=
       fun ty => Lib.run_clear_slice wr 38 37 ty (.slice none 0 0) (by rfl) (fun w => by rfl) rfl rfl g i _ _ hni (fun t ht => by have := (hHk (i + t) (by omega)).1; rw [Nat.zero_add] at this; rw [this]; rfl) (fun t ht => by have := (hHk (i + t) (by omega)).2; rw [Nat.zero_add] at this; exact this)
      clear hHk HI
      go_wp2
      go_ret
      refine ⟨by rw [HD.out.1]; rfl, q2, ?_⟩
      rw [HD.out.1, ← HD.out.2 zr, HW3.out, ← Lib.putRow_setCells enc _ g 0 _ dk i (by simp; omega), Nat.zero_add, List.map_replicate, hz]
  ·have HZ := Lib.hid (HAll.out (fun j hj => HK.out j (by omega)))
   go_wp2
   go_ret
   exact ⟨by rw [(HZ.out q).2]; rfl, q, HW.out.trans (HZ.out q).1⟩
end
end Go.Proofs.Ytceeggmfedpdkaa
