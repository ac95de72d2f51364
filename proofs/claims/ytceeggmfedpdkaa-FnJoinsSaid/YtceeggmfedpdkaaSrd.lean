/-
  Srd
-/
import Derived.Test.YtceeggmfedpdkaaCpf
import Derived.Test.YtceeggmfedpdkaaCpr
import Derived.Test.YtceeggmfedpdkaaEqLib
namespace Go.Proofs.Ytceeggmfedpdkaa
open Go.RowKit
set_option linter.unusedVariables false
set_option linter.unusedSimpArgs false
theorem fm_filter {β : Type} (p : Nat → Bool) (g : Nat → β) : ∀ l : List Nat, (l.filterMap fun j => if p j then some (g j) else none) = (l.filter p).map g
 | [] => rfl
 | j :: l => by
  have ih := fm_filter p g l
  by_cases h : p j <;> simp [h, ih]
theorem fm_congr {β : Type} {f g : Nat → Option β} : ∀ {l : List Nat}, (∀ j ∈ l, f j = g j) → l.filterMap f = l.filterMap g
 | [], _ => rfl
 | j :: l, h => by
  have ih := fm_congr (l := l) (fun i hi => h i (List.mem_cons_of_mem _ hi))
  rw [List.filterMap_cons, List.filterMap_cons, h j List.mem_cons_self, ih]
theorem kept_sub {α : Type} [Inhabited α] (kp : Nat → Bool) (d : Array α) : (Lib.keptUpTo kp d d.size).Sublist d.toList := by
 have h := (List.filter_sublist (p := kp) (l := List.range d.size)).map (d[·]!)
 rw [Lib.range_map_get d] at h
 exact h
theorem kept_once {α : Type} [Inhabited α] (key : α → List Int) (d : Array α) : (Lib.keptUpTo (kpK key d) d d.size).map key = onceR (d.toList.map key) := by
 have hg : ∀ j, j < d.size → (d.toList.map key)[j]? = some (key d[j]!) := fun j hj => by simp [hj]
 unfold Lib.keptUpTo onceR
 rw [List.map_map, ← fm_filter (kpK key d) (key ∘ (d[·]!)), List.length_map, Array.length_toList]
 refine fm_congr fun j hj => ?_
 rw [List.mem_range] at hj
 have e : onceK id (d.toList.map key) j = kpK key d j := by
  cases j with
  | zero => rfl
  | succ i =>
   show decide (((d.toList.map key)[i + 1]?).map id ≠ ((d.toList.map key)[i]?).map id) = decide (key d[i + 1]! ≠ key d[i]!)
   rw [hg (i + 1) hj, hg i (by omega)]
   simp
 rw [e, hg j hj]; rfl
theorem ownsRow_cut {w : World} {e : TypeId} {g n cap k : Nat} {xs : List Value} (h : w.ownsRow 0 e 1 (.slice (some ⟨g, 0, none⟩) n cap) n xs) (hk : k ≤ n) : w.ownsRow 0 e 1 (.slice (some ⟨g, 0, none⟩) k cap) k (xs.take k) := by
 have hlen := h.1
 rcases h.2 with ⟨e1, _⟩ | ⟨g', c, cur, e1, q1, q2, q3, q4, q5, q6⟩
 ·cases e1
 injection e1 with e1 e2 e3; injection e1 with e1; injection e1 with e1
 subst e1; subst e3
 refine ⟨by simp at hlen ⊢; omega, .inr ⟨g, cap, cur, rfl, Nat.zero_le _, q2, by omega, q4, q5, ?_⟩⟩
 rw [← q6, List.take_take]
 congr 1; omega
set_option maxHeartbeats 800000 in
theorem eqRow_c (A A' : Option Addr) (n n' cap cap' : Nat) (x y : List Int) (w : World) (h1 : RS NB rInt w A n cap x) (h2 : RS NB rInt w A' n' cap' y) :
  Calls Try.prog 87 #[.slice A n cap, .slice A' n' cap'] w fun e w' => e = .returned (.bool (decide (x = y))) ∧ Qt w w' := by
 go_enter Try.func87, Try.ntmps87
 go_wp2_with fail
 refine (equalInts_c _ _ _ _ _ _ _ _ _ h1 h2).mono ?_
 rintro e w1 ⟨rfl, hq⟩
 go_wp2
 go_ret
 exact ⟨rfl, hq⟩
set_option maxHeartbeats 800000 in
theorem compact0_c (A : Option Addr) (cap : Nat) (w : World) : Calls Try.prog 86 #[.slice A 0 cap, .func (.func 87) #[] #[]] w fun e w' => e = .returned (.slice A 0 cap) ∧ w' = w := by
 go_enter Try.func86, Try.ntmps86
 go_wp2
 go_ret
 exact ⟨rfl, rfl⟩
/-- the two calls behind the copy -/
theorem sortRows_s {B : Nat} {A : Option Addr} {n cap : Nat} {l : List (List Int)} {w : World} (h : MS B NB 37 (rSlice NB 3 rInt) w A n cap l) :
  Calls Try.prog 84 #[.slice A n cap, .func (.func 85) #[] #[]] w fun e w' => e = .returned (.tuple #[]) ∧ Below B w w' ∧
   Calls Try.prog 86 #[.slice A n cap, .func (.func 87) #[] #[]] w' fun e w2 => ∃ k, e = .returned (.slice A k cap) ∧ MS B NB 37 (rSlice NB 3 rInt) w2 A k cap (setR l) ∧ Below B w w2 := by
 have hlen := h.len
 rcases Nat.eq_zero_or_pos n with h0 | h0
 ·subst h0
  have hl : l = [] := List.eq_nil_of_length_eq_zero hlen
  subst hl
  refine (Try.slices_SortFunc_none (α := Nat) A cap _ w).mono ?_
  rintro e w' ⟨rfl, rfl⟩
  refine ⟨rfl, Below.refl _ _, (compact0_c _ _ _).mono ?_⟩
  rintro e w2 ⟨rfl, rfl⟩
  exact ⟨0, rfl, by simpa [setR, onceR, sortR] using h, Below.refl _ _⟩
 ·obtain ⟨g, rfl, hg, hB⟩ := h.form h0
  have hnb := h.nb
  have hcap : n ≤ cap := (h.rs (rSlice_ok NB _ rInt_ok)).nc
  refine (sortRows_c h).mono ?_
  rintro e w' ⟨rfl, D, m, os, hD, hDl, rfl, hf, ho⟩
  have hk1 : ∀ k, k ≠ g → k < w.heap.size → (Go.Proofs.sortWorld encE w g 0 m D.toArray os).heap[k]? = w.heap[k]? := fun k h1 h2 => by
   have := putRow_heapE (enc := encE (t := 3) (w := w) (g := g)) w m g D os k h1 h2
   simpa [Go.Proofs.sortWorld] using this
  have hz1 : w.heap.size ≤ (Go.Proofs.sortWorld (encE (t := 3) (w := w) (g := g)) w g 0 m D.toArray os).heap.size := by simp [Go.Proofs.sortWorld]
  have hb1 : Below B w (Go.Proofs.sortWorld (encE (t := 3) (w := w) (g := g)) w g 0 m D.toArray os) := ⟨rfl, rfl, rfl, hz1, fun k hk => hk1 k (by omega) (by omega)⟩
  refine ⟨rfl, hb1, ?_⟩
  obtain ⟨W, hW⟩ : ∃ W, W = Go.Proofs.sortWorld (encE (t := 3) (w := w) (g := g)) w g 0 m D.toArray os := ⟨_, rfl⟩
  rw [← hW] at hk1 hz1 hb1 ho ⊢
  clear hW
  have hkq : ∀ (dk : Array (Eg 3 w g)) (q : Nat) (k : Nat), k ≠ g → k < w.heap.size → (Sort.putRow encE (Sort.ahead W q) g 0 dk).heap[k]? = w.heap[k]? := fun dk q k h1 h2 => by
   have h3 := putRow_heapE (enc := encE (t := 3) (w := w) (g := g)) W q g dk.toList #[] k h1 (by omega)
   rw [Sort.grow_empty] at h3
   exact h3.trans (hk1 k h1 h2)
  refine (compactRows_c (α := Eg 3 w g) encE encE_one (fun a => a.1.x) default rfl g cap n D.toArray W (by simpa using hDl) ?_ (holdsE ho) (by unfold NB at hnb; omega) hcap).mono ?_
  ·intro dk x y q hq
   obtain ⟨A1, n1, c1, e1, r1⟩ := rsAt x (hkq dk q)
   obtain ⟨A2, n2, c2, e2, r2⟩ := rsAt y (hkq dk q)
   rw [e1, e2]
   exact eqRow_c _ _ _ _ _ _ _ _ _ r1 r2
  ·rintro e w2 ⟨rfl, q, rfl⟩
   have hs := kept_sub (kpK (fun a : Eg 3 w g => a.1.x) D.toArray) D.toArray
   have hx := kept_once (fun a : Eg 3 w g => a.1.x) D.toArray
   rw [show D.toArray.size = n from by simpa using hDl] at hs hx
   obtain ⟨K, hK⟩ : ∃ K, K = Lib.keptUpTo (kpK (fun a : Eg 3 w g => a.1.x) D.toArray) D.toArray n := ⟨_, rfl⟩
   rw [← hK] at hs hx ⊢
   have hkl : K.length ≤ n := by have := hs.length_le; simpa [hDl] using this
   have hx2 : (K.map fun a => a.1.x) = setR l := by rw [hx]; unfold setR; rw [← hD]
   have hz2 : W.heap.size ≤ (Sort.putRow encE (Sort.ahead W q) g 0 (K ++ List.replicate (n - K.length) (default : Eg 3 w g)).toArray).heap.size := by simp
   have ho2 := putRow_ownE (enc := encE (t := 3) (w := w) (g := g)) (l' := K ++ List.replicate (n - K.length) default) ho (by rw [List.length_append, List.length_replicate]; omega) q #[]
   rw [Sort.grow_empty] at ho2
   have ho3 := ownsRow_cut ho2 hkl
   rw [List.map_append, List.take_left' (by simp)] at ho3
   refine ⟨K.length, rfl, ?_, ⟨hb1.os, hb1.tape, hb1.output, by omega, fun k hk => hkq _ q k (by omega) (by omega)⟩⟩
   have hmm := MS.ofEls (B := B) (e := 37) (t := 3) (w := w) (w' := Sort.putRow encE (Sort.ahead W q) g 0 (K ++ List.replicate (n - K.length) (default : Eg 3 w g)).toArray) (A := some ⟨g, 0, none⟩) (n := K.length) (cap := cap) (K.map Subtype.val) (by simp) (by omega) (by rw [List.map_map]; exact ho3) ?_ ?_
   ·rw [List.map_map] at hmm
    rw [← hx2]; exact hmm
   ·have h5 : Fr B ([g] ++ ((D.map Subtype.val).map El.fp).flatten) := by rw [List.map_map]; exact hf
    exact h5.sub (hs.map Subtype.val)
   ·intro a ha k hk
    obtain ⟨a', _, rfl⟩ := List.mem_map.1 ha
    exact hkq _ q k (fun e => a'.2 (e ▸ hk)) ((rSlice_ok NB _ rInt_ok).lt a'.1.own k hk)
set_option maxHeartbeats 800000 in
theorem iSorted_c (A : Option Addr) (n cap : Nat) (l : List (List Int)) (w : World) (hr : RS NB (rSlice NB 3 rInt) w A n cap l) :
  Calls Try.prog 54 #[.slice A n cap] w (RetS 37 (rSlice NB 3 rInt) (setR l) w) := by
 go_enter Try.func54, Try.ntmps54
 go_wp2_with fail
 refine (iCopyRows_c _ _ _ _ _ hr).mono ?_
 rintro e w1 ⟨A1, n1, c1, rfl, m1, hb1⟩
 go_wp2_with fail
 refine (sortRows_s m1).mono ?_
 rintro e w2 ⟨rfl, hb2, hC⟩
 have HC := Lib.hid hC; clear hC
 go_wp2_with fail
 refine HC.out.mono ?_
 rintro e w3 ⟨k, rfl, m3, hb3⟩
 go_wp2
 go_ret
 exact ⟨_, _, _, rfl, m3, hb1.trans hb3⟩
end Go.Proofs.Ytceeggmfedpdkaa
