/-
  Contracts: drawn budgets.
-/
import Derived.Test.YtodhiehjfgkijaaCur
namespace Go.Proofs.Ytodhiehjfgkijaa
open Go.RowKit
set_option linter.unusedVariables false

theorem RS.lit (w : World) (l : List Int) (t : TypeId) (hl : l.length ≤ 1000) (hI : ∀ x ∈ l, I64 x) : RS NB rInt (w.alloc (.cells (l.map (Value.int .i64)).toArray t)) (some ⟨w.heap.size, 0, none⟩) l.length l.length l :=
  ⟨rfl, by unfold NB; omega, Nat.le_refl _, fun _ => ⟨w.heap.size, 0, rfl, fun j x hj => ⟨[.int .i64 x], ⟨rfl, hI x (mem_of_at hj)⟩, fun i v hi => by
    match i, hi with
    | 0, hi =>
      simp at hi; subst hi
      rw [cell_of_row _ w.heap.size (0 + j * rInt.size + 0) (l.map (Value.int .i64)).toArray t (0, 0) (heap_alloc_new w _)]
      have e : rInt.size = 1 := rfl
      simp [e, hj]⟩⟩⟩
theorem Cur.alloc {w : World} {g : Nat} (h : Cur w g) (o : Obj) : Cur (w.alloc o) g := h.below ((Below.refl _ _).alloc (Nat.le_refl _) o)
theorem Cur.ne {w : World} {g : Nat} (h : Cur w g) : ∀ k ∈ blk (some ⟨w.heap.size, 0, none⟩), k ≠ g := fun k hk => by
  have := h.lt; simp [blk] at hk; omega
theorem Drawn.mono {P Q : Int → Prop} {g : Nat} {w w' : World} {e : Ending} (h : Drawn P g w e w') (hPQ : ∀ x, P x → Q x) : Drawn Q g w e w' := by
  obtain ⟨x, h1, h2, h3⟩ := h; exact ⟨x, h1, hPQ x h2, h3⟩
theorem mem4 {a b c d x : Int} (h : x ∈ [a, b, c, d]) : x = a ∨ x = b ∨ x = c ∨ x = d := by simpa using h

set_option maxRecDepth 100000 in
set_option maxHeartbeats 1600000 in
theorem drawContour_c (A : Option Addr) (n cap : Nat) (l : List Int) (w : World) (hr : RS NB rByte w A n cap l) :
    Calls Try.prog 13 #[.slice A n cap] w fun e w' => ∃ lo hi r : Int, e = .returned (.tuple #[.int .i64 lo, .int .i64 hi, .int .i64 r]) ∧ I64 lo ∧ I64 hi ∧ I64 r ∧ Below w.heap.size w w' := by
  go_enter Try.func13, Try.ntmps13
  go_wp2_with fail
  refine (l1New_c _ _ _ _ _ hr).mono ?_
  rintro e w1 ⟨g, rfl, hg, hc1, hB⟩
  go_wp2_with fail
  refine (l1Once_c g 5 _ (by omega) hc1).mono ?_
  rintro e w2 ⟨b, rfl, hc2, hC2⟩
  replace hB := hB.trans (hC2.of1 hB.size hg)
  cases b
  · go_wp2_with fail
    refine (l1Below_c g 60 _ (by omega) hc2).mono ?_
    rintro e w3 ⟨x, rfl, ⟨hx0, _, hx1⟩, hc3, hC3⟩
    replace hB := hB.trans (hC3.of1 hB.size hg)
    have hx2 := hx1 (by omega)
    clear hx1
    go_wp2_with fail
    refine (l1Below_c g 3000 _ (by omega) hc3).mono ?_
    rintro e w4 ⟨y, rfl, ⟨hy0, _, hy1⟩, hc4, hC4⟩
    replace hB := hB.trans (hC4.of1 hB.size hg)
    have hy2 := hy1 (by omega)
    clear hy1
    go_wp2_with fail
    refine (l1Below_c g 5 _ (by omega) hc4).mono ?_
    rintro e w5 ⟨z, rfl, ⟨hz0, _, hz1⟩, hc5, hC5⟩
    replace hB := hB.trans (hC5.of1 hB.size hg)
    have hz2 := hz1 (by omega)
    clear hz1
    go_wp2
    refine bodyPost_ret (v := .tuple #[.int .i64 (1 + x), .int .i64 (1 + x + y), .int .i64 (1 + z)]) (by simp [results, Try.results13, go_sem]) rfl ?_
    exact ⟨_, _, _, rfl, ⟨by omega, by omega⟩, ⟨by omega, by omega⟩, ⟨by omega, by omega⟩, hB⟩
  · go_wp2_with fail
    refine (l1PickInt_c g _ 4 4 [0, 1, 1000000000000, 7] _ (RS.lit w2 [0, 1, 1000000000000, 7] _ (by simp) (by simp [I64])) hc2.ne (by omega) (hc2.alloc _)).mono ?_
    rintro e w3 ⟨x, rfl, hx, hc3, hC3⟩
    replace hB := hB.trans ((hC3.al).of1 hB.size hg)
    go_wp2_with fail
    refine (l1PickInt_c g _ 4 4 [0, 1, 1000000000000, 1000000000001] _ (RS.lit w3 [0, 1, 1000000000000, 1000000000001] _ (by simp) (by simp [I64])) hc3.ne (by omega) (hc3.alloc _)).mono ?_
    rintro e w4 ⟨y, rfl, hy, hc4, hC4⟩
    replace hB := hB.trans ((hC4.al).of1 hB.size hg)
    go_wp2_with fail
    refine (l1PickInt_c g _ 4 4 [1, 2, 8, 9] _ (RS.lit w4 [1, 2, 8, 9] _ (by simp) (by simp [I64])) hc4.ne (by omega) (hc4.alloc _)).mono ?_
    rintro e w5 ⟨z, rfl, hz, hc5, hC5⟩
    replace hB := hB.trans ((hC5.al).of1 hB.size hg)
    go_wp2
    refine bodyPost_ret (v := .tuple #[.int .i64 x, .int .i64 y, .int .i64 z]) (by simp [results, Try.results13, go_sem]) rfl ?_
    have hx := mem4 hx
    have hy := mem4 hy
    have hz := mem4 hz
    exact ⟨_, _, _, rfl, ⟨by omega, by omega⟩, ⟨by omega, by omega⟩, ⟨by omega, by omega⟩, hB⟩
set_option maxRecDepth 100000 in
set_option maxHeartbeats 1600000 in
theorem l28Budget_c (g : Nat) (w : World) (hc : Cur w g) : Calls Try.prog 78 #[.pointer (some ⟨g, 0, none⟩)] w (Drawn I64 g w) := by
  go_enter Try.func78, Try.ntmps78
  go_wp2_with fail
  refine (l1Once_c g 12 _ (by omega) hc).mono ?_
  rintro e w2 ⟨b, rfl, hc2, hC2⟩
  cases b
  · go_wp2_with fail
    refine (l1PickInt_c g _ 5 5 [5, 20, 60, 200, 1000] _ (RS.lit w2 [5, 20, 60, 200, 1000] _ (by simp) (by simp [I64])) hc2.ne (by omega) (hc2.alloc _)).mono ?_
    rintro e w3 ⟨x, rfl, hx, hc3, hC3⟩
    have hx2 : 0 ≤ x ∧ x ≤ 1000 := by simp at hx; omega
    clear hx
    go_wp2_with fail
    refine (l1Below_c g 40 _ (by omega) hc3).mono ?_
    rintro e w4 ⟨y, rfl, ⟨hy0, hy1, _⟩, hc4, hC4⟩
    go_wp2
    go_ret
    exact ⟨_, rfl, ⟨by omega, by omega⟩, hc4, (hC2.trans hC3.al).trans hC4⟩
  · go_wp2_with fail
    refine (l1PickInt_c g _ 5 5 [-1, 0, 1000000000000, 1000000000001, 9223372036854775807] _ (RS.lit w2 [-1, 0, 1000000000000, 1000000000001, 9223372036854775807] _ (by simp) (by simp [I64])) hc2.ne (by omega) (hc2.alloc _)).mono ?_
    rintro e w3 ⟨x, rfl, hx, hc3, hC3⟩
    have hx2 : I64 x := by unfold I64; simp at hx; omega
    clear hx
    go_wp2
    go_ret
    exact ⟨_, rfl, hx2, hc3, hC2.trans hC3.al⟩
set_option maxRecDepth 100000 in
set_option maxHeartbeats 1600000 in
theorem drawSlack_c (A : Option Addr) (n cap : Nat) (l : List Int) (w : World) (hr : RS NB rByte w A n cap l) :
    Calls Try.prog 18 #[.slice A n cap] w fun e w' => ∃ b s : Int, e = .returned (.tuple #[.int .i64 b, .int .i64 s]) ∧ I64 b ∧ I64 s ∧ Below w.heap.size w w' := by
  go_enter Try.func18, Try.ntmps18
  go_wp2_with fail
  refine (l1New_c _ _ _ _ _ hr).mono ?_
  rintro e w1 ⟨g, rfl, hg, hc1, hB⟩
  go_wp2_with fail
  refine (l28Budget_c g _ hc1).mono ?_
  rintro e w2 ⟨x, rfl, hx, hc2, hC2⟩
  replace hB := hB.trans (hC2.of1 hB.size hg)
  go_wp2_with fail
  refine (l1PickInt_c g _ 6 6 [0, 20, 33, 100, 101, -1] _ (RS.lit w2 [0, 20, 33, 100, 101, -1] _ (by simp) (by simp [I64])) hc2.ne (by omega) (hc2.alloc _)).mono ?_
  rintro e w3 ⟨y, rfl, hy, hc3, hC3⟩
  replace hB := hB.trans ((hC3.al).of1 hB.size hg)
  have hy2 : I64 y := by unfold I64; simp at hy; omega
  clear hy
  go_wp2
  go_ret2
  exact ⟨_, _, rfl, hx, hy2, hB⟩
end Go.Proofs.Ytodhiehjfgkijaa
