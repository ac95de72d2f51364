/-
  Srr
-/
import Derived.Test.YtceeggmfedpdkaaRws
import Derived.Test.YtceeggmfedpdkaaTab
namespace Go.Proofs.Ytceeggmfedpdkaa
open Go.RowKit
set_option linter.unusedVariables false
set_option linter.unusedSimpArgs false
/-- a row that does not lie in block g -/
abbrev Eg (t : TypeId) (w : World) (g : Nat) := {a : El t w // g ∉ a.fp}
instance {t : TypeId} {w : World} {g : Nat} : Inhabited (Eg t w g) := ⟨⟨default, by show g ∉ ([] : List Nat); simp⟩⟩
theorem eg_of {t : TypeId} {w : World} {g : Nat} : ∀ (E : List (El t w)), (∀ a ∈ E, g ∉ a.fp) → ∃ D : List (Eg t w g), D.map Subtype.val = E
 | [], _ => ⟨[], rfl⟩
 | a :: E, h => by
  obtain ⟨D, hD⟩ := eg_of E (fun b hb => h b (List.mem_cons_of_mem _ hb))
  exact ⟨⟨a, h a (List.mem_cons_self ..)⟩ :: D, by simp [hD]⟩
def encE {t : TypeId} {w : World} {g : Nat} (a : Eg t w g) : Value := a.1.v
def cfE {t : TypeId} {w : World} {g : Nat} (a b : Eg t w g) : Int := cmpRows a.1.x b.1.x
theorem encE_one {t : TypeId} {w : World} {g : Nat} : Go.Proofs.OneCell (encE (t := t) (w := w) (g := g)) := fun a => by
 obtain ⟨A, n, cap, h, _⟩ := a.1.own
 have : a.1.v = .slice A n cap := by injection h
 show (a.1.v).oneCell' = true
 rw [this]; rfl
theorem rsAt {t : TypeId} {w W : World} {g : Nat} (a : Eg t w g) (hW : ∀ k, k ≠ g → k < w.heap.size → W.heap[k]? = w.heap[k]?) : ∃ A n cap, encE a = .slice A n cap ∧ RS NB rInt W A n cap a.1.x := by
 have ho := (rSlice_ok NB t rInt_ok).okeep a.1.own (w' := W) (fun k hk => hW k (fun e => a.2 (e ▸ hk)) ((rSlice_ok NB t rInt_ok).lt a.1.own k hk))
 obtain ⟨A, n, cap, h, hr⟩ := (rSlice_ok NB t rInt_ok).toRep ho
 exact ⟨A, n, cap, by injection h, hr⟩
theorem swE {t : TypeId} {w : World} {g : Nat} : Sort.SWO (Go.Proofs.ltOf (cfE (t := t) (w := w) (g := g))) where
 irrefl x := by show ltRows _ _ = false; rw [ltRows_no]; exact List.le_refl _
 trans x y z h1 h2 := by
  have h1' : ltRows x.1.x y.1.x = true := h1
  have h2' : ltRows y.1.x z.1.x = true := h2
  show ltRows x.1.x z.1.x = true
  rw [ltRows_iff] at *; exact List.lt_trans h1' h2'
 ntrans x y z h1 h2 := by
  have h1' : ltRows x.1.x y.1.x = false := h1
  have h2' : ltRows y.1.x z.1.x = false := h2
  show ltRows x.1.x z.1.x = false
  rw [ltRows_no] at *; exact List.le_trans h2' h1'
theorem cmpLaysE {t : TypeId} {w : World} {g n : Nat} : Go.Proofs.CmpLays1 Try.prog 85 #[] (encE (t := t) (w := w) (g := g)) cfE g 0 n w := fun m os dk hs x y => by
 have hW : ∀ k, k ≠ g → k < w.heap.size → (Go.Proofs.sortWorld encE w g 0 m dk os).heap[k]? = w.heap[k]? := fun k h1 h2 => by
  have := putRow_heapE (enc := encE (t := t) (w := w) (g := g)) w m g dk.toList os k h1 h2
  simpa [Go.Proofs.sortWorld] using this
 obtain ⟨A, n1, c1, e1, h1⟩ := rsAt x hW
 obtain ⟨A', n2, c2, e2, h2⟩ := rsAt y hW
 show Calls _ _ #[encE x, encE y] _ _
 rw [e1, e2]
 exact (iCompareRows_q _ _ _ _ _ _ _ _ _ h1 h2).mono fun e w' ⟨q1, q2⟩ => ⟨q1, 0, #[], by rw [q2, Sort.grow_empty]; rfl⟩
theorem sortRows_c {B g n cap : Nat} {l : List (List Int)} {w : World} (h : MS B NB 37 (rSlice NB 3 rInt) w (some ⟨g, 0, none⟩) n cap l) :
  Calls Try.prog 84 #[.slice (some ⟨g, 0, none⟩) n cap, .func (.func 85) #[] #[]] w fun e w' => e = .returned (.tuple #[]) ∧
   ∃ (D : List (Eg 3 w g)) (m : Nat) (os : Array Obj), D.map (fun a => a.1.x) = sortR l ∧ D.length = n ∧ w' = Go.Proofs.sortWorld encE w g 0 m D.toArray os ∧ Fr B (g :: (D.map fun a => a.1.fp).flatten) ∧ w'.ownsRow 0 37 1 (.slice (some ⟨g, 0, none⟩) n cap) n (D.map encE) := by
 have hlen := h.len
 have hnb := h.nb
 obtain ⟨E, e1, ho, hf⟩ := h.els
 have hg : ∀ a ∈ E, g ∉ a.fp := by
  intro a ha hk
  have hnd := hf.nd
  simp only [blk, List.cons_append, List.nil_append, List.nodup_cons] at hnd
  exact hnd.1 (List.mem_flatten.2 ⟨a.fp, List.mem_map.2 ⟨a, ha, rfl⟩, hk⟩)
 obtain ⟨D, hD⟩ := eg_of E hg
 have ho' : w.ownsRow 0 37 1 (.slice (some ⟨g, 0, none⟩) n cap) n (D.map encE) := by rw [← hD, List.map_map] at ho; exact ho
 have hH := holdsE ho'
 have hDl : D.length = n := by have := ho'.1; simpa using this
 have hblk : g < w.heap.size := by
  rcases ho'.2 with ⟨h1, _⟩ | ⟨g', c, cur, h1, hB, hg, hc, hm, hs, ht⟩
  ·cases h1
  ·injection h1 with e1 e2 e3; injection e1 with e1; injection e1 with e1
   subst e1; exact (Array.getElem?_eq_some_iff.1 hg).1
 have hS := Try.slices_SortFunc encE encE_one cfE swE 85 #[] g 0 cap D.toArray w (enters_of Try.func85 (by kernel_rfl) rfl) cmpLaysE hH hblk (by unfold NB at hnb; simp; omega)
 rw [List.size_toArray, hDl] at hS
 refine hS.mono ?_
 rintro e w' ⟨rfl, d', m, os, hp, hs, rfl⟩
 have hp2 : d'.toList.Perm D := by
  have h1 : d'.size = n := by rw [hp.1]; simp [hDl]
  have h2 := hp.2.2
  rw [show d'.extract 0 n = d' from by rw [← h1]; simp, show D.toArray.extract 0 n = D.toArray from by rw [← hDl]; simp] at h2
  exact h2
 have hl2 : d'.toList.length = n := by rw [hp2.length_eq, hDl]
 refine ⟨rfl, d'.toList, m, os, ?_, hl2, by simp, ?_, ?_⟩
 ·refine sortR_eq (l := l) ?_ ?_
  ·have := hp2.map (fun a : Eg 3 w g => a.1.x)
   rw [show D.map (fun a : Eg 3 w g => a.1.x) = l from by rw [← e1, ← hD, List.map_map]; rfl] at this
   exact this
  ·rw [List.pairwise_map, List.pairwise_iff_getElem]
   intro i j hi hj hij
   have := hs i j (Nat.zero_le _) hij (by rw [← hl2]; exact hj)
   have h3 : ltRows (d'[j]!).1.x (d'[i]!).1.x = false := this
   rw [ltRows_no, getElem!_pos d' i (by simpa using hi), getElem!_pos d' j (by simpa using hj)] at h3
   simpa using h3
 ·have h5 : Fr B ([g] ++ (E.map El.fp).flatten) := hf
  have h6 := h5.perm (E' := d'.toList.map Subtype.val) (by rw [← hD]; exact (hp2.map _).symm)
  rw [List.map_map] at h6
  exact h6
 ·have := putRow_ownE (enc := encE (t := 3) (w := w) (g := g)) (l' := d'.toList) ho' hl2 m os
  simpa [Go.Proofs.sortWorld] using this
end Go.Proofs.Ytceeggmfedpdkaa
