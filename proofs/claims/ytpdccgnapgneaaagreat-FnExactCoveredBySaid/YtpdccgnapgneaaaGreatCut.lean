/-
  Words for a cut around a region that draws its order: links of 'Below'; a variable made in the region.
-/
import Derived.Test.YtpdccgnapgneaaaGreatMarkB
import Derived.Deep.RegionHeld3
import Derived.Deep.DeepCutAuto
namespace Go.Proofs.YtpdccgnapgneaaaGreat
open Go.RowKit

theorem Below.link {a b c : World} (h : Below a.heap.size a b) (g : Below b.heap.size b c) : Below a.heap.size a c := h.trans (g.mono h.size)
theorem Below.alc {a b : World} (h : Below a.heap.size a b) (o : Obj) : Below a.heap.size a (b.alloc o) := h.alloc h.size o
theorem Below.drw {a b : World} (h : Below a.heap.size a b) : Below a.heap.size a b.drew := h.drew
theorem Below.drwN {a b : World} (h : Below a.heap.size a b) (n : Nat) : Below a.heap.size a (b.drewN n) := below_drewN h n
theorem Below.sz {a b : World} (h : Below a.heap.size a b) : a.heap.size ≤ b.heap.size := h.size
theorem Below.cll {a b : World} (h : Below a.heap.size a b) {g j : Nat} (hg : a.heap.size ≤ g) (v : Value) : Below a.heap.size a (b.setCell ⟨g, j, none⟩ v) := h.setCell hg v
/-- the variable, if the call's world made it last -/
theorem Bk.made {U w' : World} {cs : Array Value} {t : TypeId} (h : Below (U.alloc (.cells cs t)).heap.size (U.alloc (.cells cs t)) w') : Bk w' U.heap.size t cs.toList := by
  have := Bk.new U cs.toList t
  exact Bk.below (by simpa using this) h
theorem Bk.madeD {U w' : World} {cs : Array Value} {t : TypeId} (h : Below (U.alloc (.cells cs t)).drew.heap.size (U.alloc (.cells cs t)).drew w') : Bk w' U.heap.size t cs.toList := Bk.made (U := U) (Below.link (Below.drw (Below.refl _ _)) h)
theorem Bk.madeLt {U w' : World} {cs : Array Value} {t : TypeId} (_ : Below (U.alloc (.cells cs t)).heap.size (U.alloc (.cells cs t)) w') : U.heap.size < (U.alloc (.cells cs t)).heap.size := by simp
theorem Bk.madeLtD {U w' : World} {cs : Array Value} {t : TypeId} (_ : Below (U.alloc (.cells cs t)).drew.heap.size (U.alloc (.cells cs t)).drew w') : U.heap.size < (U.alloc (.cells cs t)).drew.heap.size := Nat.lt_of_lt_of_eq (Nat.lt_succ_self _) (by simp)
theorem ownSet {α : Type} {r : Rp α} (hr : r.Ok) {w : World} {f : List Nat} {cs : List Value} {x : α} (h : r.own w f cs x) {g : Nat} (hg : g ∉ f) (i : Nat) (vs : List Value) : r.own (setCells w g i vs) f cs x :=
  hr.okeep h fun k hk => setCells_other w g i vs k (fun e => hg (e ▸ hk))
/-- what a drawn region leaves: a new variable (block g) that holds a new struct, footprint f -/
def Left {α : Type} (r : Rp α) (t : TypeId) (x : α) (base : World) (g : Nat) (f : List Nat) (cs : List Value) (wx : World) : Prop :=
  r.own wx f cs x ∧ Fr base.heap.size f ∧ g ∉ f ∧ base.heap.size ≤ g ∧ Bk wx g t cs ∧ Below base.heap.size base wx
/-- .. made behind the call -/
theorem Left.last {α : Type} {r : Rp α} (hr : r.Ok) {t : TypeId} {x : α} {base wp wc : World} {f : List Nat} {cs : List Value} (o : r.own wc f cs x) (fr : Fr wp.heap.size f) (h0 : Below base.heap.size base wp) (h1 : Below wp.heap.size wp wc) :
    Left r t x base wc.heap.size f cs (wc.alloc (.cells cs.toArray t)) :=
  ⟨hr.ownB o (Below.alc (Below.refl _ _) _), fr.mono h0.size, fun hk => Nat.lt_irrefl _ (hr.lt o _ hk), (Below.link h0 h1).size, Bk.new _ _ _, Below.alc (Below.link h0 h1) _⟩
/-- .. made ahead of it -/
theorem Left.first {α : Type} {r : Rp α} (hr : r.Ok) {t : TypeId} {x : α} {base wp wc : World} {f : List Nat} {cs zs : List Value} {g : Nat} (o : r.own wc f cs x) (fr : Fr wp.heap.size f) (h0 : Below base.heap.size base wp) (h1 : Below wp.heap.size wp wc)
    (hb : Bk wc g t zs) (hl : g < wp.heap.size) (hg : base.heap.size ≤ g) (hlen : cs.length = zs.length) : Left r t x base g f cs (setCells wc g 0 cs) := by
  have hn : g ∉ f := fun hk => by have := fr.ge _ hk; omega
  refine ⟨ownSet hr o hn 0 cs, fr.mono h0.size, hn, hg, ?_, Below.setCells (Below.link h0 h1) hg 0 cs⟩
  have key : ∀ (i : Nat) (vs zs : List Value) (wc : World), Bk wc g t zs → i + vs.length ≤ zs.length → Bk (setCells wc g i vs) g t (over zs i vs) := by
    intro i vs
    induction vs generalizing i with
    | nil => intro zs wc h _; exact h
    | cons v vs ih => intro zs wc h hl; exact ih (i + 1) _ _ (h.set i v) (by simp at hl ⊢; omega)
  have := key 0 cs zs wc hb (by omega)
  have e := over_head cs zs hlen []
  simp only [List.append_nil] at e
  rw [e] at this
  exact this
theorem Left.drew {α : Type} {r : Rp α} {t : TypeId} {x : α} {base : World} {g : Nat} {f : List Nat} {cs : List Value} {wx : World} (hr : r.Ok) (h : Left r t x base g f cs wx) : Left r t x base g f cs wx.drew :=
  ⟨hr.okeep h.1 fun _ _ => rfl, h.2.1, h.2.2.1, h.2.2.2.1, h.2.2.2.2.1, h.2.2.2.2.2.drew⟩
end Go.Proofs.YtpdccgnapgneaaaGreat
