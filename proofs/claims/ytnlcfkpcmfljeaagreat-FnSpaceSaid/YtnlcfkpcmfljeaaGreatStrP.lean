/-
  StrP
-/
import Derived.Test.YtnlcfkpcmfljeaaGreatLoc
import Derived.Test.YtnlcfkpcmfljeaaGreatEqLib
set_option linter.unusedSimpArgs false
set_option linter.unusedVariables false
namespace Go.Proofs.YtnlcfkpcmfljeaaGreat
open Go.RowKit
structure InsSt (l0 l:List Int) (i j:Nat):Prop where
 perm:l.Perm l0
 rest:∀ (a b:Nat) (x y:Int),a<b->b<=i->a≠j->b≠j->l[a]?=some x->l[b]?=some y->x<=y
 up:∀ (b:Nat) (x y:Int),j<b->b<=i->l[j]?=some x->l[b]?=some y->x<=y
def SortedTo (l:List Int) (i:Nat):Prop:=∀ (a b:Nat) (x y:Int),a<b->b<i->l[a]?=some x->l[b]?=some y->x<=y
theorem swap_perm {l:List Int}{k:Nat}{p c:Int}(hp:l[k]?=some p) (hc:l[k+1]?=some c):((l.set (k+1) p).set k c).Perm l:=by
 obtain⟨h1,rfl⟩:=List.getElem?_eq_some_iff.1 hp;obtain⟨h2,rfl⟩:=List.getElem?_eq_some_iff.1 hc;exact List.set_set_perm h2 h1
theorem InsSt.step {l0 l:List Int}{i k:Nat}{p c:Int}(h:InsSt l0 l i (k+1)) (hi:k+1<=i) (hp:l[k]?=some p) (hc:l[k+1]?=some c) (hlt:c<p):InsSt l0 ((l.set (k+1) p).set k c) i k:=by
 have l1:=lt_of_at hp;have l2:=lt_of_at hc;have g0:((l.set (k+1) p).set k c)[k]?=some c:=by rw [List.getElem?_set,if_pos rfl,if_pos (by simpa using l1)]
 have g1:((l.set (k+1) p).set k c)[k+1]?=some p:=by rw [List.getElem?_set,if_neg (by omega),List.getElem?_set,if_pos rfl,if_pos l2]
 have g2:∀ a,a≠k->a≠k+1->((l.set (k+1) p).set k c)[a]?=l[a]?:=fun a h1 h2=>by rw [List.getElem?_set,if_neg (by omega),List.getElem?_set,if_neg (by omega)]
 refine⟨(swap_perm hp hc).trans h.perm,fun a b x y h1 h2 h3 h4 hx hy=>?_,fun b x y h1 h2 hx hy=>?_⟩
 ·by_cases ea:a=k+1
  ·subst ea
   rw [g1]at hx;injection hx with hx;rw [g2 b h4 (by omega)]at hy;have:=h.rest k b p y (by omega) h2 (by omega) (by omega) hp hy;omega
  ·rw [g2 a h3 ea]at hx
   by_cases eb:b=k+1
   ·subst eb
    rw [g1]at hy;injection hy with hy;have:=h.rest a k x p (by omega) (by omega) ea (by omega) hx hp;omega
   ·rw [g2 b h4 eb]at hy
    exact h.rest a b x y h1 h2 ea eb hx hy
 ·rw [g0]at hx;injection hx with hx
  by_cases eb:b=k+1
  ·subst eb
   rw [g1]at hy;injection hy with hy;omega
  ·rw [g2 b (by omega) eb]at hy
   have:=h.up b c y (by omega) h2 hc hy;omega
theorem InsSt.fin {l0 l:List Int}{i k:Nat}{p c:Int}(h:InsSt l0 l i (k+1)) (hi:k+1<=i) (hp:l[k]?=some p) (hc:l[k+1]?=some c) (hlt:¬ c<p):SortedTo l (i+1):=fun a b x y h1 h2 hx hy=>by
 by_cases ea:a=k+1
 ·subst ea;exact h.up b x y h1 (by omega) hx hy
 ·by_cases eb:b=k+1
  ·subst eb
   rw [hc]at hy;injection hy with hy;by_cases e2:a=k
   ·subst e2;rw [hp]at hx;injection hx with hx;omega
   ·have:=h.rest a k x p (by omega) (by omega) ea (by omega) hx hp;omega
  ·exact h.rest a b x y h1 (by omega) ea eb hx hy
end Go.Proofs.YtnlcfkpcmfljeaaGreat
