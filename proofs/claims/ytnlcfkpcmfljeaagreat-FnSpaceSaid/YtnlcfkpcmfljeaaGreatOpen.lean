/-
  Open
-/
import Derived.Test.YtnlcfkpcmfljeaaGreatBase
import Derived.Deep.Slices
import Derived.ChangeSame
import Derived.WideShapes
import Derived.Carry
namespace Go.Proofs.YtnlcfkpcmfljeaaGreat
open Go.RowKit Go.Deep Go.ChangeShapes Go.WideShapes
def Opens {α:Type} (P:Program) (t:TypeId) (r:Rp α):Prop :=
 ∀ {H:Type} {enc:TypeId × Value->H} {w:World} {base:Nat} {spare:Nat->Bool} {held:Bool} {fuel:Nat} {cs:List Value} {x:DataW H × List MemPlace},
  DataW.trod enc P w base spare held fuel t cs=some x->∃ y,r.rep w cs y
theorem cell_addr {w:World}{a:Addr}{v:Value}(h:w.cell? a=some v):a=⟨a.block,a.off,none⟩:=by
 cases a with
 | mk b o s =>
  cases s with
  | none=>rfl
  | some s =>
   exfalso;unfold World.cell? at h;split at h<;>simp at h
theorem add_addr {a:Addr}(ha:a=⟨a.block,a.off,none⟩) (j:Nat):a.add j=⟨a.block,a.off+j,none⟩:=by
 rw [ha];unfold Addr.add;split
 ·subst_vars;rfl
 ·rfl
theorem list_of_at {α:Type}(R:Nat->α->Prop) (n:Nat) (h:∀ i,i<n->∃ y,R i y):∃ l:List α,l.length=n/\∀ j x,l[j]?=some x->R j x:=by
 induction n with
 | zero=>exact⟨[],rfl,fun j x hj=>by simp at hj⟩
 | succ n ih =>
  obtain⟨l,hl,h1⟩:=ih fun i hi=>h i (by omega);obtain⟨y,hy⟩:=h n (by omega);refine⟨l++[y],by simp [hl],fun j x hj=>?_⟩;by_cases hlt:j<n
  ·rw [List.getElem?_append_left (by omega)]at hj;exact h1 j x hj
  ·have:j<(l++[y]).length:=lt_of_at hj
   have e:j=n:=by simp [hl]at this;omega
   subst e;rw [List.getElem?_append_right (by omega),hl,Nat.sub_self]at hj;simp at hj;subst hj;exact hy
theorem opens_slice {α:Type}{P:Program}{t e:TypeId}{r:Rp α}(hr:r.Ok) (ht:P.underlying t=some (.slice e)) (hC:P.cellsOf e=r.size) (he:Opens P e r):Opens P t (rSlice maxLen e r):=by
 intro H enc w base spare held fuel cs x h;rcases open_slice ht h with ⟨rfl,_⟩|⟨a,len,cap,m,n,D,Pl,rfl,_,hlc,hcm,hm,_,hel⟩
 ·exact⟨[],none,0,0,rfl,RS.nil _ _ _ _ _⟩
 ·rw [hC]at hel
  have hlm:len<=m:=by rw [hm];split<;>omega
  have hex:∀ i,i<len->∃ y,∃ cs,r.rep w cs y/\∀ j v,cs[j]?=some v->w.cell? ((a.add (i*r.size)).add j)=some v:=by
   intro i hi;obtain⟨cs',h1,h2⟩:=hel i (by omega);obtain⟨y,hy⟩:=he h2;obtain⟨_,h3,h4⟩:=World.cells?_some h1;exact⟨y,cs',hy,fun j v hj=>by rw [h4 j (by rw [<- h3];exact lt_of_at hj)];exact hj⟩
  obtain⟨l,hl,hl2⟩:=list_of_at _ len hex;refine⟨l,some a,len,cap,rfl,⟨hl,by omega,hlc,fun h0=>?_⟩⟩
  have ha:a=⟨a.block,a.off,none⟩:=by
   obtain⟨y,cs',hy,h5⟩:=hex 0 h0;have hp:=hr.len hy;have h6:=h5 0 (cs'[0]'(by rw [hp];exact hr.pos)) (List.getElem?_eq_getElem _);rw [Nat.zero_mul]at h6;exact cell_addr h6
  refine⟨a.block,a.off,by rw [<- ha],fun j x hj=>?_⟩;obtain⟨cs',h7,h8⟩:=hl2 j x hj;refine⟨cs',h7,fun i v hi=>?_⟩;have h9:=h8 i v hi;rw [add_addr ha,add_addr rfl]at h9;exact h9
end Go.Proofs.YtnlcfkpcmfljeaaGreat
