/-
  Cul
-/
import Derived.Test.YtadgmjdafkihfaaGreatDrw
namespace Go.Proofs.YtadgmjdafkihfaaGreat
open Go.RowKit
set_option linter.unusedVariables false
set_option linter.unusedSimpArgs false

theorem Cur.low {w w':World}{g B:Nat}(h:Cur w g) (hg:g<B) (hb:Below B w w'):Cur w' g:=by
 obtain⟨A,n,c,l,i,h,h1,h2,h3,h4,h5⟩:=h
 exact⟨A,n,c,l,i,h,(hb.block g hg).trans h1,h2.belowB hb (fun k hk hn=>Nat.lt_trans (h5 k hk hn) hg),h3,h4,h5⟩
theorem osI_ne {M:Nat}{eI t:TypeId}{w:World}{A:Option Addr}{n cap:Nat}{l:List Int}{g:Nat}{cs:List Value}{fp:List Nat}(o:OS M eI rInt w fp A n cap l) (hk:Bk w g t cs) (h2:t≠eI):g∉blk A:=by
 obtain⟨e1,_,hown,_⟩:=osInt.1 o
 subst e1
 intro hm
 rcases hown.2 with ⟨e1,_⟩|⟨g',c,cur,e1,_,q,_⟩
 ·injection e1 with e1;subst e1;simp [blk]at hm
 ·injection e1 with e1;subst e1
  simp [blk]at hm;subst hm
  unfold Bk at hk;rw [hk]at q
  injection q with q;injection q with q1 q2;exact h2 q2
theorem MS.bI {B M:Nat}{e:TypeId}{w:World}{A:Option Addr}{n cap:Nat}{l:List Int}(h:MS B M e rInt w A n cap l):OS M e rInt w (blk A) A n cap l/\(∀ k∈blk A,B<=k/\k<w.heap.size):=by
 obtain⟨fp,o,f⟩:=h
 have e:=(osInt.1 o).1
 subst e
 exact⟨o,fun k hk=>⟨f.ge k hk,o.lt rInt_ok k hk⟩⟩
theorem MS.keepI {B M:Nat}{e:TypeId}{w w':World}{A:Option Addr}{n cap:Nat}{l:List Int}(h:MS B M e rInt w A n cap l) (hk:∀ k∈blk A,w'.heap[k]?=w.heap[k]?):MS B M e rInt w' A n cap l:=by
 obtain⟨fp,o,f⟩:=h
 have e:=(osInt.1 o).1
 subst e
 exact⟨_,o.okeep rInt_ok hk,f⟩
/-- the world cut short: its first blocks alone -/
theorem trunc (w:World) (n:Nat) (h:n<=w.heap.size):∃ v:World,v.heap.size=n/\Below n v w/\∀ k,k<n->v.heap[k]?=w.heap[k]?:=by
 have e:∀ k,k<n->(w.heap.take n)[k]?=w.heap[k]?:=fun k hk=>by rw [Array.take_eq_extract,Array.getElem?_extract];simp;omega
 exact⟨{ w with heap:=w.heap.take n },by simp;omega,⟨rfl,rfl,rfl,by simp;omega,fun k hk=>(e k hk).symm⟩,e⟩
theorem MS.upto {α:Type}{r:Rp α}{B M:Nat}{e:TypeId}{w w':World}{A:Option Addr}{n cap:Nat}{l:List α}{g:Nat}(h:MS B M e r w A n cap l) (hr:r.Ok) (hc:Chg [g] w w') (hg:g<B):∃ v:World,v.heap.size=w.heap.size/\Below v.heap.size v w'/\MS B M e r v A n cap l:=by
 obtain⟨v,h1,h2,h3⟩:=trunc w' w.heap.size hc.size
 obtain⟨fp,o,f⟩:=h
 refine⟨v,h1,h1.symm▸h2,fp,o.okeep hr (fun k hk=>?_),f⟩
 have q:=o.lt hr k hk
 have:=f.ge k hk
 exact(h3 k q).trans (hc.block k q (by simp;omega))
end Go.Proofs.YtadgmjdafkihfaaGreat
