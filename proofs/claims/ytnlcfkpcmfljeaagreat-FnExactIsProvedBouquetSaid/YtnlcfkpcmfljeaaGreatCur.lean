/-
  Cur
-/
import Derived.Test.YtnlcfkpcmfljeaaGreatMarkB
import Derived.Laws.BitsAllLaws
import Derived.IntWalk
set_option linter.unusedSimpArgs false
set_option linter.unusedVariables false
namespace Go.Proofs.YtnlcfkpcmfljeaaGreat
open Go.RowKit
def rByte:Rp Int:=⟨1,fun _ cs x=>cs=[.int .u8 x]/\0<=x/\x<=255,fun _ fp cs x=>fp=[]/\cs=[.int .u8 x]/\0<=x/\x<=255⟩
theorem rByte_ok:rByte.Ok where
 pos:=by decide
 len h:=by obtain⟨rfl,_⟩:=h;rfl
 one h u hu:=by obtain⟨rfl,_⟩:=h;simp at hu;subst hu;rfl
 keep h _:=h
 toRep h:=h.2
 okeep h _:=h
 lt h k hk:=by rw [h.1]at hk;cases hk
theorem RS.belowB {M B:Nat}{w w':World}{A:Option Addr}{n cap:Nat}{l:List Int}(h:RS M rByte w A n cap l) (hb:Below B w w') (hA:∀ k∈blk A,0<n->k<B):RS M rByte w' A n cap l :=
 ⟨h.len,h.nb,h.nc,fun hn=>by
  obtain⟨b,off,e,hc⟩:=h.cell hn;subst e;refine⟨b,off,rfl,fun j x hj=>?_⟩;obtain⟨cs,h1,h2⟩:=hc j x hj;refine⟨cs,h1,fun i v hi=>?_⟩;rw [hb.cell (p:=⟨b,off+j*rByte.size+i,none⟩) (hA b (by simp [blk]) hn)];exact h2 i v hi⟩
def Cur (w:World) (g:Nat):Prop:=∃ (A:Option Addr) (n c:Nat) (l:List Int) (i:Nat) (h:Int),
 Bk w g 180 [.slice A n c,.int .i64 i,.int .i64 h]/\RS NB rByte w A n c l/\i<=n/\I64 h/\∀ k∈blk A,0<n->k<g
theorem Cur.lt {w:World}{g:Nat}(h:Cur w g):g<w.heap.size:=by obtain⟨A,n,c,l,i,h,hb,_⟩:=h;exact hb.lt
theorem Cur.below {w w':World}{g:Nat}(h:Cur w g) (hb:Below w.heap.size w w'):Cur w' g:=by
 obtain⟨A,n,c,l,i,h,h1,h2,h3⟩:=h;exact⟨A,n,c,l,i,h,h1.below hb,h2.below rByte_ok hb,h3⟩
theorem Chg.cell {fp:List Nat}{w w':World}(h:Chg fp w w') {p:Addr}(hp:p.block<w.heap.size) (hf:p.block∉fp):w'.cell? p=w.cell? p:=by
 unfold World.cell?;rw [h.block p.block hp hf]
def Drawn (P:Int->Prop) (g:Nat) (w:World) (e:Ending) (w':World):Prop:=∃ x,e=.returned (.int .i64 x)/\P x/\Cur w' g/\Chg [g] w w'
theorem Chg.of1 {g:Nat}{w w':World}(h:Chg [g] w w') {B:Nat}(hB:B<=w.heap.size) (hg:B<=g):Below B w w':=h.toBelow hB (by simp;exact hg)
theorem Cur.put {w:World}{g:Nat}{A:Option Addr}{n c:Nat}{l:List Int}{i:Nat}{h:Int}(hb:Bk w g 180 [.slice A n c,.int .i64 i,.int .i64 h]) (hr:RS NB rByte w A n c l) (hi:i<=n) (hh:I64 h) (hA:∀ k∈blk A,0<n->k<g):Cur w g:=⟨A,n,c,l,i,h,hb,hr,hi,hh,hA⟩
theorem Cur.alloc {w:World}{g:Nat}(h:Cur w g) (o:Obj):Cur (w.alloc o) g:=h.below ((Below.refl _ _).alloc (Nat.le_refl _) o)
theorem Cur.ne {w:World}{g:Nat}(h:Cur w g):∀ k∈blk (some ⟨w.heap.size,0,none⟩),k≠g:=fun k hk=>by
 have:=h.lt;simp [blk]at hk;omega
theorem Drawn.mono {P Q:Int->Prop}{g:Nat}{w w':World}{e:Ending}(h:Drawn P g w e w') (hPQ:∀ x,P x->Q x):Drawn Q g w e w':=by
 obtain⟨x,h1,h2,h3⟩:=h;exact⟨x,h1,hPQ x h2,h3⟩
theorem Cur.low {w w':World}{g B:Nat}(h:Cur w g) (hg:g<B) (hb:Below B w w'):Cur w' g:=by
 obtain⟨A,n,c,l,i,h,h1,h2,h3,h4,h5⟩:=h;exact⟨A,n,c,l,i,h,(hb.block g hg).trans h1,h2.belowB hb (fun k hk hn=>Nat.lt_trans (h5 k hk hn) hg),h3,h4,h5⟩
theorem MS.bI {B M:Nat}{e:TypeId}{w:World}{A:Option Addr}{n cap:Nat}{l:List Int}(h:MS B M e rInt w A n cap l):OS M e rInt w (blk A) A n cap l/\(∀ k∈blk A,B<=k/\k<w.heap.size):=by
 obtain⟨fp,o,f⟩:=h;have e:=(osInt.1 o).1;subst e;exact⟨o,fun k hk=>⟨f.ge k hk,o.lt rInt_ok k hk⟩⟩
theorem MS.keepI {B M:Nat}{e:TypeId}{w w':World}{A:Option Addr}{n cap:Nat}{l:List Int}(h:MS B M e rInt w A n cap l) (hk:∀ k∈blk A,w'.heap[k]?=w.heap[k]?):MS B M e rInt w' A n cap l:=by
 obtain⟨fp,o,f⟩:=h;have e:=(osInt.1 o).1;subst e;exact⟨_,o.okeep rInt_ok hk,f⟩
theorem trunc (w:World) (n:Nat) (h:n<=w.heap.size):∃ v:World,v.heap.size=n/\Below n v w/\∀ k,k<n->v.heap[k]?=w.heap[k]?:=by
 have e:∀ k,k<n->(w.heap.take n)[k]?=w.heap[k]?:=fun k hk=>by rw [Array.take_eq_extract,Array.getElem?_extract];simp;omega
 exact⟨{ w with heap:=w.heap.take n },by simp;omega,⟨rfl,rfl,rfl,by simp;omega,fun k hk=>(e k hk).symm⟩,e⟩
end Go.Proofs.YtnlcfkpcmfljeaaGreat
