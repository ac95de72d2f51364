/-
  JnU
-/
import Derived.Test.YtiafklphblkpbaaGreatKeep
import Derived.Test.YtiafklphblkpbaaGreatJnT
namespace Go.Proofs.YtiafklphblkpbaaGreat
open Go.RowKit
set_option linter.unusedVariables false
set_option linter.unusedSimpArgs false

theorem MS.neI {B M:Nat}{eI t:TypeId}{w:World}{A:Option Addr}{n cap:Nat}{l:List Int}{g:Nat}{cs:List Value}{fp:List Nat}(o:OS M eI rInt w fp A n cap l) (hk:Bk w g t cs) (h2:t≠eI):g∉fp:=by
 obtain⟨e1,_,hown,_⟩:=osInt.1 o
 subst e1
 intro hm
 rcases hown.2 with ⟨e1,_⟩|⟨g',c,cur,e1,_,q,_⟩
 ·injection e1 with e1;subst e1;simp [blk]at hm
 ·injection e1 with e1;subst e1
  simp [blk]at hm;subst hm
  unfold Bk at hk;rw [hk]at q
  injection q with q;injection q with q1 q2;exact h2 q2
def OwnS (w:World) (B:Nat) (cs:List Value) (x:StreamD):Prop:=∃ fp,(rStream NB).own w fp cs x/\Fr B fp
theorem OwnS.below {w w':World}{B:Nat}{cs:List Value}{x:StreamD}(h:OwnS w B cs x) (hb:Below w.heap.size w w'):OwnS w' B cs x:=by
 obtain⟨fp,o,f⟩:=h;exact⟨fp,(rStream_ok NB).ownB o hb,f⟩
theorem OwnS.zero (w:World) (B:Nat):OwnS w B [.slice none 0 0,.slice none 0 0] ⟨[],[]⟩:=⟨[],zStream_own _,Fr.nil _⟩
theorem mkOwn {B:Nat}{w w':World}{AV AR:Option Addr}{nV cV nR cR:Nat}{V:List Int}{R:List (List Int)}(hV:MS B NB 3 rInt w AV nV cV V) (hR:MS w.heap.size NB 24 (rSlice NB 3 rInt) w' AR nR cR R) (hB:B<=w.heap.size) (hb:Below w.heap.size w w') :
  OwnS w' B [.slice AV nV cV,.slice AR nR cR] ⟨V,R⟩:=by
 obtain⟨f1,o1,r1⟩:=hV
 obtain⟨f2,o2,r2⟩:=hR
 exact⟨f1++f2,rStream_own.2 ⟨AV,nV,cV,AR,nR,cR,f1,f2,rfl,rfl,o1.belowS rInt_ok hb,o2⟩,Fr.append r1 r2 (fun k hk=>o1.lt rInt_ok k hk) hB⟩
theorem jfin {w W:World}{B gA gR:Nat}{cs cA:List Value}{x:StreamD}{v u1 u2 v1 v2:Value}(h:OwnS W B cs x) (hA:Bk W gA 51 cA) (hR:gR<B) (hwR:w.heap.size<=gR) (hwA:w.heap.size<=gA) (hb:Below w.heap.size w W) :
  RetVB (rStream NB) x v w (.returned (.tuple #[.agg cs.toArray,v])) ((((W.setCell ⟨gA,0,none⟩ u1).setCell ⟨gA,1,none⟩ u2).setCell ⟨gR,0,none⟩ v1).setCell ⟨gR,1,none⟩ v2):=by
 obtain⟨fp,o,f⟩:=h
 refine⟨cs,fp,rfl,(rStream_ok NB).okeep o (fun z hz=>?_),f.mono (by omega),bset2 (bset2 hb hwA _ _) hwR _ _⟩
 have hz2:=f.ge z hz
 have hn:z≠gA:=by
  obtain⟨A1,n1,c1,A2,n2,c2,f1,f2,rfl,rfl,o1,o2⟩:=rStream_own.1 o
  rcases List.mem_append.1 hz with h|h
  ·exact fun e=>MS.neI (B:=0) o1 hA neS2 (e▸h)
  ·exact fun e=>o2.neII hA neS1 neS2 (e▸h)
 have hn2:z≠gR:=by omega
 exact(heap_setCell_other _ ⟨gR,1,none⟩ z _ (fun e=>hn2 e)).trans ((heap_setCell_other _ ⟨gR,0,none⟩ z _ (fun e=>hn2 e)).trans ((heap_setCell_other _ ⟨gA,1,none⟩ z _ (fun e=>hn e)).trans (heap_setCell_other _ ⟨gA,0,none⟩ z _ (fun e=>hn e))))

end Go.Proofs.YtiafklphblkpbaaGreat
