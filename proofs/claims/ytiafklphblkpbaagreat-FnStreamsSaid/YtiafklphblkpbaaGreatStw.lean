/-
  Stw
-/
import Derived.Test.YtiafklphblkpbaaGreatKeep
import Derived.Test.YtiafklphblkpbaaGreatTypes
namespace Go.Proofs.YtiafklphblkpbaaGreat
open Go.RowKit
set_option linter.unusedVariables false
structure Stw (w6:World) (gX:Nat) (AV:Option Addr) (nV cV:Nat) (A:Option Addr) (n c:Nat) (L:List (List Int)) (W:World):Prop where
 kX:Bk W gX 51 [.slice AV nV cV,.slice A n c]
 ms:MS (gX+1) NB 24 (rSlice NB 3 rInt) W A n c L
 be:Below gX w6 W
 sz:gX+1<=W.heap.size
variable {w6 W W':World} {gX gR:Nat} {AV:Option Addr} {nV cV:Nat} {V:List Int} {A A':Option Addr} {n c n' c':Nat} {L L':List (List Int)}
theorem Stw.below (h:Stw w6 gX AV nV cV A n c L W) (hb:Below W.heap.size W W'):Stw w6 gX AV nV cV A n c L W' :=
 ⟨h.kX.below hb,h.ms.below (rSlice_ok NB _ rInt_ok) hb,h.be.trans (hb.mono (by have:=h.sz;omega)),Nat.le_trans h.sz hb.size⟩
/-- behind an append, and its store -/
theorem Stw.app (h:Stw w6 gX AV nV cV A n c L W) (hm:MS (gX+1) NB 24 (rSlice NB 3 rInt) W' A' n' c' L') (hb:Below (gX+1) W W') :
  Stw w6 gX AV nV cV A' n' c' L' (W'.setCell ⟨gX,1,none⟩ (.slice A' n' c')):=by
 have hs:∀ k,k≠gX->(W'.setCell ⟨gX,1,none⟩ (.slice A' n' c')).heap[k]?=W'.heap[k]?:=fun k hk=>heap_setCell_other _ _ k _ (fun e=>hk e)
 have k1:Bk W' gX 51 [.slice AV nV cV,.slice A n c]:=(hb.block _ (by omega)).trans h.kX
 refine⟨k1.set 1 _,?_,(h.be.trans (hb.mono (by omega))).setCell (p:=⟨gX,1,none⟩) (Nat.le_refl _) _,by rw [World.size_setCell];exact Nat.le_trans h.sz hb.size⟩
 obtain⟨f,o,fr⟩:=hm
 exact⟨f,o.okeep (rSlice_ok NB _ rInt_ok) (fun k hk=>hs k (by have:=fr.ge k hk;omega)),fr⟩
/-- handed back -/
theorem Stw.fin {w:World}(h:Stw w6 gX AV nV cV A n c L W) (ov:OS NB 3 rInt w6 (blk AV) AV nV cV V) (hV:∀ k∈blk AV,gR<k/\k<gX) (hR:gR<gX) (hw:w.heap.size<=gR) (hB:Below w.heap.size w W) (u v:Value) :
  ∃ fp,(rStream NB).own (set2 W gR u v) fp [.slice AV nV cV,.slice A n c] ⟨V,L⟩/\Fr w.heap.size fp/\Below w.heap.size w (set2 W gR u v):=by
 have hs:∀ k,k≠gR->(set2 W gR u v).heap[k]?=W.heap[k]?:=fun k hk=>(heap_setCell_other _ ⟨gR,1,none⟩ k _ (fun e=>hk e)).trans (heap_setCell_other _ ⟨gR,0,none⟩ k _ (fun e=>hk e))
 obtain⟨f,o,fr⟩:=h.ms
 refine⟨blk AV++f,rStream_own.2 ⟨AV,nV,cV,A,n,c,blk AV,f,rfl,rfl,ov.okeep rInt_ok (fun k hk=>(hs k (by have:=hV k hk;omega)).trans (h.be.block k (hV k hk).2)),o.okeep (rSlice_ok NB _ rInt_ok) (fun k hk=>hs k (by have:=fr.ge k hk;omega))⟩,⟨List.nodup_append.2 ⟨by cases AV<;>simp [blk],fr.nd,fun a ha b hb e=>by have:=hV a ha;have:=fr.ge b hb;omega⟩,fun k hk=>?_⟩,bls2 hB hw _ _⟩
 rcases List.mem_append.1 hk with hk|hk
 ·have:=hV k hk;omega
 ·have:=fr.ge k hk;omega
theorem zStm_r (w:World) (w0:World) (h:Below w0.heap.size w0 w):∃ cs fp,Ending.returned (.tuple #[.agg #[.slice none 0 0,.slice none 0 0],.bool false])=.returned (.tuple #[.agg cs.toArray,.bool false])/\(rStream NB).own w fp cs ⟨[],[]⟩/\Fr w0.heap.size fp/\Below w0.heap.size w0 w :=
 ⟨[.slice none 0 0,.slice none 0 0],[],rfl,zStream_own w,Fr.nil _,h⟩
end Go.Proofs.YtiafklphblkpbaaGreat
