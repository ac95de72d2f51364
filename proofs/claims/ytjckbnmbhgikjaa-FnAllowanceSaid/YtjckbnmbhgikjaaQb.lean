/-
  Qb
-/
import Derived.Test.YtjckbnmbhgikjaaCul
import Derived.Test.YtjckbnmbhgikjaaKeep
import Derived.Test.YtjckbnmbhgikjaaQp
namespace Go.Proofs.Ytjckbnmbhgikjaa
open Go.RowKit
set_option linter.unusedVariables false
set_option linter.unusedSimpArgs false
theorem chgS {S:List Nat}{w0 a b:World}{B:Nat}(h:Chg S w0 a) (hb:Below B a b) (hB:w0.heap.size<=B):Chg S w0 b :=
 ⟨hb.os.trans h.os,hb.tape.trans h.tape,hb.output.trans h.output,Nat.le_trans h.size hb.size,fun k hk hn=>(hb.block k (by omega)).trans (h.block k hk hn)⟩
theorem Chg.set2 {S:List Nat}{w0 w:World}{g:Nat}(hg:g∈S) (h:Chg S w0 w) (a b:Value):Chg S w0 (set2 w g a b):=(h.setCell hg 0 a).setCell hg 1 b
theorem Bk.pst {w:World}{g r:Nat}{t:TypeId}{cs:List Value}(h:Bk w g t cs) (hne:g≠r) (u v:Value):Bk (set2 w r u v) g t cs:=((heap_setCell_other _ ⟨r,1,none⟩ g _ (fun e=>hne e)).trans (heap_setCell_other _ ⟨r,0,none⟩ g _ (fun e=>hne e))).trans h
/-- a datum drawn, of which P holds; the call owns it -/
def DrawnV {α:Type} (r:Rp α) (P:α->Prop) (g:Nat) (w:World) (e:Ending) (w':World):Prop:=∃ (x:α) (cs:List Value) (fp:List Nat),e=.returned (.agg cs.toArray)/\r.own w' fp cs x/\Fr w.heap.size fp/\P x/\Cur w' g/\Chg [g] w w'
theorem Out.trans {T:Nat}{a b c:World}(h:Out T a b) (g:Out T b c):Out T a c:=⟨Nat.le_trans h.1 g.1,fun k h1 h2=>(g.2 k h1 (Nat.lt_of_lt_of_le h2 h.1)).trans (h.2 k h1 h2)⟩
theorem Out.mono {T T':Nat}{a b:World}(h:Out T a b) (hT:T<=T'):Out T' a b:=⟨h.1,fun k h1 h2=>h.2 k (Nat.le_trans hT h1) h2⟩
theorem Out.chg {T:Nat}{S:List Nat}{a b:World}(h:Chg S a b) (hS:∀ k∈S,k<T):Out T a b:=⟨h.size,fun k h1 h2=>h.block k h2 (fun hk=>by have:=hS k hk;omega)⟩
/-- a datum that reads the same whatever becomes of the blocks below T -/
def Stb {α:Type} (r:Rp α) (T:Nat) (w:World) (cs:List Value) (x:α):Prop:=∀ W,Out T w W->r.rep W cs x
theorem Stb.out {α:Type}{r:Rp α}{T:Nat}{w w':World}{cs:List Value}{x:α}(h:Stb r T w cs x) (hc:Out T w w'):Stb r T w' cs x:=fun W hW=>h W (hc.trans hW)
theorem Stb.rep {α:Type}{r:Rp α}{T:Nat}{w:World}{cs:List Value}{x:α}(h:Stb r T w cs x):r.rep w cs x:=h w (Out.refl _ _)
theorem Stb.mono {α:Type}{r:Rp α}{T T':Nat}{w:World}{cs:List Value}{x:α}(h:Stb r T w cs x) (hT:T'<=T):Stb r T' w cs x:=fun W hW=>h W (hW.mono hT)
theorem Stb.ofOwn {α:Type}{r:Rp α}(hr:r.Ok) {T:Nat}{w:World}{fp:List Nat}{cs:List Value}{x:α}(h:r.own w fp cs x) (hg:∀ k∈fp,T<=k):Stb r T w cs x :=
 fun W hW=>hr.toRep (hr.okeep h fun k hk=>hW.2 k (hg k hk) (hr.lt h k hk))
theorem Stb.low {α:Type}{r:Rp α}(hr:r.Ok) {S:List Nat}{w W:World}{fp:List Nat}{cs:List Value}{x:α}(h:r.own w fp cs x) (hc:Chg S w W) (hS:∀ k∈fp,k∉S):r.own W fp cs x :=
 hr.okeep h fun k hk=>hc.block k (hr.lt h k hk) (hS k hk)
/-- a datum drawn, to be read -/
def DrawnR {α:Type} (r:Rp α) (g:Nat) (w:World) (e:Ending) (w':World):Prop:=∃ (x:α) (cs:List Value),e=.returned (.agg cs.toArray)/\Stb r w.heap.size w' cs x/\Cur w' g/\Chg [g] w w'
theorem own_set2 {α:Type}{r:Rp α}(hr:r.Ok) {w:World}{g:Nat}{fp:List Nat}{cs:List Value}{x:α}(h:r.own w fp cs x) (hf:Fr (g+1) fp) (a b:Value):r.own (set2 w g a b) fp cs x :=
 hr.okeep h fun k hk=>by
  have:=hf.ge k hk
  have hn:k≠g:=by omega
  exact(heap_setCell_other _ ⟨g,1,none⟩ k _ (fun e=>hn e)).trans (heap_setCell_other _ ⟨g,0,none⟩ k _ (fun e=>hn e))
theorem eiAtomD:Ei Try.prog 41 100 (.agg #[.string ⟨#[]⟩,.slice none 0 0]) (rAtom NB).size 40:=⟨by kernel_rfl,by kernel_rfl,rfl⟩
/-- the query under way: its box, its atoms from B on, below T -/
structure Qb (gQ B T:Nat) (vc:Int) (A:Option Addr) (n c:Nat) (L:List AtomD) (W:World):Prop where
 kQ:Bk W gQ 43 [.int .i64 vc,.slice A n c]
 mA:∃ fp,OS NB 100 (rAtom NB) W fp A n c L/\Fr B fp/\∀ k∈fp,k<T
 lt:gQ<B
 le:B<=T
 sz:T<=W.heap.size
/-- the atom under way -/
structure Ab (gA:Nat) (nm:ByteArray) (A:Option Addr) (n c:Nat) (V:List Int) (W:World):Prop where
 kA:Bk W gA 100 [.string nm,.slice A n c]
 mV:MS (gA+1) NB 3 rInt W A n c V
section
variable {gQ B T gA g:Nat} {vc:Int} {A AV A':Option Addr} {n c nV cV n' c':Nat} {L:List AtomD} {V V':List Int} {nm:ByteArray} {W W':World}
theorem Qb.new (h:Bk W gQ 43 [.int .i64 0,.slice none 0 0]):Qb gQ W.heap.size W.heap.size 0 none 0 0 [] W :=
 ⟨h,⟨[],⟨rfl,Nat.zero_le _,[],[],World.ownsRow_nil _ 0 _ _,rfl,trivial⟩,Fr.nil _,by simp⟩,h.lt,Nat.le_refl _,Nat.le_refl _⟩
theorem Qb.low (h:Qb gQ B T vc A n c L W) (hb:Below T W W'):Qb gQ B T vc A n c L W':=by
 obtain⟨fp,o,f,ht⟩:=h.mA
 exact⟨(hb.block _ (Nat.lt_of_lt_of_le h.lt h.le)).trans h.kQ,⟨fp,o.okeep (rAtom_ok NB) (fun k hk=>hb.block k (ht k hk)),f,ht⟩,h.lt,h.le,Nat.le_trans h.sz hb.size⟩
theorem Qb.chg (h:Qb gQ B T vc A n c L W) (hc:Chg [g] W W') (hg:g<gQ):Qb gQ B T vc A n c L W':=by
 obtain⟨fp,o,f,ht⟩:=h.mA
 exact⟨(hc.block _ h.kQ.lt (by simp;omega)).trans h.kQ,⟨fp,o.okeep (rAtom_ok NB) (fun k hk=>hc.block k (o.lt (rAtom_ok NB) k hk) (by have:=f.ge k hk;have:=h.lt;simp;omega)),f,ht⟩,h.lt,h.le,Nat.le_trans h.sz hc.size⟩
theorem Qb.rise (h:Qb gQ B T vc A n c L W) {T':Nat}(hT:T<=T') (hs:T'<=W.heap.size):Qb gQ B T' vc A n c L W:=by
 obtain⟨fp,o,f,ht⟩:=h.mA
 exact⟨h.kQ,⟨fp,o,f,fun k hk=>Nat.lt_of_lt_of_le (ht k hk) hT⟩,h.lt,Nat.le_trans h.le hT,hs⟩
theorem Qb.setVc (h:Qb gQ B T vc A n c L W) (v:Int):Qb gQ B T v A n c L (W.setCell ⟨gQ,0,none⟩ (.int .i64 v)):=by
 obtain⟨fp,o,f,ht⟩:=h.mA
 exact⟨h.kQ.set 0 _,⟨fp,o.okeep (rAtom_ok NB) (fun k hk=>heap_setCell_other _ ⟨gQ,0,none⟩ k _ (fun e=>by have:=f.ge k hk;have:=h.lt;simp at e;omega)),f,ht⟩,h.lt,h.le,by rw [World.size_setCell];exact h.sz⟩
theorem Ab.new (w:World) (gA:Nat) (h:w.heap.size=gA) (nm:ByteArray):Ab gA nm none 0 0 [] (w.alloc (.cells #[.string nm,.slice none 0 0] 100)):=by
 subst h
 exact⟨Bk.new w _ _,MS.nil _ (Nat.zero_le _)⟩
theorem Ab.below (h:Ab gA nm AV nV cV V W) (hb:Below W.heap.size W W'):Ab gA nm AV nV cV V W':=⟨h.kA.below hb,h.mV.below rInt_ok hb⟩
theorem Ab.other (h:Ab gA nm AV nV cV V W) {k j:Nat}{v:Value}(hk:k<gA):Ab gA nm AV nV cV V (W.setCell ⟨k,j,none⟩ v):=by
 obtain⟨o,hB⟩:=h.mV.bI
 refine⟨(heap_setCell_other _ ⟨k,j,none⟩ gA _ (fun e=>by simp at e;omega)).trans h.kA,h.mV.keepI (fun z hz=>heap_setCell_other _ ⟨k,j,none⟩ z _ (fun e=>?_))⟩
 have:=hB z hz;simp at e;omega
/-- a variable appended: W the world behind the append -/
theorem Ab.app {WA:World}(h:Ab gA nm AV nV cV V WA) (hm:MS (gA+1) NB 3 rInt W A' n' c' V') (hb:Below (gA+1) WA W) :
  Bk W gA 100 [.string nm,.slice AV nV cV]/\Ab gA nm A' n' c' V' (W.setCell ⟨gA,1,none⟩ (.slice A' n' c')):=by
 have k1:Bk W gA 100 [.string nm,.slice AV nV cV]:=(hb.block _ (by omega)).trans h.kA
 refine⟨k1,k1.set 1 _,hm.keepI (fun z hz=>heap_setCell_other _ ⟨gA,1,none⟩ z _ (fun e=>?_))⟩
 have:=(hm.bI.2 z hz).1;simp at e;omega
/-- the atom as an element to be appended -/
theorem Ab.own (h:Ab gA nm AV nV cV V W) (hn:nm.size<=NB):(rAtom NB).own W (blk AV) [.string nm,.slice AV nV cV] ⟨nm,V⟩/\Fr (gA+1) (blk AV):=by
 obtain⟨o,hB⟩:=h.mV.bI
 exact⟨rAtom_own.2 ⟨AV,nV,cV,blk AV,rfl,rfl,hn,o⟩,by cases AV<;>simp [blk],fun k hk=>(hB k hk).1⟩
/-- the atoms as they were in a world cut short -/
theorem Qb.base (h:Qb gQ B T vc A n c L W):∃ v:World,v.heap.size=T/\Below v.heap.size v W/\MS B NB 100 (rAtom NB) v A n c L:=by
 obtain⟨v,h1,h2,h3⟩:=trunc W T h.sz
 obtain⟨fp,o,f,ht⟩:=h.mA
 exact⟨v,h1,h1.symm▸h2,fp,o.okeep (rAtom_ok NB) (fun k hk=>h3 k (ht k hk)),f⟩
/-- an atom appended: W the world behind the append -/
theorem Qb.app {WA:World}{L':List AtomD}(h:Qb gQ B T vc A n c L WA) (hm:MS B NB 100 (rAtom NB) W A' n' c' L') (hb:Below B WA W) :
  Bk W gQ 43 [.int .i64 vc,.slice A n c]/\Qb gQ B W.heap.size vc A' n' c' L' (W.setCell ⟨gQ,1,none⟩ (.slice A' n' c')):=by
 have k1:Bk W gQ 43 [.int .i64 vc,.slice A n c]:=(hb.block _ h.lt).trans h.kQ
 obtain⟨fp,o,f⟩:=hm
 have h1:=h.lt
 have h2:B<=W.heap.size:=Nat.le_trans (Nat.le_trans h.le h.sz) hb.size
 exact⟨k1,k1.set 1 _,⟨fp,o.okeep (rAtom_ok NB) (fun k hk=>heap_setCell_other _ ⟨gQ,1,none⟩ k _ (fun e=>by have:=f.ge k hk;simp at e;omega)),f,fun k hk=>o.lt (rAtom_ok NB) k hk⟩,h1,h2,by rw [World.size_setCell];exact Nat.le_refl _⟩
/-- the query as it stands -/
theorem Qb.own (h:Qb gQ B T vc A n c L W) (hv:I64 vc):∃ fp,(rQuery NB).own W fp [.int .i64 vc,.slice A n c] ⟨vc,L⟩/\Fr B fp:=by
 obtain⟨fp,o,f,ht⟩:=h.mA
 exact⟨fp,rQuery_own.2 ⟨A,n,c,fp,rfl,rfl,hv,o⟩,f⟩
theorem Qb.len (h:Qb gQ B T vc A n c L W):L.length=n:=by obtain⟨fp,o,_⟩:=h.mA;exact o.len
end
end Go.Proofs.Ytjckbnmbhgikjaa
