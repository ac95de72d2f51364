/-
  Mid
-/
import Derived.Deep.MidRow
import Derived.Test.YtnlcfkpcmfljeaaGreatCur
import Derived.Test.YtnlcfkpcmfljeaaGreatQp
set_option linter.unusedSimpArgs false
set_option linter.unusedVariables false
namespace Go.Proofs.YtnlcfkpcmfljeaaGreat
open Go.RowKit
theorem setCells_kit (w:World) (g i:Nat) (vs:List Value):w.setCells g i vs=setCells w g i vs:=by
 induction vs generalizing w i with
 | nil=>rfl
 | cons v vs ih=>exact ih _ _
theorem Bk.setCells {w:World}{g:Nat}{t:TypeId}{cs:List Value}(h:Bk w g t cs) (i:Nat) (vs:List Value):Bk (setCells w g i vs) g t (over cs i vs):=by
 induction vs generalizing w cs i with
 | nil=>exact h
 | cons v vs ih=>exact ih (h.set i v) _
theorem over_all {α:Type}(c d:List α) (h:c.length=d.length):over d 0 c=c:=by
 have e:=over_head c d h [];simpa only [List.append_nil]using e
theorem Bk.fill {w:World}{g:Nat}{t:TypeId}{c d:List Value}(h:Bk w g t d) (hl:c.length=d.length):Bk (Go.Proofs.YtnlcfkpcmfljeaaGreat.setCells w g 0 c) g t c:=by
 have:=Bk.setCells h 0 c
 rwa [over_all c d hl]at this
theorem Bk.otherC {w:World}{g g':Nat}{t:TypeId}{cs:List Value}(h:Bk w g t cs) (hn:g≠g') (i:Nat) (vs:List Value):Bk (Go.Proofs.YtnlcfkpcmfljeaaGreat.setCells w g' i vs) g t cs:=(setCells_other w g' i vs g hn).trans h
theorem Bx.otherC {w:World}{g g':Nat}{cs:List Value}(h:Bx w g cs) (hn:g≠g') (i:Nat) (vs:List Value):Bx (Go.Proofs.YtnlcfkpcmfljeaaGreat.setCells w g' i vs) g cs:=fun j v hj=>by
 have:=h j v hj;unfold World.cell? at this ⊢;rw [setCells_other w g' i vs g hn];exact this
theorem Out.setCells {T:Nat}{a w:World}(h:Out T a w) {g:Nat}(hg:g<T) (i:Nat) (vs:List Value):Out T a (Go.Proofs.YtnlcfkpcmfljeaaGreat.setCells w g i vs) :=
 ⟨by rw [setCells_size];exact h.1,fun k hk hk'=>(setCells_other w g i vs k (by omega)).trans (h.2 k hk hk')⟩
theorem Bk.there {w:World}{g:Nat}{t:TypeId}{cs:List Value}(h:Bk w g t cs):w.there g 0 cs.length:=fun j hj=>⟨by
 rw [Nat.zero_add,h.bx j cs[j] (List.getElem?_eq_getElem hj)];rfl,by rw [Nat.zero_add];exact h.frozen j⟩
theorem Bk.rangeAt {w:World}{g:Nat}{t:TypeId}{cs:List Value}(h:Bk w g t cs):w.rangeAt g 0 cs:=fun j v hj=>by rw [Nat.zero_add];exact h.bx j v hj
theorem results_cell1 {P:Program}{fn:Func}{tmps:Array Value}{w:World}{a:Nat}{t:TypeId}{b:Nat}{cs:List Value}{d:TypeDesc}(hr:fn.results=#[.cell a t]) (ha:tmps.getD a undef=.pointer (some ⟨b,0,none⟩))
  (hc:w.rangeAt b 0 cs) (hu:P.underlying t=some d) (hd:d.isRow=true) (hi:(P.info? t).map (·.size)=some cs.length):(results fn tmps).run P w=.ok (.agg cs.toArray) w:=by
 have hl:=run_loadVar_mid w b 0 t cs d hc hu hd hi;have ha':tmps[a]?.getD undef=.pointer (some ⟨b,0,none⟩):=by simpa using ha
 simp [results,hr,ha',asAddr,hl]
theorem sizeModelT:(Tryz.prog.info? 46).map (·.size)=some 30:=by kernel_rfl
theorem Bk.rng {w:World}{g:Nat}{t:TypeId}{cs c:List Value}(h:Bk w g t cs) (i:Nat) (hc:∀ j v,c[j]?=some v->cs[i+j]?=some v):w.rangeAt g i c:=fun j v hj=>h.bx _ v (hc j v hj)
theorem Bk.thr {w:World}{g:Nat}{t:TypeId}{cs:List Value}(h:Bk w g t cs) (i n:Nat) (hn:i+n<=cs.length):w.there g i n:=fun j hj=>⟨by
 rw [h.bx (i+j) cs[i+j] (List.getElem?_eq_getElem (by omega))];rfl,h.frozen _⟩
theorem one_rep {α:Type}{r:Rp α}(hr:r.Ok) {w:World}{cs:List Value}{x:α}(h:r.rep w cs x):cs.toArray.all (·.oneCell')=true:=all_oneCell_toArray (hr.one h)
theorem results_cs {P:Program}{fn:Func}{tmps:Array Value}{w:World}{a s:Nat}{t:TypeId}{b:Nat}{cs:List Value}{v:Value}{d:TypeDesc}(hr:fn.results=#[.cell a t,.tmp s]) (ha:tmps.getD a undef=.pointer (some ⟨b,0,none⟩)) (hs:tmps.getD s undef=v)
  (hc:w.rangeAt b 0 cs) (hu:P.underlying t=some d) (hd:d.isRow=true) (hi:(P.info? t).map (·.size)=some cs.length):(results fn tmps).run P w=.ok (.tuple #[.agg cs.toArray,v]) w:=by
 have hl:=run_loadVar_mid w b 0 t cs d hc hu hd hi;have ha':tmps[a]?.getD undef=.pointer (some ⟨b,0,none⟩):=by simpa using ha
 have hs':tmps[s]?.getD undef=v:=by simpa using hs
 simp [results,hr,ha',hs',asAddr,hl]
structure RC (P:Program) (w:World) (tmps:Array Value) (a:Nat) (t:TypeId) (cs:List Value):Prop where
 ok:∃ b,tmps[a]?.getD undef=.pointer (some ⟨b,0,none⟩)/\(loadVar t ⟨b,0,none⟩).run P w=.ok (.agg cs.toArray) w
theorem RC.mk' {P:Program}{w:World}{tmps:Array Value}{a:Nat}{t:TypeId}{b:Nat}{cs:List Value}{d:TypeDesc}(ha:tmps.getD a undef=.pointer (some ⟨b,0,none⟩))
  (hc:w.rangeAt b 0 cs) (hu:P.underlying t=some d) (hd:d.isRow=true) (hi:(P.info? t).map (·.size)=some cs.length):RC P w tmps a t cs:=by
 have ha':tmps[a]?.getD undef=.pointer (some ⟨b,0,none⟩):=by simpa using ha
 exact⟨b,ha',run_loadVar_mid w b 0 t cs d hc hu hd hi⟩
theorem results_ccc {P:Program}{fn:Func}{tmps:Array Value}{w:World}{a1 a2 a3:Nat}{t1 t2 t3:TypeId}{c1 c2 c3:List Value}(hr:fn.results=#[.cell a1 t1,.cell a2 t2,.cell a3 t3])
  (h1:RC P w tmps a1 t1 c1) (h2:RC P w tmps a2 t2 c2) (h3:RC P w tmps a3 t3 c3):(results fn tmps).run P w=.ok (.tuple #[.agg c1.toArray,.agg c2.toArray,.agg c3.toArray]) w:=by
 obtain⟨b1,p1,k1⟩:=h1.ok;obtain⟨b2,p2,k2⟩:=h2.ok;obtain⟨b3,p3,k3⟩:=h3.ok;simp [results,hr,asAddr,p1,p2,p3,k1,k2,k3]
def OutX (T z:Nat) (w w':World):Prop:=w.heap.size<=w'.heap.size/\∀ k,T<=k->k≠z->k<w.heap.size->w'.heap[k]?=w.heap[k]?
theorem OutX.trans {T z:Nat}{a b c:World}(h:OutX T z a b) (g:OutX T z b c):OutX T z a c:=⟨Nat.le_trans h.1 g.1,fun k h1 h2 h3=>(g.2 k h1 h2 (Nat.lt_of_lt_of_le h3 h.1)).trans (h.2 k h1 h2 h3)⟩
theorem OutX.cells (T z:Nat) (w:World) (i:Nat) (vs:List Value):OutX T z w (setCells w z i vs):=⟨by rw [setCells_size];exact Nat.le_refl _,fun k _ h _=>setCells_other w z i vs k h⟩
theorem OutX.cellsLow {T z b:Nat}(hb:b<T) (w:World) (i:Nat) (vs:List Value):OutX T z w (setCells w b i vs):=⟨by rw [setCells_size];exact Nat.le_refl _,fun k h _ _=>setCells_other w b i vs k (by omega)⟩
theorem OutX.ofOut {T z:Nat}{w w':World}(h:Out T w w'):OutX T z w w':=⟨h.1,fun k h1 _ h3=>h.2 k h1 h3⟩
def StX {α:Type} (r:Rp α) (T z:Nat) (w:World) (cs:List Value) (x:α):Prop:=∀ W,OutX T z w W->r.rep W cs x
theorem StX.step {α:Type}{r:Rp α}{T z:Nat}{w w':World}{cs:List Value}{x:α}(h:StX r T z w cs x) (hc:OutX T z w w'):StX r T z w' cs x:=fun W hW=>h W (hc.trans hW)
theorem StX.rep {α:Type}{r:Rp α}{T z:Nat}{w:World}{cs:List Value}{x:α}(h:StX r T z w cs x):r.rep w cs x:=h w ⟨Nat.le_refl _,fun _ _ _ _=>rfl⟩
theorem StX.ofOwn {α:Type}{r:Rp α}(hr:r.Ok) {T z:Nat}{w:World}{fp:List Nat}{cs:List Value}{x:α}(h:r.own w fp cs x) (hg:∀ k∈fp,T<=k/\k≠z):StX r T z w cs x :=
 fun W hW=>hr.toRep (hr.okeep h fun k hk=>hW.2 k (hg k hk).1 (hg k hk).2 (hr.lt h k hk))
theorem chgS {S:List Nat}{w0 a b:World}{B:Nat}(h:Chg S w0 a) (hb:Below B a b) (hB:w0.heap.size<=B):Chg S w0 b :=
 ⟨hb.os.trans h.os,hb.tape.trans h.tape,hb.output.trans h.output,Nat.le_trans h.size hb.size,fun k hk hn=>(hb.block k (by omega)).trans (h.block k hk hn)⟩
theorem Chg.set2 {S:List Nat}{w0 w:World}{g:Nat}(hg:g∈S) (h:Chg S w0 w) (a b:Value):Chg S w0 (set2 w g a b):=(h.setCell hg 0 a).setCell hg 1 b
def DrawnV {α:Type} (r:Rp α) (P:α->Prop) (g:Nat) (w:World) (e:Ending) (w':World):Prop:=∃ (x:α) (cs:List Value) (fp:List Nat),e=.returned (.agg cs.toArray)/\r.own w' fp cs x/\Fr w.heap.size fp/\P x/\Cur w' g/\Chg [g] w w'
theorem Out.trans {T:Nat}{a b c:World}(h:Out T a b) (g:Out T b c):Out T a c:=⟨Nat.le_trans h.1 g.1,fun k h1 h2=>(g.2 k h1 (Nat.lt_of_lt_of_le h2 h.1)).trans (h.2 k h1 h2)⟩
theorem Out.mono {T T':Nat}{a b:World}(h:Out T a b) (hT:T<=T'):Out T' a b:=⟨h.1,fun k h1 h2=>h.2 k (Nat.le_trans hT h1) h2⟩
theorem Out.chg {T:Nat}{S:List Nat}{a b:World}(h:Chg S a b) (hS:∀ k∈S,k<T):Out T a b:=⟨h.size,fun k h1 h2=>h.block k h2 (fun hk=>by have:=hS k hk;omega)⟩
def Stb {α:Type} (r:Rp α) (T:Nat) (w:World) (cs:List Value) (x:α):Prop:=∀ W,Out T w W->r.rep W cs x
theorem Stb.out {α:Type}{r:Rp α}{T:Nat}{w w':World}{cs:List Value}{x:α}(h:Stb r T w cs x) (hc:Out T w w'):Stb r T w' cs x:=fun W hW=>h W (hc.trans hW)
theorem Stb.rep {α:Type}{r:Rp α}{T:Nat}{w:World}{cs:List Value}{x:α}(h:Stb r T w cs x):r.rep w cs x:=h w (Out.refl _ _)
theorem Stb.mono {α:Type}{r:Rp α}{T T':Nat}{w:World}{cs:List Value}{x:α}(h:Stb r T w cs x) (hT:T'<=T):Stb r T' w cs x:=fun W hW=>h W (hW.mono hT)
theorem Stb.ofOwn {α:Type}{r:Rp α}(hr:r.Ok) {T:Nat}{w:World}{fp:List Nat}{cs:List Value}{x:α}(h:r.own w fp cs x) (hg:∀ k∈fp,T<=k):Stb r T w cs x :=
 fun W hW=>hr.toRep (hr.okeep h fun k hk=>hW.2 k (hg k hk) (hr.lt h k hk))
theorem Stb.low {α:Type}{r:Rp α}(hr:r.Ok) {S:List Nat}{w W:World}{fp:List Nat}{cs:List Value}{x:α}(h:r.own w fp cs x) (hc:Chg S w W) (hS:∀ k∈fp,k∉S):r.own W fp cs x :=
 hr.okeep h fun k hk=>hc.block k (hr.lt h k hk) (hS k hk)
def DrawnR {α:Type} (r:Rp α) (g:Nat) (w:World) (e:Ending) (w':World):Prop:=∃ (x:α) (cs:List Value),e=.returned (.agg cs.toArray)/\Stb r w.heap.size w' cs x/\Cur w' g/\Chg [g] w w'
theorem own_set2 {α:Type}{r:Rp α}(hr:r.Ok) {w:World}{g:Nat}{fp:List Nat}{cs:List Value}{x:α}(h:r.own w fp cs x) (hf:Fr (g+1) fp) (a b:Value):r.own (set2 w g a b) fp cs x :=
 hr.okeep h fun k hk=>by
  have:=hf.ge k hk;have hn:k≠g:=by omega
  exact(heap_setCell_other _ ⟨g,1,none⟩ k _ (fun e=>hn e)).trans (heap_setCell_other _ ⟨g,0,none⟩ k _ (fun e=>hn e))
theorem eiAtomD:Ei Tryz.prog 48 162 (.agg #[.string ⟨#[]⟩,.slice none 0 0]) (rAtom NB).size 40:=⟨by kernel_rfl,by kernel_rfl,rfl⟩
structure Qb (gQ B T:Nat) (vc:Int) (A:Option Addr) (n c:Nat) (L:List AtomD) (W:World):Prop where
 kQ:Bk W gQ 50 [.int .i64 vc,.slice A n c]
 mA:∃ fp,OS NB 162 (rAtom NB) W fp A n c L/\Fr B fp/\∀ k∈fp,k<T
 lt:gQ<B
 le:B<=T
 sz:T<=W.heap.size
structure Ab (gA:Nat) (nm:ByteArray) (A:Option Addr) (n c:Nat) (V:List Int) (W:World):Prop where
 kA:Bk W gA 162 [.string nm,.slice A n c]
 mV:MS (gA+1) NB 3 rInt W A n c V
section
variable {gQ B T gA g:Nat} {vc:Int} {A AV A':Option Addr} {n c nV cV n' c':Nat} {L:List AtomD} {V V':List Int} {nm:ByteArray} {W W':World}
theorem Qb.new (h:Bk W gQ 50 [.int .i64 0,.slice none 0 0]):Qb gQ W.heap.size W.heap.size 0 none 0 0 [] W :=
 ⟨h,⟨[],⟨rfl,Nat.zero_le _,[],[],World.ownsRow_nil _ 0 _ _,rfl,trivial⟩,Fr.nil _,by simp⟩,h.lt,Nat.le_refl _,Nat.le_refl _⟩
theorem Qb.low (h:Qb gQ B T vc A n c L W) (hb:Below T W W'):Qb gQ B T vc A n c L W':=by
 obtain⟨fp,o,f,ht⟩:=h.mA;exact⟨(hb.block _ (Nat.lt_of_lt_of_le h.lt h.le)).trans h.kQ,⟨fp,o.okeep (rAtom_ok NB) (fun k hk=>hb.block k (ht k hk)),f,ht⟩,h.lt,h.le,Nat.le_trans h.sz hb.size⟩
theorem Qb.chg (h:Qb gQ B T vc A n c L W) (hc:Chg [g] W W') (hg:g<gQ):Qb gQ B T vc A n c L W':=by
 obtain⟨fp,o,f,ht⟩:=h.mA;exact⟨(hc.block _ h.kQ.lt (by simp;omega)).trans h.kQ,⟨fp,o.okeep (rAtom_ok NB) (fun k hk=>hc.block k (o.lt (rAtom_ok NB) k hk) (by have:=f.ge k hk;have:=h.lt;simp;omega)),f,ht⟩,h.lt,h.le,Nat.le_trans h.sz hc.size⟩
theorem Qb.rise (h:Qb gQ B T vc A n c L W) {T':Nat}(hT:T<=T') (hs:T'<=W.heap.size):Qb gQ B T' vc A n c L W:=by
 obtain⟨fp,o,f,ht⟩:=h.mA;exact⟨h.kQ,⟨fp,o,f,fun k hk=>Nat.lt_of_lt_of_le (ht k hk) hT⟩,h.lt,Nat.le_trans h.le hT,hs⟩
theorem Qb.setVc (h:Qb gQ B T vc A n c L W) (v:Int):Qb gQ B T v A n c L (W.setCell ⟨gQ,0,none⟩ (.int .i64 v)):=by
 obtain⟨fp,o,f,ht⟩:=h.mA;exact⟨h.kQ.set 0 _,⟨fp,o.okeep (rAtom_ok NB) (fun k hk=>heap_setCell_other _ ⟨gQ,0,none⟩ k _ (fun e=>by have:=f.ge k hk;have:=h.lt;simp at e;omega)),f,ht⟩,h.lt,h.le,by rw [World.size_setCell];exact h.sz⟩
theorem Ab.new (w:World) (gA:Nat) (h:w.heap.size=gA) (nm:ByteArray):Ab gA nm none 0 0 [] (w.alloc (.cells #[.string nm,.slice none 0 0] 162)):=by
 subst h;exact⟨Bk.new w _ _,MS.nil _ (Nat.zero_le _)⟩
theorem Ab.below (h:Ab gA nm AV nV cV V W) (hb:Below W.heap.size W W'):Ab gA nm AV nV cV V W':=⟨h.kA.below hb,h.mV.below rInt_ok hb⟩
theorem Ab.other (h:Ab gA nm AV nV cV V W) {k j:Nat}{v:Value}(hk:k<gA):Ab gA nm AV nV cV V (W.setCell ⟨k,j,none⟩ v):=by
 obtain⟨o,hB⟩:=h.mV.bI;refine⟨(heap_setCell_other _ ⟨k,j,none⟩ gA _ (fun e=>by simp at e;omega)).trans h.kA,h.mV.keepI (fun z hz=>heap_setCell_other _ ⟨k,j,none⟩ z _ (fun e=>?_))⟩;have:=hB z hz;simp at e;omega
theorem Ab.app {WA:World}(h:Ab gA nm AV nV cV V WA) (hm:MS (gA+1) NB 3 rInt W A' n' c' V') (hb:Below (gA+1) WA W) :
  Bk W gA 162 [.string nm,.slice AV nV cV]/\Ab gA nm A' n' c' V' (W.setCell ⟨gA,1,none⟩ (.slice A' n' c')):=by
 have k1:Bk W gA 162 [.string nm,.slice AV nV cV]:=(hb.block _ (by omega)).trans h.kA;refine⟨k1,k1.set 1 _,hm.keepI (fun z hz=>heap_setCell_other _ ⟨gA,1,none⟩ z _ (fun e=>?_))⟩;have:=(hm.bI.2 z hz).1;simp at e;omega
theorem Ab.own (h:Ab gA nm AV nV cV V W) (hn:nm.size<=NB):(rAtom NB).own W (blk AV) [.string nm,.slice AV nV cV] ⟨nm,V⟩/\Fr (gA+1) (blk AV):=by
 obtain⟨o,hB⟩:=h.mV.bI;exact⟨rAtom_own.2 ⟨AV,nV,cV,blk AV,rfl,rfl,hn,o⟩,by cases AV<;>simp [blk],fun k hk=>(hB k hk).1⟩
theorem Qb.base (h:Qb gQ B T vc A n c L W):∃ v:World,v.heap.size=T/\Below v.heap.size v W/\MS B NB 162 (rAtom NB) v A n c L:=by
 obtain⟨v,h1,h2,h3⟩:=trunc W T h.sz;obtain⟨fp,o,f,ht⟩:=h.mA;exact⟨v,h1,h1.symm▸h2,fp,o.okeep (rAtom_ok NB) (fun k hk=>h3 k (ht k hk)),f⟩
theorem Qb.app {WA:World}{L':List AtomD}(h:Qb gQ B T vc A n c L WA) (hm:MS B NB 162 (rAtom NB) W A' n' c' L') (hb:Below B WA W) :
  Bk W gQ 50 [.int .i64 vc,.slice A n c]/\Qb gQ B W.heap.size vc A' n' c' L' (W.setCell ⟨gQ,1,none⟩ (.slice A' n' c')):=by
 have k1:Bk W gQ 50 [.int .i64 vc,.slice A n c]:=(hb.block _ h.lt).trans h.kQ;obtain⟨fp,o,f⟩:=hm;have h1:=h.lt;have h2:B<=W.heap.size:=Nat.le_trans (Nat.le_trans h.le h.sz) hb.size;exact⟨k1,k1.set 1 _,⟨fp,o.okeep (rAtom_ok NB) (fun k hk=>heap_setCell_other _ ⟨gQ,1,none⟩ k _ (fun e=>by have:=f.ge k hk;simp at e;omega)),f,fun k hk=>o.lt (rAtom_ok NB) k hk⟩,h1,h2,by rw [World.size_setCell];exact Nat.le_refl _⟩
theorem Qb.own (h:Qb gQ B T vc A n c L W) (hv:I64 vc):∃ fp,(rQuery NB).own W fp [.int .i64 vc,.slice A n c] ⟨vc,L⟩/\Fr B fp:=by
 obtain⟨fp,o,f,ht⟩:=h.mA;exact⟨fp,rQuery_own.2 ⟨A,n,c,fp,rfl,rfl,hv,o⟩,f⟩
theorem Qb.len (h:Qb gQ B T vc A n c L W):L.length=n:=by obtain⟨fp,o,_⟩:=h.mA;exact o.len
end
def OutS (S:Nat->Prop) (w w':World):Prop:=w.heap.size<=w'.heap.size/\∀ k,¬ S k->k<w.heap.size->w'.heap[k]?=w.heap[k]?
theorem OutS.trans {S:Nat->Prop}{a b c:World}(h:OutS S a b) (g:OutS S b c):OutS S a c:=⟨Nat.le_trans h.1 g.1,fun k h1 h3=>(g.2 k h1 (Nat.lt_of_lt_of_le h3 h.1)).trans (h.2 k h1 h3)⟩
def StS {α:Type} (r:Rp α) (S:Nat->Prop) (w:World) (cs:List Value) (x:α):Prop:=∀ W,OutS S w W->r.rep W cs x
theorem StS.step {α:Type}{r:Rp α}{S:Nat->Prop}{w w':World}{cs:List Value}{x:α}(h:StS r S w cs x) (hc:OutS S w w'):StS r S w' cs x:=fun W hW=>h W (hc.trans hW)
theorem StS.rep {α:Type}{r:Rp α}{S:Nat->Prop}{w:World}{cs:List Value}{x:α}(h:StS r S w cs x):r.rep w cs x:=h w ⟨Nat.le_refl _,fun _ _ _=>rfl⟩
theorem StS.ofOwn {α:Type}{r:Rp α}(hr:r.Ok) {S:Nat->Prop}{w:World}{fp:List Nat}{cs:List Value}{x:α}(h:r.own w fp cs x) (hg:∀ k∈fp,¬ S k):StS r S w cs x :=
 fun W hW=>hr.toRep (hr.okeep h fun k hk=>hW.2 k (hg k hk) (hr.lt h k hk))
theorem OutS.chg {S:Nat->Prop}{l:List Nat}{w w':World}(h:Chg l w w') (hl:∀ k∈l,S k):OutS S w w':=⟨h.size,fun k h1 h2=>h.block k h2 (fun hk=>h1 (hl k hk))⟩
theorem OutS.set {S:Nat->Prop}(w:World) (p:Addr) (v:Value) (hp:S p.block):OutS S w (w.setCell p v):=⟨by rw [World.size_setCell];exact Nat.le_refl _,fun k h1 _=>heap_setCell_other w p k v (fun e=>h1 (by rw [e];exact hp))⟩
theorem StS.next {α:Type}{r:Rp α}{S S':Nat->Prop}{w w':World}{cs:List Value}{x:α}(h:StS r S w cs x) (hs:w.heap.size<=w'.heap.size) (hk:∀ k,k<w.heap.size->¬ S k->¬ S' k/\w'.heap[k]?=w.heap[k]?):StS r S' w' cs x :=
 fun V hV=>h V ⟨Nat.le_trans hs hV.1,fun k h1 h2=>(hV.2 k (hk k h2 h1).1 (Nat.lt_of_lt_of_le h2 hs)).trans (hk k h2 h1).2⟩
end Go.Proofs.YtnlcfkpcmfljeaaGreat
