/-
  Mid
-/
import Derived.Test.YtjckbnmbhgikjaaTypes
import Derived.Test.YtjckbnmbhgikjaaKeep
import Derived.Deep.MidRow
import Derived.Test.YtjckbnmbhgikjaaQb
namespace Go.Proofs.Ytjckbnmbhgikjaa
open Go.RowKit
set_option linter.unusedVariables false
set_option linter.unusedSimpArgs false

theorem setCells_kit (w:World) (g i:Nat) (vs:List Value):w.setCells g i vs=setCells w g i vs:=by
 induction vs generalizing w i with
 | nil=>rfl
 | cons v vs ih=>exact ih _ _
theorem Bk.setCells {w:World}{g:Nat}{t:TypeId}{cs:List Value}(h:Bk w g t cs) (i:Nat) (vs:List Value):Bk (setCells w g i vs) g t (over cs i vs):=by
 induction vs generalizing w cs i with
 | nil=>exact h
 | cons v vs ih=>exact ih (h.set i v) _
theorem over_all {α:Type}(c d:List α) (h:c.length=d.length):over d 0 c=c:=by
 have e:=over_head c d h []
 simpa only [List.append_nil]using e
theorem Bk.fill {w:World}{g:Nat}{t:TypeId}{c d:List Value}(h:Bk w g t d) (hl:c.length=d.length):Bk (Go.Proofs.Ytjckbnmbhgikjaa.setCells w g 0 c) g t c:=by
 have:=Bk.setCells h 0 c
 rwa [over_all c d hl]at this
theorem Bk.otherC {w:World}{g g':Nat}{t:TypeId}{cs:List Value}(h:Bk w g t cs) (hn:g≠g') (i:Nat) (vs:List Value):Bk (Go.Proofs.Ytjckbnmbhgikjaa.setCells w g' i vs) g t cs:=(setCells_other w g' i vs g hn).trans h
theorem Bx.otherC {w:World}{g g':Nat}{cs:List Value}(h:Bx w g cs) (hn:g≠g') (i:Nat) (vs:List Value):Bx (Go.Proofs.Ytjckbnmbhgikjaa.setCells w g' i vs) g cs:=fun j v hj=>by
 have:=h j v hj
 unfold World.cell? at this ⊢
 rw [setCells_other w g' i vs g hn];exact this
theorem Out.setCells {T:Nat}{a w:World}(h:Out T a w) {g:Nat}(hg:g<T) (i:Nat) (vs:List Value):Out T a (Go.Proofs.Ytjckbnmbhgikjaa.setCells w g i vs) :=
 ⟨by rw [setCells_size];exact h.1,fun k hk hk'=>(setCells_other w g i vs k (by omega)).trans (h.2 k hk hk')⟩
theorem Bk.there {w:World}{g:Nat}{t:TypeId}{cs:List Value}(h:Bk w g t cs):w.there g 0 cs.length:=fun j hj=>⟨by
 rw [Nat.zero_add,h.bx j cs[j] (List.getElem?_eq_getElem hj)];rfl,by rw [Nat.zero_add];exact h.frozen j⟩
theorem Bk.rangeAt {w:World}{g:Nat}{t:TypeId}{cs:List Value}(h:Bk w g t cs):w.rangeAt g 0 cs:=fun j v hj=>by rw [Nat.zero_add];exact h.bx j v hj
theorem results_cell1 {P:Program}{fn:Func}{tmps:Array Value}{w:World}{a:Nat}{t:TypeId}{b:Nat}{cs:List Value}{d:TypeDesc}(hr:fn.results=#[.cell a t]) (ha:tmps.getD a undef=.pointer (some ⟨b,0,none⟩))
  (hc:w.rangeAt b 0 cs) (hu:P.underlying t=some d) (hd:d.isRow=true) (hi:(P.info? t).map (·.size)=some cs.length):(results fn tmps).run P w=.ok (.agg cs.toArray) w:=by
 have hl:=run_loadVar_mid w b 0 t cs d hc hu hd hi
 have ha':tmps[a]?.getD undef=.pointer (some ⟨b,0,none⟩):=by simpa using ha
 simp [results,hr,ha',asAddr,hl]
theorem sizeModelT:(Try.prog.info? 28).map (·.size)=some 30:=by kernel_rfl
theorem Bk.rng {w:World}{g:Nat}{t:TypeId}{cs c:List Value}(h:Bk w g t cs) (i:Nat) (hc:∀ j v,c[j]?=some v->cs[i+j]?=some v):w.rangeAt g i c:=fun j v hj=>h.bx _ v (hc j v hj)
theorem Bk.thr {w:World}{g:Nat}{t:TypeId}{cs:List Value}(h:Bk w g t cs) (i n:Nat) (hn:i+n<=cs.length):w.there g i n:=fun j hj=>⟨by
 rw [h.bx (i+j) cs[i+j] (List.getElem?_eq_getElem (by omega))];rfl,h.frozen _⟩
theorem one_rep {α:Type}{r:Rp α}(hr:r.Ok) {w:World}{cs:List Value}{x:α}(h:r.rep w cs x):cs.toArray.all (·.oneCell')=true:=all_oneCell_toArray (hr.one h)
theorem loadC {P:Program}{w:World}{b:Nat}{t:TypeId}{cs:List Value}(hc:w.rangeAt b 0 cs) {d:TypeDesc}(hu:P.underlying t=some d) (hd:d.isRow=true) (hi:(P.info? t).map (·.size)=some cs.length):(loadVar t ⟨b,0,none⟩).run P w=.ok (.agg cs.toArray) w:=run_loadVar_mid w b 0 t cs d hc hu hd hi
/-- two results: a box, a slot -/
theorem results_cs {P:Program}{fn:Func}{tmps:Array Value}{w:World}{a s:Nat}{t:TypeId}{b:Nat}{cs:List Value}{v:Value}{d:TypeDesc}(hr:fn.results=#[.cell a t,.tmp s]) (ha:tmps.getD a undef=.pointer (some ⟨b,0,none⟩)) (hs:tmps.getD s undef=v)
  (hc:w.rangeAt b 0 cs) (hu:P.underlying t=some d) (hd:d.isRow=true) (hi:(P.info? t).map (·.size)=some cs.length):(results fn tmps).run P w=.ok (.tuple #[.agg cs.toArray,v]) w:=by
 have hl:=run_loadVar_mid w b 0 t cs d hc hu hd hi
 have ha':tmps[a]?.getD undef=.pointer (some ⟨b,0,none⟩):=by simpa using ha
 have hs':tmps[s]?.getD undef=v:=by simpa using hs
 simp [results,hr,ha',hs',asAddr,hl]
/-- a result in a box -/
structure RC (P:Program) (w:World) (tmps:Array Value) (a:Nat) (t:TypeId) (cs:List Value):Prop where
 ok:∃ b,tmps[a]?.getD undef=.pointer (some ⟨b,0,none⟩)/\(loadVar t ⟨b,0,none⟩).run P w=.ok (.agg cs.toArray) w
theorem RC.mk' {P:Program}{w:World}{tmps:Array Value}{a:Nat}{t:TypeId}{b:Nat}{cs:List Value}{d:TypeDesc}(ha:tmps.getD a undef=.pointer (some ⟨b,0,none⟩))
  (hc:w.rangeAt b 0 cs) (hu:P.underlying t=some d) (hd:d.isRow=true) (hi:(P.info? t).map (·.size)=some cs.length):RC P w tmps a t cs:=by
 have ha':tmps[a]?.getD undef=.pointer (some ⟨b,0,none⟩):=by simpa using ha
 exact⟨b,ha',run_loadVar_mid w b 0 t cs d hc hu hd hi⟩
theorem results_tcccc {P:Program}{fn:Func}{tmps:Array Value}{w:World}{s a1 a2 a3 a4:Nat}{t1 t2 t3 t4:TypeId}{c1 c2 c3 c4:List Value}{v:Value}(hr:fn.results=#[.tmp s,.cell a1 t1,.cell a2 t2,.cell a3 t3,.cell a4 t4]) (hs:tmps.getD s undef=v)
  (h1:RC P w tmps a1 t1 c1) (h2:RC P w tmps a2 t2 c2) (h3:RC P w tmps a3 t3 c3) (h4:RC P w tmps a4 t4 c4):(results fn tmps).run P w=.ok (.tuple #[v,.agg c1.toArray,.agg c2.toArray,.agg c3.toArray,.agg c4.toArray]) w:=by
 have hs':tmps[s]?.getD undef=v:=by simpa using hs
 obtain⟨b1,p1,k1⟩:=h1.ok
 obtain⟨b2,p2,k2⟩:=h2.ok
 obtain⟨b3,p3,k3⟩:=h3.ok
 obtain⟨b4,p4,k4⟩:=h4.ok
 simp [results,hr,hs',asAddr,p1,p2,p3,p4,k1,k2,k3,k4]
theorem results_ctttt {P:Program}{fn:Func}{tmps:Array Value}{w:World}{a1 s1 s2 s3 s4:Nat}{t1:TypeId}{c1:List Value}{v1 v2 v3 v4:Value}(hr:fn.results=#[.cell a1 t1,.tmp s1,.tmp s2,.tmp s3,.tmp s4])
  (h1:RC P w tmps a1 t1 c1) (q1:tmps.getD s1 undef=v1) (q2:tmps.getD s2 undef=v2) (q3:tmps.getD s3 undef=v3) (q4:tmps.getD s4 undef=v4):(results fn tmps).run P w=.ok (.tuple #[.agg c1.toArray,v1,v2,v3,v4]) w:=by
 have e1:tmps[s1]?.getD undef=v1:=by simpa using q1
 have e2:tmps[s2]?.getD undef=v2:=by simpa using q2
 have e3:tmps[s3]?.getD undef=v3:=by simpa using q3
 have e4:tmps[s4]?.getD undef=v4:=by simpa using q4
 obtain⟨b1,p1,k1⟩:=h1.ok
 simp [results,hr,asAddr,e1,e2,e3,e4,p1,k1]
theorem results_cc {P:Program}{fn:Func}{tmps:Array Value}{w:World}{a1 a2:Nat}{t1 t2:TypeId}{c1 c2:List Value}(hr:fn.results=#[.cell a1 t1,.cell a2 t2])
  (h1:RC P w tmps a1 t1 c1) (h2:RC P w tmps a2 t2 c2):(results fn tmps).run P w=.ok (.tuple #[.agg c1.toArray,.agg c2.toArray]) w:=by
 obtain⟨b1,p1,k1⟩:=h1.ok
 obtain⟨b2,p2,k2⟩:=h2.ok
 simp [results,hr,asAddr,p1,p2,k1,k2]
theorem results_ccc {P:Program}{fn:Func}{tmps:Array Value}{w:World}{a1 a2 a3:Nat}{t1 t2 t3:TypeId}{c1 c2 c3:List Value}(hr:fn.results=#[.cell a1 t1,.cell a2 t2,.cell a3 t3])
  (h1:RC P w tmps a1 t1 c1) (h2:RC P w tmps a2 t2 c2) (h3:RC P w tmps a3 t3 c3):(results fn tmps).run P w=.ok (.tuple #[.agg c1.toArray,.agg c2.toArray,.agg c3.toArray]) w:=by
 obtain⟨b1,p1,k1⟩:=h1.ok
 obtain⟨b2,p2,k2⟩:=h2.ok
 obtain⟨b3,p3,k3⟩:=h3.ok
 simp [results,hr,asAddr,p1,p2,p3,k1,k2,k3]
/-- what is kept: the blocks from T on but block z -/
def OutX (T z:Nat) (w w':World):Prop:=w.heap.size<=w'.heap.size/\∀ k,T<=k->k≠z->k<w.heap.size->w'.heap[k]?=w.heap[k]?
theorem OutX.trans {T z:Nat}{a b c:World}(h:OutX T z a b) (g:OutX T z b c):OutX T z a c:=⟨Nat.le_trans h.1 g.1,fun k h1 h2 h3=>(g.2 k h1 h2 (Nat.lt_of_lt_of_le h3 h.1)).trans (h.2 k h1 h2 h3)⟩
theorem OutX.cells (T z:Nat) (w:World) (i:Nat) (vs:List Value):OutX T z w (setCells w z i vs):=⟨by rw [setCells_size];exact Nat.le_refl _,fun k _ h _=>setCells_other w z i vs k h⟩
theorem OutX.cellsLow {T z b:Nat}(hb:b<T) (w:World) (i:Nat) (vs:List Value):OutX T z w (setCells w b i vs):=⟨by rw [setCells_size];exact Nat.le_refl _,fun k h _ _=>setCells_other w b i vs k (by omega)⟩
theorem OutX.ofOut {T z:Nat}{w w':World}(h:Out T w w'):OutX T z w w':=⟨h.1,fun k h1 _ h3=>h.2 k h1 h3⟩
/-- a datum that reads the same whatever becomes of block z and of the blocks below T -/
def StX {α:Type} (r:Rp α) (T z:Nat) (w:World) (cs:List Value) (x:α):Prop:=∀ W,OutX T z w W->r.rep W cs x
theorem StX.step {α:Type}{r:Rp α}{T z:Nat}{w w':World}{cs:List Value}{x:α}(h:StX r T z w cs x) (hc:OutX T z w w'):StX r T z w' cs x:=fun W hW=>h W (hc.trans hW)
theorem StX.rep {α:Type}{r:Rp α}{T z:Nat}{w:World}{cs:List Value}{x:α}(h:StX r T z w cs x):r.rep w cs x:=h w ⟨Nat.le_refl _,fun _ _ _ _=>rfl⟩
theorem StX.ofOwn {α:Type}{r:Rp α}(hr:r.Ok) {T z:Nat}{w:World}{fp:List Nat}{cs:List Value}{x:α}(h:r.own w fp cs x) (hg:∀ k∈fp,T<=k/\k≠z):StX r T z w cs x :=
 fun W hW=>hr.toRep (hr.okeep h fun k hk=>hW.2 k (hg k hk).1 (hg k hk).2 (hr.lt h k hk))
end Go.Proofs.Ytjckbnmbhgikjaa
namespace Go.Proofs.Ytjckbnmbhgikjaa
open Go.RowKit
set_option linter.unusedVariables false
set_option linter.unusedSimpArgs false
/-- what is kept: the blocks that S leaves out -/
def OutS (S:Nat->Prop) (w w':World):Prop:=w.heap.size<=w'.heap.size/\∀ k,¬ S k->k<w.heap.size->w'.heap[k]?=w.heap[k]?
theorem OutS.trans {S:Nat->Prop}{a b c:World}(h:OutS S a b) (g:OutS S b c):OutS S a c:=⟨Nat.le_trans h.1 g.1,fun k h1 h3=>(g.2 k h1 (Nat.lt_of_lt_of_le h3 h.1)).trans (h.2 k h1 h3)⟩
def StS {α:Type} (r:Rp α) (S:Nat->Prop) (w:World) (cs:List Value) (x:α):Prop:=∀ W,OutS S w W->r.rep W cs x
theorem StS.step {α:Type}{r:Rp α}{S:Nat->Prop}{w w':World}{cs:List Value}{x:α}(h:StS r S w cs x) (hc:OutS S w w'):StS r S w' cs x:=fun W hW=>h W (hc.trans hW)
theorem StS.rep {α:Type}{r:Rp α}{S:Nat->Prop}{w:World}{cs:List Value}{x:α}(h:StS r S w cs x):r.rep w cs x:=h w ⟨Nat.le_refl _,fun _ _ _=>rfl⟩
theorem StS.ofOwn {α:Type}{r:Rp α}(hr:r.Ok) {S:Nat->Prop}{w:World}{fp:List Nat}{cs:List Value}{x:α}(h:r.own w fp cs x) (hg:∀ k∈fp,¬ S k):StS r S w cs x :=
 fun W hW=>hr.toRep (hr.okeep h fun k hk=>hW.2 k (hg k hk) (hr.lt h k hk))
theorem StS.stb {α:Type}{r:Rp α}{S:Nat->Prop}{T:Nat}{w:World}{cs:List Value}{x:α}(h:StS r S w cs x) (hS:∀ k,¬ S k->T<=k):Stb r T w cs x :=
 fun W hW=>h W ⟨hW.1,fun k h1 h2=>hW.2 k (hS k h1) h2⟩
theorem Stb.sts {α:Type}{r:Rp α}{S:Nat->Prop}{T:Nat}{w w':World}{cs:List Value}{x:α}(h:Stb r T w cs x) (hs:w.heap.size<=w'.heap.size) (hk:∀ k,T<=k->k<w.heap.size->¬ S k/\w'.heap[k]?=w.heap[k]?):StS r S w' cs x :=
 fun W hW=>h W ⟨Nat.le_trans hs hW.1,fun k h1 h2=>(hW.2 k (hk k h1 h2).1 (Nat.lt_of_lt_of_le h2 hs)).trans (hk k h1 h2).2⟩
theorem OutS.chg {S:Nat->Prop}{l:List Nat}{w w':World}(h:Chg l w w') (hl:∀ k∈l,S k):OutS S w w':=⟨h.size,fun k h1 h2=>h.block k h2 (fun hk=>h1 (hl k hk))⟩
theorem OutS.set {S:Nat->Prop}(w:World) (p:Addr) (v:Value) (hp:S p.block):OutS S w (w.setCell p v):=⟨by rw [World.size_setCell];exact Nat.le_refl _,fun k h1 _=>heap_setCell_other w p k v (fun e=>h1 (by rw [e];exact hp))⟩
theorem StS.next {α:Type}{r:Rp α}{S S':Nat->Prop}{w w':World}{cs:List Value}{x:α}(h:StS r S w cs x) (hs:w.heap.size<=w'.heap.size) (hk:∀ k,k<w.heap.size->¬ S k->¬ S' k/\w'.heap[k]?=w.heap[k]?):StS r S' w' cs x :=
 fun V hV=>h V ⟨Nat.le_trans hs hV.1,fun k h1 h2=>(hV.2 k (hk k h2 h1).1 (Nat.lt_of_lt_of_le h2 hs)).trans (hk k h2 h1).2⟩
/-- a cursor stands though boxes without bytes turn -/
theorem Cur.boxed {w w':World}{g:Nat}(h:Cur w g) (R:Nat->Prop) (hR:∀ z,R z->z≠g/\∃ t cs,Bk w z t cs/\∀ v∈cs,∀ x,v≠.int .u8 x) (hs:w.heap.size<=w'.heap.size) (hk:∀ z,z<w.heap.size->¬ R z->w'.heap[z]?=w.heap[z]?):Cur w' g:=by
 have hlt:=h.lt
 obtain⟨A,n,c,l,i,x,h0,h1,h2,h3,h4⟩:=h
 refine⟨A,n,c,l,i,x,(hk g hlt (fun e=>(hR g e).1 rfl)).trans h0,⟨h1.len,h1.nb,h1.nc,fun hn=>?_⟩,h2,h3,h4⟩
 obtain⟨b,off,rfl,hc⟩:=h1.cell hn
 refine⟨b,off,rfl,fun j y hj=>?_⟩
 obtain⟨cs,hr,hcell⟩:=hc j y hj
 refine⟨cs,hr,fun q v hq=>?_⟩
 have hcv:=hcell q v hq
 have hb:b<w.heap.size:=World.block_lt_of_cell? w _ hcv
 have hnR:¬ R b:=fun e=>by
  obtain⟨_,t,bs,hk2,hno⟩:=hR b e
  unfold World.cell? at hcv
  unfold Bk at hk2
  rw [hk2]at hcv
  simp at hcv
  obtain⟨rfl,hy⟩:=hr
  have hv:v=.int .u8 y:=by
   have:=mem_of_at hq;simpa using this
  subst hv
  exact hno _ (mem_of_at hcv) y rfl
 have:=hk b hb hnR
 unfold World.cell? at hcv ⊢
 rw [this];exact hcv
end Go.Proofs.Ytjckbnmbhgikjaa
