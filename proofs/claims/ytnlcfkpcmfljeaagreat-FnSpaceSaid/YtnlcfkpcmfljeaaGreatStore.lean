/-
  Store
-/
import Derived.Test.YtnlcfkpcmfljeaaGreatInts
namespace Go.Proofs.YtnlcfkpcmfljeaaGreat
open Go.RowKit
theorem I64_zero:I64 0:=by unfold I64;omega
def RetS {α:Type} (e:TypeId) (r:Rp α) (l:List α) (w:World) (en:Ending) (w':World):Prop:=∃ A n cap,en=.returned (.slice A n cap)/\MS w.heap.size NB e r w' A n cap l/\Below w.heap.size w w'
def RetV {α:Type} (r:Rp α) (x:α) (w:World) (en:Ending) (w':World):Prop:=∃ cs fp,en=.returned (.agg cs.toArray)/\r.own w' fp cs x/\Fr w.heap.size fp/\Below w.heap.size w w'
def setCells (w:World) (g i:Nat):List Value->World
 | []=>w
 | v::vs=>setCells (w.setCell ⟨g,i,none⟩ v) g (i+1) vs
theorem setCells_size (w:World) (g i:Nat) (vs:List Value):(setCells w g i vs).heap.size=w.heap.size:=by
 induction vs generalizing w i with
 | nil=>rfl
 | cons v vs ih=>rw [setCells,ih,World.size_setCell]
theorem setCells_other (w:World) (g i:Nat) (vs:List Value) (k:Nat) (hk:k≠g):(setCells w g i vs).heap[k]?=w.heap[k]?:=by
 induction vs generalizing w i with
 | nil=>rfl
 | cons v vs ih=>rw [setCells,ih];exact heap_setCell_other w ⟨g,i,none⟩ k v hk
theorem Below.setCells {B:Nat}{a w:World}(h:Below B a w) {g:Nat}(hg:B<=g) (i:Nat) (vs:List Value):Below B a (setCells w g i vs):=by
 induction vs generalizing w i with
 | nil=>exact h
 | cons v vs ih=>exact ih (h.setCell hg v) _
theorem setCells_row {w:World}{e:TypeId}{size g n cap:Nat}{xs:List Value}(h:w.ownsRow 0 e size (.slice (some ⟨g,0,none⟩) n cap) n xs) (i:Nat) (vs:List Value) :
  (setCells w g i vs).ownsRow 0 e size (.slice (some ⟨g,0,none⟩) n cap) n (over xs i vs):=by
 induction vs generalizing w i xs with
 | nil=>exact h
 | cons v vs ih=>exact ih (h.stored i v).1 _
theorem flatten_set {α:Type}(fs:List (List α)) (k:Nat) (f:List α) (hk:k<fs.length):(fs.set k f).flatten=(fs.take k).flatten++(f++(fs.drop (k+1)).flatten):=by
 rw [List.set_eq_take_append_cons_drop,if_pos hk];simp
theorem flatten_split {α:Type}(fs:List (List α)) (k:Nat) (hk:k<fs.length):fs.flatten=(fs.take k).flatten++(fs[k]++(fs.drop (k+1)).flatten):=by
 have:=flatten_set fs k fs[k] hk
 rwa [List.set_getElem_self]at this
theorem Fr.set {B:Nat}{h:List Nat}{fs:List (List Nat)}{k:Nat}{f:List Nat}(hk:k<fs.length) (hh:Fr B (h++fs.flatten)) (hf:f.Nodup) (hge:∀ x∈f,B<=x) (hd:∀ x∈f,x∉h++fs.flatten):Fr B (h++(fs.set k f).flatten):=by
 have h0:=flatten_split fs k hk;rw [h0]at hh hd;rw [flatten_set fs k f hk];obtain⟨hn,hg⟩:=hh;refine⟨?_,?_⟩
 ·simp only [List.nodup_append,List.mem_append]at hn hd ⊢
  obtain⟨n1,⟨n2,⟨n3,n4,n5⟩,n6⟩,n7⟩:=hn;refine⟨n1,⟨n2,⟨hf,n4,?_⟩,?_⟩,?_⟩
  ·intro a ha b hb e;subst e;exact hd a ha (.inr (.inr (.inr hb)))
  ·intro a ha b hb e;subst e
   rcases hb with hb|hb
   ·exact hd a hb (.inr (.inl ha))
   ·exact n6 a ha a (.inr hb) rfl
  ·intro a ha b hb e;subst e
   rcases hb with hb|hb|hb
   ·exact n7 a ha a (.inl hb) rfl
   ·exact hd a hb (.inl ha)
   ·exact n7 a ha a (.inr (.inr hb)) rfl
 ·intro x hx
  simp only [List.mem_append]at hx hg;rcases hx with hx|hx|hx|hx
  ·exact hg x (.inl hx)
  ·exact hg x (.inr (.inl hx))
  ·exact hge x hx
  ·exact hg x (.inr (.inr (.inr hx)))
section
variable {α:Type} {r:Rp α} {B M:Nat} {e:TypeId} {w:World} {g n cap:Nat} {l:List α}
theorem MS.setE (hr:r.Ok) {wr:World}(h:MS B M e r wr (some ⟨g,0,none⟩) n cap l) (hb:Below wr.heap.size wr w) (hB:B<=wr.heap.size) {k:Nat}(hk:k<n) {f:List Nat}{cs:List Value}{x:α}(hx:r.own w f cs x) (hf:Fr wr.heap.size f) :
  MS B M e r (setCells w g (k*r.size) cs) (some ⟨g,0,none⟩) n cap (l.set k x):=by
 obtain⟨fp,h1,h2⟩:=h;have hlt0:=h1.lt hr;obtain⟨css,fps,h3,rfl,h4⟩:=(h1.belowS hr hb).ex;have hg0:g<wr.heap.size:=hlt0 g (by simp [blk]);have hlen:css.length=n:=by rw [h4.lens.2,h1.len]
 have hflen:fps.length=n:=by rw [h4.lens.1,h1.len]
 have hclen:=h4.clen hr;have hgn:∀ k∈fps.flatten,k≠g:=fun k hk e=>h2.disj g (by simp [blk]) (e▸hk);refine⟨_,⟨by simp [h1.len],h1.nb,css.set k cs,fps.set k f,?_,rfl,?_⟩,?_⟩
 ·rw [<- flat_set hclen (by omega) (hr.len (hr.toRep hx))]
  exact setCells_row h3 _ _
 ·refine All3.set (h4.mono fun f' c y hf' ho=>hr.okeep ho fun j hj=>setCells_other _ _ _ _ _ (hgn j (List.mem_flatten.2 ⟨f',hf',hj⟩))) (hr.okeep hx fun j hj=>setCells_other _ _ _ _ _ ?_) k
  have:=hf.ge j hj;omega
 ·exact Fr.set (by omega) h2 hf.nd (fun x hx=>Nat.le_trans hB (hf.ge x hx)) fun x hx hm=>by have:=hlt0 x hm;have:=hf.ge x hx;omega
theorem MS.hasCell (h:MS B M e r w (some ⟨g,0,none⟩) n cap l) {j:Nat}(hj:j<n*r.size):∃ v,w.cell? ⟨g,j,none⟩=some v:=by
 obtain⟨fp,h1,h2⟩:=h;obtain⟨css,fps,h3,rfl,h4⟩:=h1.ex;rw [h3.cellAt j hj];exact⟨_,List.getElem?_eq_getElem (by rw [h3.1];exact hj)⟩
theorem MS.frozenA (h:MS B M e r w (some ⟨g,0,none⟩) n cap l):∀ j,w.frozen? ⟨g,j,none⟩=false:=fun j=>h.frozen j
theorem MS.lt (h:MS B M e r w (some ⟨g,0,none⟩) n cap l):g<w.heap.size:=by
 obtain⟨fp,h1,h2⟩:=h;obtain⟨css,fps,h3,rfl,h4⟩:=h1.ex;rcases (ownsRow_form h3).2 with ⟨h0,_⟩|⟨g',h0,hg,_⟩
 ·cases h0
 ·injection h0 with h0;injection h0 with h0;omega
end
theorem madeCells_rep (z:Array Value) (n:Nat) (hz:0<z.size):(madeCells z (n*z.size)).toList=(List.replicate n z.toList).flatten:=by
 refine List.ext_getElem? fun i=>?_;have hl:((List.replicate n z.toList).flatten).length=n*z.size:=by simp
 by_cases hi:i<n*z.size
 ·rw [List.getElem?_eq_getElem (by simp [size_madeCells];exact hi),List.getElem?_eq_getElem (by rw [hl];exact hi)]
  congr 1;have hdiv:i / z.size<n:=Nat.div_lt_of_lt_mul (by rw [Nat.mul_comm];exact hi);have hmod:i % z.size<z.size:=Nat.mod_lt _ hz;have h1:=flat_get (css:=List.replicate n z.toList) (size:=z.size) (fun c hc=>by rw [List.eq_of_mem_replicate hc];simp) (i:=i / z.size) (j:=i % z.size) (c:=z.toList) (v:=z[i % z.size]) (by rw [List.getElem?_replicate,if_pos hdiv]) (by simp);have h2:i / z.size*z.size+i % z.size=i:=by rw [Nat.mul_comm];exact Nat.div_add_mod i z.size
  rw [h2,List.getElem?_eq_getElem (by rw [hl];exact hi)]at h1;injection h1 with h1;rw [h1];simp [madeCells,hmod]
 ·rw [List.getElem?_eq_none (by simp [size_madeCells];omega),List.getElem?_eq_none (by rw [hl];omega)]
theorem MS.madeE {α:Type}{r:Rp α}(hr:r.Ok) {B M:Nat}{e:TypeId}{w w1:World}{n cap:Nat}{l:List α}{z:Value}{x:α}(hl:l.length=n) (hM:n<=M) (hB:B<=w.heap.size) (hz:z.cells.size=r.size) (hx:∀ W,r.own W [] z.cells.toList x)
  (h:w1.ownsRow w.heap.size e r.size (.slice (some ⟨w.heap.size,0,none⟩) n cap) n (madeCells z.cells (n*r.size)).toList):MS B M e r w1 (some ⟨w.heap.size,0,none⟩) n cap (part x l 0):=by
 rw [part_zero,hl];refine⟨[w.heap.size],⟨by simp,hM,List.replicate n z.cells.toList,List.replicate n [],?_,by simp [blk],All3.rep [] (hx _) n rfl⟩,⟨by simp,by simp [hB]⟩⟩;rw [<- hz]at h ⊢;rw [<- madeCells_rep _ _ (by rw [hz];exact hr.pos)];exact ownsRow_base h (fun _ _=>Nat.zero_le _)
def Out (T:Nat) (w w':World):Prop:=w.heap.size<=w'.heap.size/\∀ k,T<=k->k<w.heap.size->w'.heap[k]?=w.heap[k]?
theorem Out.refl (T:Nat) (w:World):Out T w w:=⟨Nat.le_refl _,fun _ _ _=>rfl⟩
theorem Out.setCell {T:Nat}{a w:World}(h:Out T a w) {p:Addr}(hp:p.block<T) (v:Value):Out T a (w.setCell p v) :=
 ⟨by rw [World.size_setCell];exact h.1,fun k hk hk'=>(heap_setCell_other w p k v (fun e=>by omega)).trans (h.2 k hk hk')⟩
theorem Out.alloc {T:Nat}{a w:World}(h:Out T a w) (o:Obj):Out T a (w.alloc o) :=
 ⟨Nat.le_trans h.1 (by simp),fun k hk hk'=>(Below.heap_alloc w o k (Nat.lt_of_lt_of_le hk' h.1)).trans (h.2 k hk hk')⟩
theorem Out.drewN {T:Nat}{a w:World}(h:Out T a w) (n:Nat):Out T a (w.drewN n):=h
theorem Out.drew {T:Nat}{a w:World}(h:Out T a w):Out T a w.drew:=h
theorem Out.below {T:Nat}{a w w':World}(h:Out T a w) (hb:Below w.heap.size w w'):Out T a w' :=
 ⟨Nat.le_trans h.1 hb.size,fun k hk hk'=>(hb.block k (Nat.lt_of_lt_of_le hk' h.1)).trans (h.2 k hk hk')⟩
theorem bel {B:Nat}{v u w:World}(h0:Below B v u) (h:Below B v u->Below B v w:=by intro h0;repeat' (first|with_reducible exact h0|with_reducible refine Below.setCell ?_ ?_ _|with_reducible refine Below.alloc ?_ ?_ _|(simp;done)|(simp;omega)|omega)):Below B v w:=h h0
theorem bal {w:World}{o:Obj}:Below w.heap.size w (w.alloc o):=(Below.refl _ _).alloc (Nat.le_refl _) o
abbrev z30:List Value:=[.int .i64 0 ,.int .i64 0 ,.int .i64 0 ,.int .i64 0 ,.int .i64 0 ,.slice none 0 0 ,.int .i64 0 ,.int .i64 0 ,.int .i64 0 ,.int .i64 0 ,.int .i64 0 ,.slice none 0 0 ,.int .i64 0 ,.int .i64 0 ,.int .i64 0 ,.int .i64 0 ,.int .i64 0 ,.slice none 0 0 ,.int .i64 0 ,.int .i64 0 ,.int .i64 0 ,.int .i64 0 ,.int .i64 0 ,.slice none 0 0 ,.int .i64 0 ,.int .i64 0 ,.int .i64 0 ,.int .i64 0 ,.int .i64 0 ,.slice none 0 0]
theorem OS.out {α:Type}{r:Rp α}{M:Nat}{e:TypeId}{w w':World}{fp:List Nat}{A:Option Addr}{n cap:Nat}{l:List α}{T:Nat}(o:OS M e r w fp A n cap l) (hr:r.Ok) (fr:Fr T fp) (h:Out T w w'):OS M e r w' fp A n cap l :=
 o.okeep hr fun k hk=>h.2 k (fr.ge k hk) (o.lt hr k hk)
theorem MS.out {α:Type}{r:Rp α}{B M:Nat}{e:TypeId}{w w':World}{A:Option Addr}{n cap:Nat}{l:List α}(o:MS B M e r w A n cap l) (hr:r.Ok) (h:Out B w w'):MS B M e r w' A n cap l :=
 o.elim fun fp o=>⟨fp,o.1.out hr o.2 h,o.2⟩
def Bx (w:World) (g:Nat) (cs:List Value):Prop:=∀ j v,cs[j]?=some v->w.cell? ⟨g,j,none⟩=some v
theorem Bx.new (w:World) (cs:List Value) (t:TypeId):Bx (w.alloc (.cells cs.toArray t)) w.heap.size cs:=fun j v hj=>by
 rw [cell_of_row _ w.heap.size j cs.toArray t (0,0) (heap_alloc_new w _)];simpa using hj
theorem Bx.below {w w':World}{g:Nat}{cs:List Value}(h:Bx w g cs) (hb:Below w.heap.size w w'):Bx w' g cs:=fun j v hj=>cells_below hb _ _ (h j v hj)
theorem op1 (w:World) (l1:List Value) (t1:TypeId):Below w.heap.size w (w.alloc (.cells l1.toArray t1))/\Bx (w.alloc (.cells l1.toArray t1)) (w.heap.size) l1:=⟨(Below.refl _ _).alloc (Nat.le_refl _) _,Bx.new _ _ _⟩
theorem op2 (w:World) (l1:List Value) (t1:TypeId) (l2:List Value) (t2:TypeId):Below w.heap.size w ((w.alloc (.cells l1.toArray t1)).alloc (.cells l2.toArray t2))/\Bx ((w.alloc (.cells l1.toArray t1)).alloc (.cells l2.toArray t2)) (w.heap.size) l1/\Bx ((w.alloc (.cells l1.toArray t1)).alloc (.cells l2.toArray t2)) (w.heap.size+1) l2:=by
 obtain⟨hB,x1⟩:=op1 w l1 t1;have hA:=(Below.refl (World.heap (w.alloc (.cells l1.toArray t1))).size (w.alloc (.cells l1.toArray t1))).alloc (Nat.le_refl _) (.cells l2.toArray t2);have xn:=Bx.new (w.alloc (.cells l1.toArray t1)) l2 t2;simp only [World.size_alloc]at xn;exact⟨hB.trans (hA.mono hB.size),x1.below hA,xn⟩
theorem op3 (w:World) (l1:List Value) (t1:TypeId) (l2:List Value) (t2:TypeId) (l3:List Value) (t3:TypeId):Below w.heap.size w (((w.alloc (.cells l1.toArray t1)).alloc (.cells l2.toArray t2)).alloc (.cells l3.toArray t3))/\Bx (((w.alloc (.cells l1.toArray t1)).alloc (.cells l2.toArray t2)).alloc (.cells l3.toArray t3)) (w.heap.size) l1/\Bx (((w.alloc (.cells l1.toArray t1)).alloc (.cells l2.toArray t2)).alloc (.cells l3.toArray t3)) (w.heap.size+1) l2/\Bx (((w.alloc (.cells l1.toArray t1)).alloc (.cells l2.toArray t2)).alloc (.cells l3.toArray t3)) (w.heap.size+1+1) l3:=by
 obtain⟨hB,x1,x2⟩:=op2 w l1 t1 l2 t2;have hA:=(Below.refl (World.heap ((w.alloc (.cells l1.toArray t1)).alloc (.cells l2.toArray t2))).size ((w.alloc (.cells l1.toArray t1)).alloc (.cells l2.toArray t2))).alloc (Nat.le_refl _) (.cells l3.toArray t3);have xn:=Bx.new ((w.alloc (.cells l1.toArray t1)).alloc (.cells l2.toArray t2)) l3 t3;simp only [World.size_alloc]at xn;exact⟨hB.trans (hA.mono hB.size),x1.below hA,x2.below hA,xn⟩
theorem Below.of_eq {w w':World}(h:w=w'):Below w.heap.size w w':=h▸Below.refl _ _
def Bk (w:World) (g:Nat) (t:TypeId) (cs:List Value):Prop:=w.heap[g]?=some (.cells cs.toArray t (0,0))
theorem Bk.new (w:World) (cs:List Value) (t:TypeId):Bk (w.alloc (.cells cs.toArray t)) w.heap.size t cs:=heap_alloc_new w _
theorem Bk.lt {w:World}{g:Nat}{t:TypeId}{cs:List Value}(h:Bk w g t cs):g<w.heap.size:=(Array.getElem?_eq_some_iff.1 h).1
theorem Bk.below {w w':World}{g:Nat}{t:TypeId}{cs:List Value}(h:Bk w g t cs) (hb:Below w.heap.size w w'):Bk w' g t cs:=(hb.block g h.lt).trans h
theorem Bk.bx {w:World}{g:Nat}{t:TypeId}{cs:List Value}(h:Bk w g t cs):Bx w g cs:=fun j v hj=>by
 rw [cell_of_row _ g j cs.toArray t (0,0) h];simpa using hj
theorem Bk.frozen {w:World}{g:Nat}{t:TypeId}{cs:List Value}(h:Bk w g t cs) (j:Nat):w.frozen? ⟨g,j,none⟩=false:=frozen_of_row w g j cs.toArray t h
theorem Bk.set {w:World}{g:Nat}{t:TypeId}{cs:List Value}(h:Bk w g t cs) (j:Nat) (u:Value):Bk (w.setCell ⟨g,j,none⟩ u) g t (cs.set j u):=by
 unfold Bk at h ⊢;rw [heap_setCell_same w g j cs.toArray t u h];simp
end Go.Proofs.YtnlcfkpcmfljeaaGreat
