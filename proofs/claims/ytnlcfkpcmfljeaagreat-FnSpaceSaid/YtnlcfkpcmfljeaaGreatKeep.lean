/-
  Keep, Tk, Ta, Tg, Apb, Bkl
-/
import Derived.Test.YtnlcfkpcmfljeaaGreatStore
import Derived.Deep.AppendLies
import Derived.OrdersHeld
import Derived.Deep.RegionHeld3
import Derived.Deep.MidRow
set_option linter.unusedSimpArgs false
set_option linter.unusedVariables false
namespace Go.Proofs.YtnlcfkpcmfljeaaGreat
open Go.RowKit
theorem Qt.belowS {w w':World}(h:Qt w w'):Below w.heap.size w w':=h.below _
theorem Rp.Ok.ownB {α:Type}{r:Rp α}(hr:r.Ok) {w w':World}{f:List Nat}{cs:List Value}{x:α}(h:r.own w f cs x) (hb:Below w.heap.size w w'):r.own w' f cs x:=hr.okeep h fun k hk=>hb.block k (hr.lt h k hk)
theorem ret_ints {a b c d:Int}(h:a=c) (h':b=d):Ending.returned (.tuple #[.int .i64 a,.int .i64 b])=.returned (.tuple #[.int .i64 c,.int .i64 d]):=by rw [h,h']
theorem Below.qt {B:Nat}{a w w':World}(h:Below B a w) (q:Qt w w') (hB:B<=w.heap.size):Below B a w':=h.trans (q.belowS.mono hB)
theorem MS.base {α:Type}{r:Rp α}{B B' M:Nat}{e:TypeId}{w:World}{A:Option Addr}{n cap:Nat}{l:List α}(h:MS B M e r w A n cap l) (hB:B'<=B):MS B' M e r w A n cap l:=h.elim fun fp h=>⟨fp,h.1,h.2.mono hB⟩
def RetVB {α:Type} (r:Rp α) (x:α) (v:Value) (w:World) (en:Ending) (w':World):Prop:=∃ cs fp,en=.returned (.tuple #[.agg cs.toArray,v])/\r.own w' fp cs x/\Fr w.heap.size fp/\Below w.heap.size w w'
def RetSB {α:Type} (e:TypeId) (r:Rp α) (l:List α) (v:Value) (w:World) (en:Ending) (w':World):Prop:=∃ A n cap,en=.returned (.tuple #[.slice A n cap,v])/\MS w.heap.size NB e r w' A n cap l/\Below w.heap.size w w'
def Rp.Flat {α:Type} (r:Rp α):Prop:=∀ {w w':World} {cs:List Value} {x:α},r.rep w cs x->r.own w' [] cs x
theorem rInt_flat:rInt.Flat:=fun h=>⟨rfl,h⟩
theorem rPair_flat {α β:Type}{r:Rp α}{q:Rp β}(hr:r.Flat) (hq:q.Flat):(rPair r q).Flat:=fun h=>by
 obtain⟨c1,c2,rfl,h1,h2⟩:=h;exact⟨[],[],c1,c2,rfl,rfl,hr h1,hq h2⟩
theorem rIso_flat {α β:Type}{r:Rp α}(hr:r.Flat) (f:β->α):(rIso r f).Flat:=fun h=>hr h
section
variable {α:Type} {r:Rp α} {B M:Nat} {e:TypeId} {w:World} {A:Option Addr} {n cap:Nat} {l:List α}
theorem All3.app {own:List Nat->List Value->α->Prop}{fs fs':List (List Nat)}{cs cs':List (List Value)}{xs xs':List α}(h:All3 own fs cs xs) (h':All3 own fs' cs' xs'):All3 own (fs++fs') (cs++cs') (xs++xs'):=by
 induction fs generalizing cs xs with
 | nil=>cases cs<;>cases xs<;>simp_all [All3]
 | cons f fs ih=>cases cs with
  | nil=>simp [All3]at h
  | cons c cs=>cases xs with
   | nil=>simp [All3]at h
   | cons x xs=>exact⟨h.1,ih h.2⟩
theorem All3.mk' {own:List Nat->List Value->α->Prop}{fs:List (List Nat)}{cs:List (List Value)}{xs:List α}(h1:fs.length=xs.length) (h2:cs.length=xs.length)
  (h:∀ (j:Nat) f c x,fs[j]?=some f->cs[j]?=some c->xs[j]?=some x->own f c x):All3 own fs cs xs:=by
 induction fs generalizing cs xs with
 | nil =>
  have e1:xs=[]:=List.eq_nil_of_length_eq_zero (by simpa using h1.symm);subst e1;have e2:cs=[]:=List.eq_nil_of_length_eq_zero (by simpa using h2);subst e2;simp [All3]
 | cons f fs ih=>cases xs with
  | nil=>simp at h1
  | cons x xs=>cases cs with
   | nil=>simp at h2
   | cons c cs=>exact⟨h 0 f c x rfl rfl rfl,ih (by simpa using h1) (by simpa using h2) fun j f c x a b d=>h (j+1) f c x (by simpa using a) (by simpa using b) (by simpa using d)⟩
theorem RS.all (h:RS M r w A n cap l):∃ css:List (List Value),css.length=n/\(∀ (j:Nat) x,l[j]?=some x->∃ c,css[j]?=some c/\r.rep w c x) /\
  ∀ b off,A=some ⟨b,off,none⟩->∀ (j:Nat) c,css[j]?=some c->∀ (i:Nat) v,c[i]?=some v->w.cell? ⟨b,off+j*r.size+i,none⟩=some v:=by
 rcases Nat.eq_zero_or_pos n with h0|h0
 ·subst h0
  have hl:l=[]:=List.eq_nil_of_length_eq_zero h.len;subst hl;exact⟨[],rfl,fun j x hj=>by simp at hj,fun b off _ j c hj=>by simp at hj⟩
 ·obtain⟨b,off,e,hc⟩:=h.cell h0
  have hl:=h.len
  have key:∀ k,k<=n->∃ css:List (List Value),css.length=k/\∀ j:Nat,j<k->∃ c x,css[j]?=some c/\l[j]?=some x/\r.rep w c x/\∀ (i:Nat) v,c[i]?=some v->w.cell? ⟨b,off+j*r.size+i,none⟩=some v:=by
   intro k
   induction k with
   | zero=>intro _;exact⟨[],rfl,fun j hj=>by omega⟩
   | succ k ih =>
    intro hk;obtain⟨css,hlen,hcs⟩:=ih (by omega);have hx:l[k]?=some (l[k]'(by omega)):=List.getElem?_eq_getElem (by omega);obtain⟨c,h1,h2⟩:=hc k _ hx;refine⟨css++[c],by simp [hlen],fun j hj=>?_⟩;by_cases hjk:j<k
    ·obtain⟨c',x',g1,g2,g3,g4⟩:=hcs j hjk
     exact⟨c',x',by rw [List.getElem?_append_left (by omega)];exact g1,g2,g3,g4⟩
    ·obtain rfl:j=k:=by omega
     exact⟨c,_,by rw [List.getElem?_append_right (by omega)];simp [hlen],hx,h1,h2⟩
  obtain⟨css,hlen,hcs⟩:=key n (Nat.le_refl _);refine⟨css,hlen,fun j x hj=>?_,fun b' off' e' j c hj i v hi=>?_⟩
  ·obtain⟨c,x',g1,g2,g3,_⟩:=hcs j (by have:=lt_of_at hj;omega)
   rw [hj]at g2;injection g2 with g2;subst g2;exact⟨c,g1,g3⟩
  ·rw [e]at e';injection e' with e';injection e' with e1 e2;subst e1;subst e2
   obtain⟨c',x',g1,g2,g3,g4⟩:=hcs j (by have:=lt_of_at hj;omega);rw [hj]at g1;injection g1 with g1;subst g1;exact g4 i v hi
theorem flat_idx {css:List (List Value)}{size:Nat}(hs:0<size) (h:∀ c∈css,c.length=size) {j:Nat}{u:Value}(hj:css.flatten[j]?=some u):∃ c,css[j / size]?=some c/\c[j % size]?=some u:=by
 have hlt:j<css.length*size:=by rw [<- flat_length h];exact lt_of_at hj
 have hd:j / size<css.length:=Nat.div_lt_of_lt_mul (by rw [Nat.mul_comm];exact hlt);have hm:j % size<size:=Nat.mod_lt _ hs;have hc:css[j / size]?=some css[j / size]:=List.getElem?_eq_getElem hd;have hl:(css[j / size]).length=size:=h _ (List.getElem_mem hd);have hv:(css[j / size])[j % size]?=some ((css[j / size])[j % size]'(by rw [hl];exact hm)):=List.getElem?_eq_getElem (by rw [hl];exact hm);have:=flat_get h hc hv;rw [Nat.mul_comm,Nat.div_add_mod,hj]at this;injection this with this;exact⟨_,hc,by rw [hv,this]⟩
theorem run_apps {P:Program}(ty t:TypeId) (z:Value) (bytes:Nat) (ei:Ei P t e z r.size bytes) (hr:r.Ok) {wr:World}
  (h:MS B M e r wr A n cap l) (hb:Below wr.heap.size wr w) (hB:B<=wr.heap.size)
  {A2:Option Addr} {n2 cap2:Nat} {l2:List α} {fs2:List (List Nat)} {css2:List (List Value)} (h2:All3 (r.own w) fs2 css2 l2) (hn2:l2.length=n2) (hfr:Fr wr.heap.size fs2.flatten)
  (hc2:0<n2->∃ b off,A2=some ⟨b,off,none⟩/\∀ (j:Nat) c,css2[j]?=some c->∀ (i:Nat) v,c[i]?=some v->w.cell? ⟨b,off+j*r.size+i,none⟩=some v)
  (hn:n+n2<=M) (hM:M<=4294967296) (hby:(n+n2)*bytes<=140737488355328) :
  ∃ A' cap' w',(Builtin.append_ #[t,t] ty #[.slice A n cap,.slice A2 n2 cap2]).run P w=.ok (.slice A' (n+n2) cap') w'/\MS B M e r w' A' (n+n2) cap' (l++l2)/\Below B w w'/\w.grownBy w' (A.map (·.block)):=by
 obtain⟨i,hi,h1,h3,h4⟩:=info_parts ei.hi;obtain⟨fp,hO,hfp⟩:=h;have hlt0:=hO.lt hr;have hO':=hO.belowS hr hb;obtain⟨css,fps,hown,rfl,h6⟩:=hO'.ex;have hcl2:=h2.clen hr;have hl2:=h2.lens;rcases A2 with _|ad
 ·have h0:n2=0:=by
   rcases Nat.eq_zero_or_pos n2 with h0|h0
   ·exact h0
   ·obtain⟨_,_,e,_⟩:=hc2 h0;cases e
  subst h0;have hl:l2=[]:=List.eq_nil_of_length_eq_zero hn2;subst hl
  have hrun:(Builtin.append_ #[t,t] ty #[.slice A n cap,.slice none 0 cap2]).run P w=.ok (.slice A n cap) w:=by
   rcases hown.2 with ⟨hv,rfl⟩|⟨g,cp,cur,hv,_,_,hnc,_⟩
   ·injection hv with a b c;subst a;subst c
    simp [Builtin.append_,run_underlying ei.ht,sizeOf,typeInfo,hi,Builtin.lenOf,Builtin.firstCells]
   ·injection hv with a b c;subst a;subst c
    simp [Builtin.append_,run_underlying ei.ht,sizeOf,typeInfo,hi,Builtin.lenOf,Builtin.firstCells,hnc,storeCells]
  exact⟨A,cap,w,hrun,by rw [List.append_nil];exact⟨_,hO',hfp⟩,Below.refl _ _,World.grownBy.refl _ _⟩
 ·have hnews:∀ j u,css2.flatten[j]?=some u->w.cell? (ad.add j)=some u:=by
   intro j u hj;obtain⟨c,hc,hu⟩:=flat_idx hr.pos hcl2 hj
   have h0:0<n2:=by
    have g1:=lt_of_at hc;rw [hl2.2,hn2]at g1;exact Nat.lt_of_le_of_lt (Nat.zero_le _) g1
   obtain⟨b,off,e,hcell⟩:=hc2 h0;injection e with e;subst e;have:=hcell _ c hc _ u hu
   have e2:(⟨b,off,none⟩:Addr).add j=⟨b,off+j / r.size*r.size+j % r.size,none⟩:=by
    have:j / r.size*r.size+j % r.size=j:=by rw [Nat.mul_comm];exact Nat.div_add_mod j r.size
    have e3:(⟨b,off,none⟩:Addr).add j=⟨b,off+j,none⟩:=by unfold Addr.add;split<;>simp_all
    rw [e3,Nat.add_assoc,this]
   rw [e2];exact this
  have hone:∀ u∈css2.flatten,u.oneCell'=true:=by
   intro u hu;obtain⟨c,hc,hu⟩:=List.mem_flatten.1 hu;obtain⟨j,hj,rfl⟩:=List.getElem_of_mem hc;have hx:l2[j]?=some (l2[j]'(by omega)):=List.getElem?_eq_getElem (by omega);obtain⟨f,c',_,g2,g3⟩:=h2.get hx;rw [List.getElem?_eq_getElem hj]at g2;injection g2 with g2;rw [<- g2]at g3;exact hr.one (hr.toRep g3) u hu
  obtain⟨v',w',hrun,r1,r2,_,r4⟩:=run_append_own_at (P:=P) w 0 t ty e i z r.size bytes ei.ht hi h1 h3 h4 ei.hz hr.pos (.slice A n cap) n css.flatten hown ad n2 cap2 css2.flatten (by rw [flat_length hcl2,hl2.2,hn2]) hnews hone (by unfold maxLen;omega) hby (Nat.zero_le _);obtain⟨A',cap',rfl⟩:=ownsRow_slice r1;rw [blk_own]at r2 r4;rw [blk_own]at r4;have hbl:Below B w w':=MS.grown ⟨_,hO,hfp⟩ hb hB r2;refine⟨A',cap',w',hrun,?_,hbl,r2⟩;have hkeep:∀ k,k<w.heap.size->k∉blk A->w'.heap[k]?=w.heap[k]?:=fun k hk hne=>r2.block k hk (fun e=>hne (mem_blk.2 e.symm));have hdj:=hfp.disj
  have hlt2:∀ k∈fs2.flatten,k<w.heap.size:=by
   intro k hk;obtain⟨f,hf,hk⟩:=List.mem_flatten.1 hk;obtain⟨j,hj,rfl⟩:=List.getElem_of_mem hf;obtain⟨f',c,g1,_,g3⟩:=h2.get (List.getElem?_eq_getElem (l:=l2) (i:=j) (by rw [<- hl2.1];exact hj));rw [List.getElem?_eq_getElem hj]at g1;injection g1 with g1;exact hr.lt g3 k (g1▸hk)
  refine⟨blk A'++(fps++fs2).flatten,⟨by simp [hO.len,hn2],hn,css++css2,fps++fs2,?_,rfl,?_⟩,?_⟩
  ·rw [List.flatten_append];exact r1
  ·refine All3.app (h6.mono fun f c x hf ho=>hr.okeep ho fun k hk=>?_) (h2.mono fun f c x hf ho=>hr.okeep ho fun k hk=>?_)
   ·have hm:k∈fps.flatten:=List.mem_flatten.2 ⟨f,hf,hk⟩
    exact hkeep k (Nat.lt_of_lt_of_le (hlt0 k (List.mem_append_right _ hm)) hb.size) (fun hk'=>hdj k hk' hm)
   ·have hm:k∈fs2.flatten:=List.mem_flatten.2 ⟨f,hf,hk⟩
    refine hkeep k (hlt2 k hm) (fun hk'=>?_);have:=hlt0 k (List.mem_append_left _ hk');have:=hfr.ge k hm;omega
  ·rw [List.flatten_append]
   have hmid:Fr B (fps.flatten++fs2.flatten):=hfp.right.append hfr (fun k hk=>hlt0 k (List.mem_append_right _ hk)) hB;refine⟨List.nodup_append.2 ⟨by cases A'<;>simp [blk],hmid.nd,fun a ha b hb' e=>?_⟩,fun k hk=>?_⟩
   ·subst e
    rcases r4 with hA|hA
    ·have ha':a∈blk A:=mem_blk.2 (hA▸mem_blk.1 ha)
     rcases List.mem_append.1 hb' with hb'|hb'
     ·exact hdj a ha' hb'
     ·have:=hlt0 a (List.mem_append_left _ ha');have:=hfr.ge a hb';omega
    ·have ha':a=w.heap.size:=by have:=mem_blk.1 ha;rw [hA]at this;injection this with this;exact this.symm
     rcases List.mem_append.1 hb' with hb'|hb'
     ·have:=hlt0 a (List.mem_append_right _ hb');have:=hb.size;omega
     ·have:=hlt2 a hb';omega
   ·rcases List.mem_append.1 hk with hk|hk
    ·rcases r4 with hA|hA
     ·exact hfp.left.ge k (mem_blk.2 (hA▸mem_blk.1 hk))
     ·have:=mem_blk.1 hk;rw [hA]at this;injection this with this;have:=hb.size;omega
    ·exact hmid.ge k hk
theorem run_appf {P:Program}(ty t:TypeId) (z:Value) (bytes:Nat) (ei:Ei P t e z r.size bytes) (hr:r.Ok) (hfl:r.Flat) {wr:World}
  (h:MS B M e r wr A n cap l) (hb:Below wr.heap.size wr w) (hB:B<=wr.heap.size)
  {A2:Option Addr} {n2 cap2:Nat} {l2:List α} {M2:Nat} (h2:RS M2 r w A2 n2 cap2 l2)
  (hn:n+n2<=M) (hM:M<=4294967296) (hby:(n+n2)*bytes<=140737488355328) :
  ∃ A' cap' w',(Builtin.append_ #[t,t] ty #[.slice A n cap,.slice A2 n2 cap2]).run P w=.ok (.slice A' (n+n2) cap') w'/\MS B M e r w' A' (n+n2) cap' (l++l2)/\Below B w w'/\w.grownBy w' (A.map (·.block)):=by
 obtain⟨css,hl,h3,h4⟩:=h2.all;have hln:=h2.len
 have hall:All3 (r.own w) (List.replicate n2 []) css l2:=by
  clear h4 hn hby h h2
  induction l2 generalizing css n2 with
  | nil=>simp at hln;subst hln;have:=List.eq_nil_of_length_eq_zero hl;subst this;simp [All3]
  | cons x xs ih =>
   simp at hln;subst hln;cases css with
   | nil=>simp at hl
   | cons c cs =>
    obtain⟨c',g1,g2⟩:=h3 0 x rfl;simp at g1;subst g1;refine⟨hfl g2,ih cs (by simpa using hl) ?_ rfl⟩;intro j y hj;exact h3 (j+1) y (by simpa using hj)
 refine run_apps ty t z bytes ei hr h hb hB hall hln ?_ (fun h0=>?_) hn hM hby
 ·rw [flatten_nils];exact Fr.nil _
 ·obtain⟨b,off,e,_⟩:=h2.cell h0
  exact⟨b,off,e,h4 b off e⟩
theorem wpList_appf {P:Program}{ops:Array Oper}{rest:List Oper}{o:Oper}{a:Act}{Q:Exit->Act->World->Prop}(hgd:o.guard=none) (s x:Operand) (t:TypeId)
  (ho:o.op=.call { callee:=.builtin .append,args:=#[s,x],argTypes:=#[t,t] }) (z:Value) (bytes:Nat) (ei:Ei P t e z r.size bytes) (hr:r.Ok) (hfl:r.Flat) {wr:World}
  (hs:a.eval s=.slice A n cap) (h:MS B M e r wr A n cap l) (hb:Below wr.heap.size wr w) (hB:B<=wr.heap.size)
  {A2:Option Addr} {n2 cap2:Nat} {l2:List α} {M2:Nat} (hx:a.eval x=.slice A2 n2 cap2) (h2:RS M2 r w A2 n2 cap2 l2)
  (hn:n+n2<=M) (hM:M<=4294967296) (hby:(n+n2)*bytes<=140737488355328)
  (K:∀ A' cap' w',MS B M e r w' A' (n+n2) cap' (l++l2)->Below B w w'->w.grownBy w' (A.map (·.block))->wpList P ops Q rest (a.put o.dst (.slice A' (n+n2) cap')) w') :
  wpList P ops Q (o::rest) a w:=by
 obtain⟨A',cap',w',hrun,g1,g2,g3⟩:=run_appf (P:=P) o.type t z bytes ei hr hfl h hb hB h2 hn hM hby;refine wpList_plain hgd fun K' hK=>?_;unfold Oper.wp execOp;simp only [ho,resolve,invoke,builtin,Sem.run_bind,Sem.run_pure,Result.andThen_ok,List.map_toArray,List.map_cons,List.map_nil,hs,hx,hrun];exact hK _ _ (K A' cap' w' g1 g2 g3)
theorem run_appe {P:Program}(ty t:TypeId) (z:Value) (bytes:Nat) (ei:Ei P t e z r.size bytes) (hr:r.Ok) (hfl:r.Flat) {g:Nat}(hg:w.heap[g]?=some (.cells #[] e (0,0)))
  {A2:Option Addr} {n2 cap2:Nat} {l2:List α} {M2:Nat} (h2:RS M2 r w A2 n2 cap2 l2) (hn:n2<=M) (hM:M<=4294967296) (hby:n2*bytes<=140737488355328) :
  ∃ A' cap' w',(Builtin.append_ #[t,t] ty #[.slice (some ⟨g,0,none⟩) 0 0,.slice A2 n2 cap2]).run P w=.ok (.slice A' n2 cap') w'/\OS M e r w' (blk A') A' n2 cap' l2/\(∀ k∈blk A',k=g\/k=w.heap.size)/\Below w.heap.size w w':=by
 obtain⟨i,hi,h1,h3,h4⟩:=info_parts ei.hi;have hlen:=h2.len;rcases Nat.eq_zero_or_pos n2 with h0|h0
 ·subst h0
  have hl:l2=[]:=List.eq_nil_of_length_eq_zero hlen;subst hl;refine⟨some ⟨g,0,none⟩,0,w,?_,⟨rfl,Nat.zero_le _,[],[],⟨by simp,.inr ⟨g,0,#[],rfl,Nat.zero_le _,hg,Nat.le_refl _,Nat.zero_le _,by simp,by simp⟩⟩,by simp,trivial⟩,by simp [blk],Below.refl _ _⟩;rcases A2 with _|ad
  ·simp [Builtin.append_,run_underlying ei.ht,sizeOf,typeInfo,hi,Builtin.lenOf,Builtin.firstCells,storeCells]
  ·simp [Builtin.append_,run_underlying ei.ht,sizeOf,typeInfo,hi,Builtin.lenOf,Builtin.firstCells,loadCells,loadCellsFrom,storeCells]
 ·obtain⟨css,hl,h5,h6⟩:=h2.all
  obtain⟨b,off,rfl,_⟩:=h2.cell h0
  have hcl:∀ c∈css,c.length=r.size:=by
   intro c hc;obtain⟨j,hj,rfl⟩:=List.getElem_of_mem hc;have hx:l2[j]?=some (l2[j]'(by omega)):=List.getElem?_eq_getElem (by omega);obtain⟨c',g1,g2⟩:=h5 j _ hx;rw [List.getElem?_eq_getElem hj]at g1;injection g1 with g1;rw [g1];exact hr.len g2
  have hall:All3 (r.own w) (List.replicate n2 []) css l2:=by
   refine All3.mk' (by simp [hlen]) (by omega) fun j f c x a b d=>?_;obtain⟨c',g1,g2⟩:=h5 j x d;rw [b]at g1;injection g1 with g1;subst g1;rw [List.getElem?_replicate]at a;split at a
   ·injection a with a;subst a;exact hfl g2
   ·cases a
  have hnews:∀ j u,css.flatten[j]?=some u->w.cell? ((⟨b,off,none⟩:Addr).add j)=some u:=by
   intro j u hj;obtain⟨c,hc,hu⟩:=flat_idx hr.pos hcl hj;have:=h6 b off rfl _ c hc _ u hu
   have e2:(⟨b,off,none⟩:Addr).add j=⟨b,off+j / r.size*r.size+j % r.size,none⟩:=by
    have:j / r.size*r.size+j % r.size=j:=by rw [Nat.mul_comm];exact Nat.div_add_mod j r.size
    have e3:(⟨b,off,none⟩:Addr).add j=⟨b,off+j,none⟩:=by unfold Addr.add;split<;>simp_all
    rw [e3,Nat.add_assoc,this]
   rw [e2];exact this
  have hlf:css.flatten.length=n2*i.size:=by rw [flat_length hcl,hl,h3]
  have hrun:=run_append_grow (P:=P) w t ty e i z ei.ht hi h1 ⟨g,0,none⟩ 0 0 [] (by simp) (fun j v hj=>by simp at hj) ⟨b,off,none⟩ n2 cap2 css.flatten hlf hnews (by omega) (by omega) (by rw [nextslicecap_zero (by omega),h4];simp only [Nat.zero_add];omega)
  have hone:∀ u∈css.flatten,u.oneCell'=true:=by
   intro u hu;obtain⟨c,hc,hu⟩:=List.mem_flatten.1 hu;obtain⟨j,hj,rfl⟩:=List.getElem_of_mem hc;have hx:l2[j]?=some (l2[j]'(by omega)):=List.getElem?_eq_getElem (by omega);obtain⟨c',g1,g2⟩:=h5 j _ hx;rw [List.getElem?_eq_getElem hj]at g1;injection g1 with g1;rw [<- g1]at g2;exact hr.one g2 u hu
  obtain⟨v',w',hrun2,r1,_,_,_⟩:=run_append_own_at (P:=P) w 0 t ty e i z r.size bytes ei.ht hi h1 h3 h4 ei.hz hr.pos (.slice (some ⟨g,0,none⟩) 0 0) 0 [] ⟨by simp,.inr ⟨g,0,#[],rfl,Nat.zero_le _,hg,Nat.le_refl _,Nat.zero_le _,by simp,by simp⟩⟩ ⟨b,off,none⟩ n2 cap2 css.flatten (by rw [flat_length hcl,hl]) hnews hone (by unfold maxLen;omega) (by simpa using hby) (Nat.zero_le _);have heq:=hrun2.symm.trans hrun;injection heq with e1 e2;have hb:Below w.heap.size w w':=by rw [e2];exact((Below.refl _ _).drew).alloc (Nat.le_refl _) _
  rw [e1]at r1 hrun2;simp only [Nat.zero_add,List.nil_append]at r1 hrun2;refine⟨_,_,w',hrun2,⟨hlen,hn,css,List.replicate n2 [],r1,by simp,hall.mono fun f c x _ ho=>hr.okeep ho fun k hk=>hb.block k (hr.lt ho k hk)⟩,by simp [blk],hb⟩
theorem step_appe {P:Program}{ops:Array Oper}{o:Oper}{a:Act}{K:Act->World->Prop}{Q:Exit->Act->World->Prop}{E:Prop}(hgd:o.guard=none) (s x:Operand) (t:TypeId)
  (ho:o.op=.call { callee:=.builtin .append,args:=#[s,x],argTypes:=#[t,t] }) (z:Value) (bytes:Nat) (ei:Ei P t e z r.size bytes) (hr:r.Ok) (hfl:r.Flat) {g:Nat}
  (hs:a.eval s=.slice (some ⟨g,0,none⟩) 0 0) (hg:w.heap[g]?=some (.cells #[] e (0,0)))
  {A2:Option Addr} {n2 cap2:Nat} {l2:List α} {M2:Nat} (hx:a.eval x=.slice A2 n2 cap2) (h2:RS M2 r w A2 n2 cap2 l2)
  (hn:n2<=M) (hM:M<=4294967296) (hby:n2*bytes<=140737488355328)
  (hK:∀ A' cap' w',OS M e r w' (blk A') A' n2 cap' l2->(∀ k∈blk A',k=g\/k=w.heap.size)->Below w.heap.size w w'->K (a.put o.dst (.slice A' n2 cap')) w') :
  if Region.wanted o (yielded ops a.tmps)=true then Oper.wp P o a w K Q else E:=by
 have hw:Region.wanted o (yielded ops a.tmps)=true:=by simp [Region.wanted,hgd]
 rw [if_pos hw];obtain⟨A',cap',w',hrun,g1,g2,g3⟩:=run_appe (P:=P) (M:=M) o.type t z bytes ei hr hfl hg h2 hn hM hby;unfold Oper.wp execOp;simp only [ho,resolve,invoke,builtin,Sem.run_bind,Sem.run_pure,Result.andThen_ok,List.map_toArray,List.map_cons,List.map_nil,hs,hx,hrun];exact hK _ _ _ g1 g2 g3
theorem wpList_appe {P:Program}{ops:Array Oper}{rest:List Oper}{o:Oper}{a:Act}{Q:Exit->Act->World->Prop}(hgd:o.guard=none) (s x:Operand) (t:TypeId)
  (ho:o.op=.call { callee:=.builtin .append,args:=#[s,x],argTypes:=#[t,t] }) (z:Value) (bytes:Nat) (ei:Ei P t e z r.size bytes) (hr:r.Ok) (hfl:r.Flat) {g:Nat}
  (hs:a.eval s=.slice (some ⟨g,0,none⟩) 0 0) (hg:w.heap[g]?=some (.cells #[] e (0,0)))
  {A2:Option Addr} {n2 cap2:Nat} {l2:List α} {M2:Nat} (hx:a.eval x=.slice A2 n2 cap2) (h2:RS M2 r w A2 n2 cap2 l2)
  (hn:n2<=M) (hM:M<=4294967296) (hby:n2*bytes<=140737488355328)
  (hK:∀ A' cap' w',OS M e r w' (blk A') A' n2 cap' l2->(∀ k∈blk A',k=g\/k=w.heap.size)->Below w.heap.size w w'->wpList P ops Q rest (a.put o.dst (.slice A' n2 cap')) w') :
  wpList P ops Q (o::rest) a w:=by
 obtain⟨A',cap',w',hrun,g1,g2,g3⟩:=run_appe (P:=P) (M:=M) o.type t z bytes ei hr hfl hg h2 hn hM hby;refine wpList_plain hgd fun K' hK'=>?_;unfold Oper.wp execOp;simp only [ho,resolve,invoke,builtin,Sem.run_bind,Sem.run_pure,Result.andThen_ok,List.map_toArray,List.map_cons,List.map_nil,hs,hx,hrun];exact hK' _ _ (hK A' cap' w' g1 g2 g3)
end
theorem putS:(∀ (a:Act) (d:Tmp) (v:Value),a.put (some d) v={ a with tmps:=a.tmps.setIfInBounds d v })/\(∀ (a:Act) (v:Value),a.put none v=a)/\(∀ (l:List Value) (i:Nat) (v:Value),l.toArray.setIfInBounds i v=(l.set i v).toArray) /\
  (∀ (x:Value) (l:List Value) (v:Value),(x::l).set 0 v=v::l)/\(∀ (x:Value) (l:List Value) (n:Nat) (v:Value),(x::l).set (n+1) v=x::l.set n v) :=
 ⟨fun _ _ _=>rfl,fun _ _=>rfl,fun _ _ _=>List.setIfInBounds_toArray ..,fun _ _ _=>rfl,fun _ _ _ _=>rfl⟩
theorem tka {P:Program}{ops:Array Oper}{Q:Exit->Act->World->Prop}{md:Region.Mode}{S:World->Prop}(i:Nat) (d:Tmp) {op:Op}{ty:TypeId}{pos:String}{af:Array Edge}{gd:Option (Nat × Bool)}{v:Value}{fuel:Nat}{listed:Array Bool}{a:Act}{w:World}
  (hS:S w) (h:wpAnyH P md ops Q S fuel (listed.setIfInBounds i true) (a.put (some d) v) w)
  (hi:ops[i]?=some ⟨some d,op,ty,pos,af,gd⟩:=by rfl) (hs:Region.noSelect ops=true:=by kernel_rfl) (hf:Region.free md ops listed i=true:=by kernel_rfl) (hr:(Region.ready md ops listed).contains i=true:=by kernel_rfl)
  (hQ:∀ c a w,Q (.panic c) (a.put (some d) v) w->Q (.panic c) a w:=by exact fun _ _ _ h=>h) (hw:Region.wanted ⟨some d,op,ty,pos,af,gd⟩ (yielded ops a.tmps)=true:=by rfl)
  (hy:∀ w,S w->(execOp a.eval ⟨some d,op,ty,pos,af,gd⟩).run P w=.ok (.value v) w:=by(intro w h;(try dsimp only at h);((go_simp)<;>with_reducible rfl))):wpAnyH P md ops Q S (fuel+1) listed a w :=
 wpAnyH_take hi hs hf hr hQ (.inl ⟨hw,hy⟩) hS h
theorem tks {P:Program}{ops:Array Oper}{Q:Exit->Act->World->Prop}{md:Region.Mode}{S:World->Prop}(i:Nat) (d:Tmp) {op:Op}{ty:TypeId}{pos:String}{af:Array Edge}{gd:Option (Nat × Bool)}{fuel:Nat}{listed:Array Bool}{a:Act}{w:World}
  (hS:S w) (h:wpAnyH P md ops Q S fuel (listed.setIfInBounds i true) (a.put (some d) undef) w)
  (hi:ops[i]?=some ⟨some d,op,ty,pos,af,gd⟩:=by rfl) (hs:Region.noSelect ops=true:=by kernel_rfl) (hf:Region.free md ops listed i=true:=by kernel_rfl) (hr:(Region.ready md ops listed).contains i=true:=by kernel_rfl)
  (hQ:∀ c a w,Q (.panic c) (a.put (some d) undef) w->Q (.panic c) a w:=by exact fun _ _ _ h=>h) (hw:Region.wanted ⟨some d,op,ty,pos,af,gd⟩ (yielded ops a.tmps)=false:=by rfl):wpAnyH P md ops Q S (fuel+1) listed a w :=
 wpAnyH_take hi hs hf hr hQ (.inr ⟨hw,rfl⟩) hS h
theorem hbg {P:Program}{ops:Array Oper}{Q:Exit->Act->World->Prop}{C S:World->Prop}{id:Nat}{a:Act}{w:World}(H:∀ w',C w'->S w') (hC:C w.drew)
  (h:S w.drew->wpAnyH P .any ops Q S ops.size (Array.replicate ops.size false) a w.drew) (hm:P.follows .mixedOrders=true:=by kernel_rfl):(Code.region id ops true).wp P Q a w :=
 wp_region_held_drew hm (H _ hC) h
theorem tq1 {P:Program}{ops:Array Oper}{Q:Exit->Act->World->Prop}{md:Region.Mode}{S:World->Prop}(i:Nat) {d0:Tmp}{op0:Op}{ty0:TypeId}{pos0:String}{af0:Array Edge}{gd0:Option (Nat × Bool)}{v0:Value}{fuel:Nat}{listed:Array Bool}{a:Act}{w:World}
  (hS:S w) (h:wpAnyH P md ops Q S fuel (listed.setIfInBounds i true) (a.put (some d0) v0) w)
  (hi0:ops[i]?=some ⟨some d0,op0,ty0,pos0,af0,gd0⟩:=by rfl) (hs:Region.noSelect ops=true:=by kernel_rfl) (hf0:Region.free md ops listed i=true:=by kernel_rfl) (hr0:(Region.ready md ops listed).contains i=true:=by kernel_rfl) (hQ0:∀ c a w,Q (.panic c) (a.put (some d0) v0) w->Q (.panic c) a w:=by exact fun _ _ _ h=>h) (hw0:Region.wanted ⟨some d0,op0,ty0,pos0,af0,gd0⟩ (yielded ops (a).tmps)=true:=by rfl) (hy0:∀ w,S w->(execOp (a).eval ⟨some d0,op0,ty0,pos0,af0,gd0⟩).run P w=.ok (.value v0) w:=by(intro w h;(try dsimp only at h);((go_simp)<;>with_reducible rfl))):wpAnyH P md ops Q S (fuel+1) listed a w :=
 tka i d0 hS (h) hi0 hs hf0 hr0 hQ0 hw0 hy0
theorem tq2 {P:Program}{ops:Array Oper}{Q:Exit->Act->World->Prop}{md:Region.Mode}{S:World->Prop}(i:Nat) {d0:Tmp}{op0:Op}{ty0:TypeId}{pos0:String}{af0:Array Edge}{gd0:Option (Nat × Bool)}{v0:Value}{d1:Tmp}{op1:Op}{ty1:TypeId}{pos1:String}{af1:Array Edge}{gd1:Option (Nat × Bool)}{v1:Value}{fuel:Nat}{listed:Array Bool}{a:Act}{w:World}
  (hS:S w) (h:wpAnyH P md ops Q S fuel ((listed.setIfInBounds i true).setIfInBounds (i+1) true) ((a.put (some d0) v0).put (some d1) v1) w)
  (hi0:ops[i]?=some ⟨some d0,op0,ty0,pos0,af0,gd0⟩:=by rfl) (hs:Region.noSelect ops=true:=by kernel_rfl) (hf0:Region.free md ops listed i=true:=by kernel_rfl) (hr0:(Region.ready md ops listed).contains i=true:=by kernel_rfl) (hQ0:∀ c a w,Q (.panic c) (a.put (some d0) v0) w->Q (.panic c) a w:=by exact fun _ _ _ h=>h) (hw0:Region.wanted ⟨some d0,op0,ty0,pos0,af0,gd0⟩ (yielded ops (a).tmps)=true:=by rfl) (hy0:∀ w,S w->(execOp (a).eval ⟨some d0,op0,ty0,pos0,af0,gd0⟩).run P w=.ok (.value v0) w:=by(intro w h;(try dsimp only at h);((go_simp)<;>with_reducible rfl))) (hi1:ops[(i+1)]?=some ⟨some d1,op1,ty1,pos1,af1,gd1⟩:=by rfl) (hf1:Region.free md ops (listed.setIfInBounds i true) (i+1)=true:=by kernel_rfl) (hr1:(Region.ready md ops (listed.setIfInBounds i true)).contains (i+1)=true:=by kernel_rfl) (hQ1:∀ c a w,Q (.panic c) (a.put (some d1) v1) w->Q (.panic c) a w:=by exact fun _ _ _ h=>h) (hw1:Region.wanted ⟨some d1,op1,ty1,pos1,af1,gd1⟩ (yielded ops ((a.put (some d0) v0)).tmps)=true:=by rfl) (hy1:∀ w,S w->(execOp ((a.put (some d0) v0)).eval ⟨some d1,op1,ty1,pos1,af1,gd1⟩).run P w=.ok (.value v1) w:=by(intro w h;(try dsimp only at h);((go_simp)<;>with_reducible rfl))):wpAnyH P md ops Q S (fuel+2) listed a w :=
 tka i d0 hS (tka (i+1) d1 hS (h) hi1 hs hf1 hr1 hQ1 hw1 hy1) hi0 hs hf0 hr0 hQ0 hw0 hy0
theorem tq4 {P:Program}{ops:Array Oper}{Q:Exit->Act->World->Prop}{md:Region.Mode}{S:World->Prop}(i:Nat) {d0:Tmp}{op0:Op}{ty0:TypeId}{pos0:String}{af0:Array Edge}{gd0:Option (Nat × Bool)}{v0:Value}{d1:Tmp}{op1:Op}{ty1:TypeId}{pos1:String}{af1:Array Edge}{gd1:Option (Nat × Bool)}{v1:Value}{d2:Tmp}{op2:Op}{ty2:TypeId}{pos2:String}{af2:Array Edge}{gd2:Option (Nat × Bool)}{v2:Value}{d3:Tmp}{op3:Op}{ty3:TypeId}{pos3:String}{af3:Array Edge}{gd3:Option (Nat × Bool)}{v3:Value}{fuel:Nat}{listed:Array Bool}{a:Act}{w:World}
  (hS:S w) (h:wpAnyH P md ops Q S fuel ((((listed.setIfInBounds i true).setIfInBounds (i+1) true).setIfInBounds (i+2) true).setIfInBounds (i+3) true) ((((a.put (some d0) v0).put (some d1) v1).put (some d2) v2).put (some d3) v3) w)
  (hi0:ops[i]?=some ⟨some d0,op0,ty0,pos0,af0,gd0⟩:=by rfl) (hs:Region.noSelect ops=true:=by kernel_rfl) (hf0:Region.free md ops listed i=true:=by kernel_rfl) (hr0:(Region.ready md ops listed).contains i=true:=by kernel_rfl) (hQ0:∀ c a w,Q (.panic c) (a.put (some d0) v0) w->Q (.panic c) a w:=by exact fun _ _ _ h=>h) (hw0:Region.wanted ⟨some d0,op0,ty0,pos0,af0,gd0⟩ (yielded ops (a).tmps)=true:=by rfl) (hy0:∀ w,S w->(execOp (a).eval ⟨some d0,op0,ty0,pos0,af0,gd0⟩).run P w=.ok (.value v0) w:=by(intro w h;(try dsimp only at h);((go_simp)<;>with_reducible rfl))) (hi1:ops[(i+1)]?=some ⟨some d1,op1,ty1,pos1,af1,gd1⟩:=by rfl) (hf1:Region.free md ops (listed.setIfInBounds i true) (i+1)=true:=by kernel_rfl) (hr1:(Region.ready md ops (listed.setIfInBounds i true)).contains (i+1)=true:=by kernel_rfl) (hQ1:∀ c a w,Q (.panic c) (a.put (some d1) v1) w->Q (.panic c) a w:=by exact fun _ _ _ h=>h) (hw1:Region.wanted ⟨some d1,op1,ty1,pos1,af1,gd1⟩ (yielded ops ((a.put (some d0) v0)).tmps)=true:=by rfl) (hy1:∀ w,S w->(execOp ((a.put (some d0) v0)).eval ⟨some d1,op1,ty1,pos1,af1,gd1⟩).run P w=.ok (.value v1) w:=by(intro w h;(try dsimp only at h);((go_simp)<;>with_reducible rfl))) (hi2:ops[(i+2)]?=some ⟨some d2,op2,ty2,pos2,af2,gd2⟩:=by rfl) (hf2:Region.free md ops ((listed.setIfInBounds i true).setIfInBounds (i+1) true) (i+2)=true:=by kernel_rfl) (hr2:(Region.ready md ops ((listed.setIfInBounds i true).setIfInBounds (i+1) true)).contains (i+2)=true:=by kernel_rfl) (hQ2:∀ c a w,Q (.panic c) (a.put (some d2) v2) w->Q (.panic c) a w:=by exact fun _ _ _ h=>h) (hw2:Region.wanted ⟨some d2,op2,ty2,pos2,af2,gd2⟩ (yielded ops (((a.put (some d0) v0).put (some d1) v1)).tmps)=true:=by rfl) (hy2:∀ w,S w->(execOp (((a.put (some d0) v0).put (some d1) v1)).eval ⟨some d2,op2,ty2,pos2,af2,gd2⟩).run P w=.ok (.value v2) w:=by(intro w h;(try dsimp only at h);((go_simp)<;>with_reducible rfl))) (hi3:ops[(i+3)]?=some ⟨some d3,op3,ty3,pos3,af3,gd3⟩:=by rfl) (hf3:Region.free md ops (((listed.setIfInBounds i true).setIfInBounds (i+1) true).setIfInBounds (i+2) true) (i+3)=true:=by kernel_rfl) (hr3:(Region.ready md ops (((listed.setIfInBounds i true).setIfInBounds (i+1) true).setIfInBounds (i+2) true)).contains (i+3)=true:=by kernel_rfl) (hQ3:∀ c a w,Q (.panic c) (a.put (some d3) v3) w->Q (.panic c) a w:=by exact fun _ _ _ h=>h) (hw3:Region.wanted ⟨some d3,op3,ty3,pos3,af3,gd3⟩ (yielded ops ((((a.put (some d0) v0).put (some d1) v1).put (some d2) v2)).tmps)=true:=by rfl) (hy3:∀ w,S w->(execOp ((((a.put (some d0) v0).put (some d1) v1).put (some d2) v2)).eval ⟨some d3,op3,ty3,pos3,af3,gd3⟩).run P w=.ok (.value v3) w:=by(intro w h;(try dsimp only at h);((go_simp)<;>with_reducible rfl))):wpAnyH P md ops Q S (fuel+4) listed a w :=
 tka i d0 hS (tka (i+1) d1 hS (tka (i+2) d2 hS (tka (i+3) d3 hS (h) hi3 hs hf3 hr3 hQ3 hw3 hy3) hi2 hs hf2 hr2 hQ2 hw2 hy2) hi1 hs hf1 hr1 hQ1 hw1 hy1) hi0 hs hf0 hr0 hQ0 hw0 hy0
theorem tr1 {P:Program}{ops:Array Oper}{Q:Exit->Act->World->Prop}{md:Region.Mode}{S:World->Prop}(i:Nat) {d0:Tmp}{op0:Op}{ty0:TypeId}{pos0:String}{af0:Array Edge}{gd0:Option (Nat × Bool)}{fuel:Nat}{listed:Array Bool}{a:Act}{w:World}
  (hS:S w) (h:wpAnyH P md ops Q S fuel (listed.setIfInBounds i true) (a.put (some d0) undef) w)
  (hi0:ops[i]?=some ⟨some d0,op0,ty0,pos0,af0,gd0⟩:=by rfl) (hs:Region.noSelect ops=true:=by kernel_rfl) (hf0:Region.free md ops listed i=true:=by kernel_rfl) (hr0:(Region.ready md ops listed).contains i=true:=by kernel_rfl) (hQ0:∀ c a w,Q (.panic c) (a.put (some d0) undef) w->Q (.panic c) a w:=by exact fun _ _ _ h=>h) (hw0:Region.wanted ⟨some d0,op0,ty0,pos0,af0,gd0⟩ (yielded ops (a).tmps)=false:=by rfl):wpAnyH P md ops Q S (fuel+1) listed a w :=
 tks i d0 hS (h) hi0 hs hf0 hr0 hQ0 hw0
theorem tr2 {P:Program}{ops:Array Oper}{Q:Exit->Act->World->Prop}{md:Region.Mode}{S:World->Prop}(i:Nat) {d0:Tmp}{op0:Op}{ty0:TypeId}{pos0:String}{af0:Array Edge}{gd0:Option (Nat × Bool)}{d1:Tmp}{op1:Op}{ty1:TypeId}{pos1:String}{af1:Array Edge}{gd1:Option (Nat × Bool)}{fuel:Nat}{listed:Array Bool}{a:Act}{w:World}
  (hS:S w) (h:wpAnyH P md ops Q S fuel ((listed.setIfInBounds i true).setIfInBounds (i+1) true) ((a.put (some d0) undef).put (some d1) undef) w)
  (hi0:ops[i]?=some ⟨some d0,op0,ty0,pos0,af0,gd0⟩:=by rfl) (hs:Region.noSelect ops=true:=by kernel_rfl) (hf0:Region.free md ops listed i=true:=by kernel_rfl) (hr0:(Region.ready md ops listed).contains i=true:=by kernel_rfl) (hQ0:∀ c a w,Q (.panic c) (a.put (some d0) undef) w->Q (.panic c) a w:=by exact fun _ _ _ h=>h) (hw0:Region.wanted ⟨some d0,op0,ty0,pos0,af0,gd0⟩ (yielded ops (a).tmps)=false:=by rfl) (hi1:ops[(i+1)]?=some ⟨some d1,op1,ty1,pos1,af1,gd1⟩:=by rfl) (hf1:Region.free md ops (listed.setIfInBounds i true) (i+1)=true:=by kernel_rfl) (hr1:(Region.ready md ops (listed.setIfInBounds i true)).contains (i+1)=true:=by kernel_rfl) (hQ1:∀ c a w,Q (.panic c) (a.put (some d1) undef) w->Q (.panic c) a w:=by exact fun _ _ _ h=>h) (hw1:Region.wanted ⟨some d1,op1,ty1,pos1,af1,gd1⟩ (yielded ops ((a.put (some d0) undef)).tmps)=false:=by rfl):wpAnyH P md ops Q S (fuel+2) listed a w :=
 tks i d0 hS (tks (i+1) d1 hS (h) hi1 hs hf1 hr1 hQ1 hw1) hi0 hs hf0 hr0 hQ0 hw0
theorem tr4 {P:Program}{ops:Array Oper}{Q:Exit->Act->World->Prop}{md:Region.Mode}{S:World->Prop}(i:Nat) {d0:Tmp}{op0:Op}{ty0:TypeId}{pos0:String}{af0:Array Edge}{gd0:Option (Nat × Bool)}{d1:Tmp}{op1:Op}{ty1:TypeId}{pos1:String}{af1:Array Edge}{gd1:Option (Nat × Bool)}{d2:Tmp}{op2:Op}{ty2:TypeId}{pos2:String}{af2:Array Edge}{gd2:Option (Nat × Bool)}{d3:Tmp}{op3:Op}{ty3:TypeId}{pos3:String}{af3:Array Edge}{gd3:Option (Nat × Bool)}{fuel:Nat}{listed:Array Bool}{a:Act}{w:World}
  (hS:S w) (h:wpAnyH P md ops Q S fuel ((((listed.setIfInBounds i true).setIfInBounds (i+1) true).setIfInBounds (i+2) true).setIfInBounds (i+3) true) ((((a.put (some d0) undef).put (some d1) undef).put (some d2) undef).put (some d3) undef) w)
  (hi0:ops[i]?=some ⟨some d0,op0,ty0,pos0,af0,gd0⟩:=by rfl) (hs:Region.noSelect ops=true:=by kernel_rfl) (hf0:Region.free md ops listed i=true:=by kernel_rfl) (hr0:(Region.ready md ops listed).contains i=true:=by kernel_rfl) (hQ0:∀ c a w,Q (.panic c) (a.put (some d0) undef) w->Q (.panic c) a w:=by exact fun _ _ _ h=>h) (hw0:Region.wanted ⟨some d0,op0,ty0,pos0,af0,gd0⟩ (yielded ops (a).tmps)=false:=by rfl) (hi1:ops[(i+1)]?=some ⟨some d1,op1,ty1,pos1,af1,gd1⟩:=by rfl) (hf1:Region.free md ops (listed.setIfInBounds i true) (i+1)=true:=by kernel_rfl) (hr1:(Region.ready md ops (listed.setIfInBounds i true)).contains (i+1)=true:=by kernel_rfl) (hQ1:∀ c a w,Q (.panic c) (a.put (some d1) undef) w->Q (.panic c) a w:=by exact fun _ _ _ h=>h) (hw1:Region.wanted ⟨some d1,op1,ty1,pos1,af1,gd1⟩ (yielded ops ((a.put (some d0) undef)).tmps)=false:=by rfl) (hi2:ops[(i+2)]?=some ⟨some d2,op2,ty2,pos2,af2,gd2⟩:=by rfl) (hf2:Region.free md ops ((listed.setIfInBounds i true).setIfInBounds (i+1) true) (i+2)=true:=by kernel_rfl) (hr2:(Region.ready md ops ((listed.setIfInBounds i true).setIfInBounds (i+1) true)).contains (i+2)=true:=by kernel_rfl) (hQ2:∀ c a w,Q (.panic c) (a.put (some d2) undef) w->Q (.panic c) a w:=by exact fun _ _ _ h=>h) (hw2:Region.wanted ⟨some d2,op2,ty2,pos2,af2,gd2⟩ (yielded ops (((a.put (some d0) undef).put (some d1) undef)).tmps)=false:=by rfl) (hi3:ops[(i+3)]?=some ⟨some d3,op3,ty3,pos3,af3,gd3⟩:=by rfl) (hf3:Region.free md ops (((listed.setIfInBounds i true).setIfInBounds (i+1) true).setIfInBounds (i+2) true) (i+3)=true:=by kernel_rfl) (hr3:(Region.ready md ops (((listed.setIfInBounds i true).setIfInBounds (i+1) true).setIfInBounds (i+2) true)).contains (i+3)=true:=by kernel_rfl) (hQ3:∀ c a w,Q (.panic c) (a.put (some d3) undef) w->Q (.panic c) a w:=by exact fun _ _ _ h=>h) (hw3:Region.wanted ⟨some d3,op3,ty3,pos3,af3,gd3⟩ (yielded ops ((((a.put (some d0) undef).put (some d1) undef).put (some d2) undef)).tmps)=false:=by rfl):wpAnyH P md ops Q S (fuel+4) listed a w :=
 tks i d0 hS (tks (i+1) d1 hS (tks (i+2) d2 hS (tks (i+3) d3 hS (h) hi3 hs hf3 hr3 hQ3 hw3) hi2 hs hf2 hr2 hQ2 hw2) hi1 hs hf1 hr1 hQ1 hw1) hi0 hs hf0 hr0 hQ0 hw0
theorem rd {P:Program}{ops:Array Oper}{Q:Exit->Act->World->Prop}{md:Region.Mode}{S:World->Prop}(i:Nat) (d:Option Tmp) {op:Op}{ty:TypeId}{pos:String}{af:Array Edge}{gd:Option (Nat × Bool)}{fuel:Nat}{listed:Array Bool}{a:Act}{w:World}
  (h:∀ K':Act->World->Prop,Shut (∀ a w,S w->(S w->wpAnyH P md ops Q S fuel (listed.setIfInBounds i true) a w)->K' a w)->if Region.wanted ⟨d,op,ty,pos,af,gd⟩ (yielded ops a.tmps)=true then Oper.wp P ⟨d,op,ty,pos,af,gd⟩ a w K' Q else K' (a.put d undef) w)
  (hr:Region.ready md ops listed=[i]:=by kernel_rfl) (ho:ops[i]?=some ⟨d,op,ty,pos,af,gd⟩:=by rfl):wpAnyH P md ops Q S (fuel+1) listed a w :=
 wpAnyH_ready hr (List.cons_ne_nil _ _) (AllReadyH.cons ho h AllReadyH.nil)
theorem rd2 {P:Program}{ops:Array Oper}{Q:Exit->Act->World->Prop}{md:Region.Mode}{S:World->Prop}(i:Nat) (d:Option Tmp) (j:Nat) (c:Option Tmp) {op op':Op}{ty ty':TypeId}{pos pos':String}{af af':Array Edge}{gd gd':Option (Nat × Bool)}{fuel:Nat}{listed:Array Bool}{a:Act}{w:World}
  (h:∀ K':Act->World->Prop,Shut (∀ a w,S w->(S w->wpAnyH P md ops Q S fuel (listed.setIfInBounds i true) a w)->K' a w)->if Region.wanted ⟨d,op,ty,pos,af,gd⟩ (yielded ops a.tmps)=true then Oper.wp P ⟨d,op,ty,pos,af,gd⟩ a w K' Q else K' (a.put d undef) w)
  (h':∀ K':Act->World->Prop,Shut (∀ a w,S w->(S w->wpAnyH P md ops Q S fuel (listed.setIfInBounds j true) a w)->K' a w)->if Region.wanted ⟨c,op',ty',pos',af',gd'⟩ (yielded ops a.tmps)=true then Oper.wp P ⟨c,op',ty',pos',af',gd'⟩ a w K' Q else K' (a.put c undef) w)
  (hr:Region.ready md ops listed=[i,j]:=by kernel_rfl) (ho:ops[i]?=some ⟨d,op,ty,pos,af,gd⟩:=by rfl) (ho':ops[j]?=some ⟨c,op',ty',pos',af',gd'⟩:=by rfl):wpAnyH P md ops Q S (fuel+1) listed a w :=
 wpAnyH_ready hr (List.cons_ne_nil _ _) (AllReadyH.cons ho h (AllReadyH.cons ho' h' AllReadyH.nil))
theorem ldm {P:Program}{ops:Array Oper}{Q:Exit->Act->World->Prop}{md:Region.Mode}{S:World->Prop}(i:Nat) (d:Tmp) {t:TypeId}{x:Operand}{ty:TypeId}{pos:String}{af:Array Edge}{gd:Option (Nat × Bool)}{b o:Nat}{cs:List Value}{ds:TypeDesc}{fuel:Nat}{listed:Array Bool}{a:Act}{w:World}
  (hc:∀ w,S w->w.rangeAt b o cs) (hu:P.underlying t=some ds) (hn:(P.info? t).map (·.size)=some cs.length) (hS:S w) (h:wpAnyH P md ops Q S fuel (listed.setIfInBounds i true) (a.put (some d) (.agg cs.toArray)) w)
  (hi:ops[i]?=some ⟨some d,.load t x,ty,pos,af,gd⟩:=by rfl) (hs:Region.noSelect ops=true:=by kernel_rfl) (hf:Region.free md ops listed i=true:=by kernel_rfl) (hr:(Region.ready md ops listed).contains i=true:=by kernel_rfl)
  (hQ:∀ c a w,Q (.panic c) (a.put (some d) (.agg cs.toArray)) w->Q (.panic c) a w:=by exact fun _ _ _ h=>h) (hw:Region.wanted ⟨some d,.load t x,ty,pos,af,gd⟩ (yielded ops a.tmps)=true:=by rfl) (hx:a.eval x=.pointer (some ⟨b,o,none⟩):=by rfl) (hd:ds.isRow=true:=by rfl):wpAnyH P md ops Q S (fuel+1) listed a w :=
 wpAnyH_take hi hs hf hr hQ (yieldsIf_load_mid hw t x rfl b o hx cs ds hc hu hd hn) hS h
section
variable {P:Program} {ops:Array Oper} {Q:Exit->Act->World->Prop} {md:Region.Mode} {S:World->Prop} {z:Nat}
def wpG (P:Program) (md:Region.Mode) (ops:Array Oper) (Q:Exit->Act->World->Prop) (S:World->Prop) (z:Nat):Nat->Array Bool->Act->World->Prop
 | 0,q,a,w=>Region.ready md ops q=[]/\Q .normal a w
 | n+1,q,a,w=>(Region.ready md ops q=[]->Q .normal a w)/\∀ i∈Region.ready md ops q,wpOp P ops Q i (fun a' w'=>(i≠z->S w')/\wpG P md ops Q S z n (q.setIfInBounds i true) a' w') a w
theorem wpG_any:∀ (n:Nat) (q:Array Bool) (a:Act) (w:World),wpG P md ops Q S z n q a w->wpAny P md ops Q n q a w
 | 0,_,_,_,h=>h
 | n+1,_,_,_,h=>⟨h.1,fun i hi=>wpOp_mono (fun a' w' g=>wpG_any n _ a' w' g.2) (h.2 i hi)⟩
def waitsB (md:Region.Mode) (ops:Array Oper) (z i:Nat):Bool:=match ops[z]? with|some o=>o.after.any fun e=>Region.binds md e&&e.on==i|none=>true
theorem wpG_first {i:Nat}{oi:Oper}{v:Value}(hi:ops[i]?=some oi) (hsel:∀ (j:Nat) (o:Oper) cs b,ops[j]?=some o->o.op≠.select cs b) (hz:waitsB md ops z i=true) (hzi:i≠z)
  (hQ:∀ c a w,Q (.panic c) (a.put oi.dst v) w->Q (.panic c) a w) (n:Nat):∀ (q:Array Bool) (a:Act) (w:World),
   (∀ j oj,ops[j]?=some oj->j≠i->q.getD j true=false->(∀ e∈oj.after,Region.binds md e=true->e.on≠i)->oi.apart ops oj=true) ->
   i∈Region.ready md ops q->YieldsIf P ops S oi v a->S w->wpG P md ops Q S z n (q.setIfInBounds i true) (a.put oi.dst v) w->wpG P md ops Q S z (n+1) q a w:=by
 have key:∀ (q:Array Bool) (j:Nat) (oj:Oper),i∈Region.ready md ops q->ops[j]?=some oj->j∈Region.ready md ops q->∀ e∈oj.after,Region.binds md e=true->e.on≠i:=by
  intro q j oj hr hoj hj e he hb heq;obtain⟨_,oj',hoj',hall⟩:=mem_ready.1 hj;rw [hoj]at hoj';injection hoj' with hoj';subst hoj';have h1:=hall e he hb;have h0:=(mem_ready.1 hr).1;rw [heq]at h1;rcases Nat.lt_or_ge i q.size with h'|h'
  ·simp [h']at h0 h1;rw [h0]at h1;cases h1
  ·simp [Array.getElem?_eq_none h']at h1
 have kz:∀ (q:Array Bool) (j:Nat),i∈Region.ready md ops q->j∈Region.ready md ops q->j≠z:=by
  rintro q j hr hj rfl;obtain⟨_,oj,hoj,_⟩:=mem_ready.1 hj;unfold waitsB at hz;rw [hoj]at hz;simp only [Array.any_eq_true',Bool.and_eq_true,beq_iff_eq]at hz;obtain⟨e,he,hb,h2⟩:=hz;exact key q j oj hr hoj hj e he hb h2
 induction n with
 | zero =>
  intro q a w _ hr hy hS H;refine⟨fun h=>(by rw [h]at hr;cases hr),fun j hj=>?_⟩;by_cases e:j=i
  ·subst e;exact hy.wpOp hi hS ⟨fun _=>hS,H⟩
  ·have:=ready_mono hj e
   rw [H.1]at this;cases this
 | succ n ih =>
  intro q a w hf hr hy hS H;refine⟨fun h=>(by rw [h]at hr;cases hr),fun j hj=>?_⟩;by_cases e:j=i
  ·subst e;exact hy.wpOp hi hS ⟨fun _=>hS,H⟩
  ·obtain⟨hjun,oj,hoj,_⟩:=mem_ready.1 hj
   have hnz:=kz q j hr hj;have h2:=wpOp_putIf hoj (hf j oj hoj e hjun (key q j oj hr hoj hj)) (fun cs b=>hsel i oi cs b hi) (fun cs b=>hsel j oj cs b hoj) hQ hy (H.2 j (ready_mono hj e));refine wpOp_mono (fun a' w' h3=>⟨h3.2.1,ih (q.setIfInBounds j true) a' w' (fun k ok hk hki hun hno=>hf k ok hk hki ?_ hno) (ready_mono hr (Ne.symm e)) h3.1 (h3.2.1 hnz) ?_⟩) h2
   ·by_cases hjk:j=k
    ·subst hjk;exact hjun
    ·rw [getD_set_ne true hjk]at hun;exact hun
   ·rw [Array.setIfInBounds_comm _ _ e]
    exact h3.2.2
variable {n:Nat} {q:Array Bool} {a:Act} {w:World}
theorem tgk (i:Nat) (d:Tmp) {op:Op}{ty:TypeId}{pos:String}{af:Array Edge}{gd:Option (Nat × Bool)}{v:Value}
  (hS:S w) (h:wpG P md ops Q S z n (q.setIfInBounds i true) (a.put (some d) v) w)
  (hi:ops[i]?=some ⟨some d,op,ty,pos,af,gd⟩:=by rfl) (hs:Region.noSelect ops=true:=by kernel_rfl) (hf:Region.free md ops q i=true:=by kernel_rfl) (hr:(Region.ready md ops q).contains i=true:=by kernel_rfl)
  (hz:waitsB md ops z i=true:=by kernel_rfl) (hzi:i≠z:=by decide)
  (hQ:∀ c a w,Q (.panic c) (a.put (some d) v) w->Q (.panic c) a w:=by exact fun _ _ _ h=>h) (hw:Region.wanted ⟨some d,op,ty,pos,af,gd⟩ (yielded ops a.tmps)=true:=by rfl)
  (hy:∀ w,S w->(execOp a.eval ⟨some d,op,ty,pos,af,gd⟩).run P w=.ok (.value v) w:=by(intro w h;(try dsimp only at h);((go_simp)<;>with_reducible rfl))):wpG P md ops Q S z (n+1) q a w :=
 wpG_first hi (Region.noSelect_spec hs) hz hzi hQ n q a w (Region.free_spec hi hf) (by simpa using hr) (.inl ⟨hw,hy⟩) hS h
theorem rg (i:Nat) (d:Option Tmp) {op:Op}{ty:TypeId}{pos:String}{af:Array Edge}{gd:Option (Nat × Bool)}
  (h:∀ K':Act->World->Prop,Shut (∀ a w,(i≠z->S w)->((i≠z->S w)->wpG P md ops Q S z n (q.setIfInBounds i true) a w)->K' a w)->if Region.wanted ⟨d,op,ty,pos,af,gd⟩ (yielded ops a.tmps)=true then Oper.wp P ⟨d,op,ty,pos,af,gd⟩ a w K' Q else K' (a.put d undef) w)
  (hr:Region.ready md ops q=[i]:=by kernel_rfl) (ho:ops[i]?=some ⟨d,op,ty,pos,af,gd⟩:=by rfl):wpG P md ops Q S z (n+1) q a w :=
 ⟨fun h0=>(by rw [hr]at h0;cases h0),hr▸fun j hj=>by
  rw [List.mem_singleton]at hj;subst hj;exact wpOp_step ho (fun K' hK=>h K' (fun a w hS hW=>hK a w ⟨hS,hW hS⟩))⟩
theorem rg2 (i:Nat) (d:Option Tmp) (j:Nat) (c:Option Tmp) {op op':Op}{ty ty':TypeId}{pos pos':String}{af af':Array Edge}{gd gd':Option (Nat × Bool)}
  (h:∀ K':Act->World->Prop,Shut (∀ a w,(i≠z->S w)->((i≠z->S w)->wpG P md ops Q S z n (q.setIfInBounds i true) a w)->K' a w)->if Region.wanted ⟨d,op,ty,pos,af,gd⟩ (yielded ops a.tmps)=true then Oper.wp P ⟨d,op,ty,pos,af,gd⟩ a w K' Q else K' (a.put d undef) w)
  (h':∀ K':Act->World->Prop,Shut (∀ a w,(j≠z->S w)->((j≠z->S w)->wpG P md ops Q S z n (q.setIfInBounds j true) a w)->K' a w)->if Region.wanted ⟨c,op',ty',pos',af',gd'⟩ (yielded ops a.tmps)=true then Oper.wp P ⟨c,op',ty',pos',af',gd'⟩ a w K' Q else K' (a.put c undef) w)
  (hr:Region.ready md ops q=[i,j]:=by kernel_rfl) (ho:ops[i]?=some ⟨d,op,ty,pos,af,gd⟩:=by rfl) (ho':ops[j]?=some ⟨c,op',ty',pos',af',gd'⟩:=by rfl):wpG P md ops Q S z (n+1) q a w :=
 ⟨fun h0=>(by rw [hr]at h0;cases h0),hr▸fun k hk=>by
  rcases List.mem_cons.1 hk with rfl|hk
  ·exact wpOp_step ho (fun K' hK=>h K' (fun a w hS hW=>hK a w ⟨hS,hW hS⟩))
  ·rw [List.mem_singleton]at hk;subst hk
   exact wpOp_step ho' (fun K' hK=>h' K' (fun a w hS hW=>hK a w ⟨hS,hW hS⟩))⟩
theorem wpG_done (hr:Region.ready md ops q=[]) (h:Q .normal a w):∀ n,wpG P md ops Q S z n q a w
 | 0=>⟨hr,h⟩
 | _+1=>⟨fun _=>h,by rw [hr];simp⟩
theorem hgg (z:Nat) {C:World->Prop}{id:Nat}(H:∀ w',C w'->S w') (hC:C w.drew)
  (h:S w.drew->wpG P .any ops Q S z ops.size (Array.replicate ops.size false) a w.drew) (hm:P.follows .mixedOrders=true:=by kernel_rfl):(Code.region id ops true).wp P Q a w :=
 wp_region_any hm (wpG_any _ _ _ _ (h (H _ hC)))
end
theorem wpList_appB {α:Type}{r:Rp α}{B M:Nat}{e:TypeId}{w:World}{A:Option Addr}{n cap:Nat}{l:List α}{P:Program}{ops:Array Oper}{rest:List Oper}{o:Oper}{a:Act}{Q:Exit->Act->World->Prop}(hgd:o.guard=none) (s x:Operand) (t:TypeId)
  (ho:o.op=.call { callee:=.builtin .append,args:=#[s,x],argTypes:=#[t,t] }) (z:Value) (bytes:Nat) (ei:Ei P t e z r.size bytes) (hr:r.Ok) {wr:World}
  (hs:a.eval s=.slice A n cap) (h:MS B M e r wr A n cap l) (hb:Below wr.heap.size wr w) (hB:B<=wr.heap.size)
  (ad:Addr) (hx:a.eval x=.slice (some ad) 1 1) (f:List Nat) (cs:List Value) (y:α) (hy:r.own w f cs y) (hf:Fr wr.heap.size f) (hc:∀ j u,cs[j]?=some u->w.cell? (ad.add j)=some u)
  (hn:n+1<=M) (hM:M<=4294967296) (hby:(n+1)*bytes<=140737488355328)
  (K:∀ A' cap' w',MS B M e r w' A' (n+1) cap' (l++[y])->Below B w w'->w.grownBy w' (A.map (·.block))->(A'.map (·.block)=A.map (·.block)\/A'.map (·.block)=some w.heap.size)->wpList P ops Q rest (a.put o.dst (.slice A' (n+1) cap')) w') :
  wpList P ops Q (o::rest) a w:=by
 obtain⟨i,hi,h1,h2,h3⟩:=info_parts ei.hi;obtain⟨fp,hO,hfr⟩:=h;have hO':=hO.belowS hr hb;obtain⟨css,fps,h4,_,h6⟩:=hO'.ex;refine wpList_append_own_at _ hgd s x t ho 0 e i z r.size bytes ei.ht hi h1 h2 h3 ei.hz hr.pos _ n css.flatten hs h4 ad 1 1 cs hx (by rw [hr.len (hr.toRep hy),Nat.one_mul]) hc (hr.one (hr.toRep hy)) (by unfold maxLen;omega) hby (Nat.zero_le _) ?_;intro v' w' r1 r2 _ r4;obtain⟨A',cap',rfl⟩:=ownsRow_slice r1;rw [blk_own]at r2 r4;rw [blk_own]at r4;refine K A' cap' w' (MS.app1 hr ⟨fp,hO,hfr⟩ hb hB hy hf hn (fun css' hcss=>?_) r2 r4) (MS.grown ⟨fp,hO,hfr⟩ hb hB r2) r2 r4
 have:css'=css.flatten:=by
  rcases (ownsRow_form h4).2 with ⟨rfl,rfl,_⟩|⟨g,rfl,_⟩
  ·have e1:=h4.1;have e2:=hcss.1;rw [Nat.zero_mul]at e1 e2;rw [List.eq_nil_of_length_eq_zero e2,List.eq_nil_of_length_eq_zero e1]
  ·refine List.ext_getElem? fun j=>?_
   by_cases hj:j<n*r.size
   ·rw [<- h4.cellAt j hj,<- hcss.cellAt j hj]
   ·rw [List.getElem?_eq_none (by rw [hcss.1];omega),List.getElem?_eq_none (by rw [h4.1];omega)]
 rw [this];exact r1
theorem cells_new (w:World) (t:TypeId) (cs:List Value) (j:Nat) (u:Value) (h:cs[j]?=some u):(w.alloc (.cells cs.toArray t)).cell? (Addr.add ⟨w.heap.size,0,none⟩ j)=some u:=by
 have:=(Bk.new w cs t).bx j u h;have e:Addr.add ⟨w.heap.size,0,none⟩ j=⟨w.heap.size,j,none⟩:=by unfold Addr.add;split<;>simp_all
 rw [e];exact this
section
variable {w:World} {g:Nat} {t:TypeId} {x0 x1 x2 x3:Value}
theorem Bx.low {w':World}{B:Nat}{cs:List Value}(h:Bx w g cs) (hg:g<B) (hb:Below B w w'):Bx w' g cs:=fun j v hj=>(hb.cell (p:=⟨g,j,none⟩) hg).trans (h j v hj)
theorem Bx.b2 (h:Bx w g [x0,x1]):w.cell? ⟨g,0,none⟩=some x0/\w.cell? ⟨g,1,none⟩=some x1:=⟨h 0 _ rfl,h 1 _ rfl⟩
theorem Bx.b3 (h:Bx w g [x0,x1,x2]):w.cell? ⟨g,0,none⟩=some x0/\w.cell? ⟨g,1,none⟩=some x1/\w.cell? ⟨g,2,none⟩=some x2:=⟨h 0 _ rfl,h 1 _ rfl,h 2 _ rfl⟩
theorem Bx.b4 (h:Bx w g [x0,x1,x2,x3]):w.cell? ⟨g,0,none⟩=some x0/\w.cell? ⟨g,1,none⟩=some x1/\w.cell? ⟨g,2,none⟩=some x2/\w.cell? ⟨g,3,none⟩=some x3:=⟨h 0 _ rfl,h 1 _ rfl,h 2 _ rfl,h 3 _ rfl⟩
theorem Bk.r2 (h:Bk w g t [x0,x1]):w.cell? ⟨g,0,none⟩=some x0/\w.frozen? ⟨g,0,none⟩=false/\w.cell? ⟨g,1,none⟩=some x1/\w.frozen? ⟨g,1,none⟩=false:=⟨h.bx 0 _ rfl,h.frozen 0,h.bx 1 _ rfl,h.frozen 1⟩
theorem Bk.r4 (h:Bk w g t [x0,x1,x2,x3]):w.cell? ⟨g,0,none⟩=some x0/\w.frozen? ⟨g,0,none⟩=false/\w.cell? ⟨g,1,none⟩=some x1/\w.frozen? ⟨g,1,none⟩=false/\w.cell? ⟨g,2,none⟩=some x2/\w.frozen? ⟨g,2,none⟩=false/\w.cell? ⟨g,3,none⟩=some x3/\w.frozen? ⟨g,3,none⟩=false :=
 ⟨h.bx 0 _ rfl,h.frozen 0,h.bx 1 _ rfl,h.frozen 1,h.bx 2 _ rfl,h.frozen 2,h.bx 3 _ rfl,h.frozen 3⟩
abbrev set2 (w:World) (g:Nat) (a b:Value):World:=(w.setCell ⟨g,0,none⟩ a).setCell ⟨g,1,none⟩ b
abbrev set4 (w:World) (g:Nat) (a b c d:Value):World:=(((w.setCell ⟨g,0,none⟩ a).setCell ⟨g,1,none⟩ b).setCell ⟨g,2,none⟩ c).setCell ⟨g,3,none⟩ d
theorem Bk.s2 (h:Bk w g t [x0,x1]):(∀ a b,(set2 w g a b).cell? ⟨g,0,none⟩=some a)/\∀ a b,(set2 w g a b).cell? ⟨g,1,none⟩=some b :=
 ⟨fun a b=>((h.set 0 a).set 1 b).bx 0 _ rfl,fun a b=>((h.set 0 a).set 1 b).bx 1 _ rfl⟩
theorem Bk.s4 (h:Bk w g t [x0,x1,x2,x3]):(∀ a b c d,(set4 w g a b c d).cell? ⟨g,0,none⟩=some a)/\(∀ a b c d,(set4 w g a b c d).cell? ⟨g,1,none⟩=some b)/\(∀ a b c d,(set4 w g a b c d).cell? ⟨g,2,none⟩=some c)/\∀ a b c d,(set4 w g a b c d).cell? ⟨g,3,none⟩=some d :=
 ⟨fun a b c d=>((((h.set 0 a).set 1 b).set 2 c).set 3 d).bx 0 _ rfl,fun a b c d=>((((h.set 0 a).set 1 b).set 2 c).set 3 d).bx 1 _ rfl,fun a b c d=>((((h.set 0 a).set 1 b).set 2 c).set 3 d).bx 2 _ rfl,fun a b c d=>((((h.set 0 a).set 1 b).set 2 c).set 3 d).bx 3 _ rfl⟩
theorem bls2 {B:Nat}{a:World}(h:Below B a w) (hg:B<=g) (u v:Value):Below B a (set2 w g u v):=(h.setCell (p:=⟨g,0,none⟩) hg _).setCell (p:=⟨g,1,none⟩) hg _
theorem bls4 {B:Nat}{a:World}(h:Below B a w) (hg:B<=g) (x y z u:Value):Below B a (set4 w g x y z u):=(((h.setCell (p:=⟨g,0,none⟩) hg _).setCell (p:=⟨g,1,none⟩) hg _).setCell (p:=⟨g,2,none⟩) hg _).setCell (p:=⟨g,3,none⟩) hg _
theorem le2 (n:Nat):n<=n+1+1:=by omega
end
end Go.Proofs.YtnlcfkpcmfljeaaGreat
