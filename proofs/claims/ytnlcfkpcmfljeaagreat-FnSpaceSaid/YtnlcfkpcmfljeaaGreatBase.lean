/-
  Base
-/
import Derived.WalkKit
import Derived.ProofKit
import Derived.OpenShut
import Derived.Below
import Derived.Laws.OwnMore
import Derived.Lib.Hide
import Derived.OwnWalk
import Derived.WalkSpells
import Derived.WalkLawsBesides
import Derived.Deep.LoopGhost
import Derived.Deep.QuietTactic
import Derived.BigQuiet
import Derived.Deep.RegionWith
import Derived.Deep.Draws
import Derived.Maps.AppendAt
import Derived.Outline
import Derived.StillTailTactics
namespace Go.Proofs.YtnlcfkpcmfljeaaGreat
open Go.RowKit
def I64 (n:Int):Prop:=-9223372036854775808<=n/\n<=9223372036854775807
theorem I64.lo {n:Int}(h:I64 n):-9223372036854775808<=n:=h.1
theorem I64.hi {n:Int}(h:I64 n):n<=9223372036854775807:=h.2
def NB:Nat:=4294967296
theorem ret_bool {a b:Bool}(h:a=b):Ending.returned (.bool a)=.returned (.bool b):=by rw [h]
theorem ret_int {a b:Int}(h:a=b):Ending.returned (.int .i64 a)=.returned (.int .i64 b):=by rw [h]
theorem take_snoc {α:Type}{l:List α}{k:Nat}{x:α}(h:l[k]?=some x):l.take (k+1)=l.take k++[x]:=by
 obtain⟨hk,rfl⟩:=List.getElem?_eq_some_iff.1 h;exact List.take_succ_eq_append_getElem hk
theorem take_all {α:Type}{l:List α}{k n:Nat}(h:l.length=n) (hk:¬ k<n):l.take k=l:=List.take_of_length_le (by omega)
theorem mem_of_at {α:Type}{l:List α}{k:Nat}{x:α}(h:l[k]?=some x):x∈l:=List.mem_of_getElem? h
theorem lt_of_at {α:Type}{l:List α}{k:Nat}{x:α}(h:l[k]?=some x):k<l.length:=(List.getElem?_eq_some_iff.1 h).1
theorem flat_length {α:Type}{css:List (List α)}{size:Nat}(h:∀ c∈css,c.length=size):css.flatten.length=css.length*size:=by
 induction css with
 | nil=>simp
 | cons c cs ih=>simp only [List.flatten_cons,List.length_append,List.length_cons];rw [ih (fun x hx=>h x (List.mem_cons_of_mem _ hx)),h c List.mem_cons_self,Nat.add_mul];omega
theorem flat_get {α:Type}{css:List (List α)}{size:Nat}(h:∀ c∈css,c.length=size) {i j:Nat}{c:List α}{v:α}(hi:css[i]?=some c) (hj:c[j]?=some v):css.flatten[i*size+j]?=some v:=by
 induction css generalizing i with
 | nil=>simp at hi
 | cons d ds ih =>
  have hd:d.length=size:=h d List.mem_cons_self;cases i with
  | zero =>
   simp at hi;subst hi;rw [List.flatten_cons,Nat.zero_mul,Nat.zero_add,List.getElem?_append_left (lt_of_at hj)];exact hj
  | succ i =>
   simp at hi;rw [List.flatten_cons,List.getElem?_append_right (by rw [hd,Nat.add_mul];omega)];have e:(i+1)*size+j - d.length=i*size+j:=by rw [hd,Nat.add_mul];omega
   rw [e];exact ih (fun x hx=>h x (List.mem_cons_of_mem _ hx)) hi
def over {α:Type} (xs:List α) (i:Nat):List α->List α
 | []=>xs
 | v::vs=>over (xs.set i v) (i+1) vs
theorem over_append_left {α:Type}(a b:List α) (i:Nat) (vs:List α):over (a++b) (a.length+i) vs=a++over b i vs:=by
 induction vs generalizing b i with
 | nil=>rfl
 | cons v vs ih =>
  simp only [over];rw [List.set_append_right _ _ (by omega)];have e:a.length+i - a.length=i:=by omega
  rw [e,Nat.add_assoc];exact ih _ _
theorem over_head {α:Type}(c d:List α) (h:c.length=d.length) (b:List α):over (d++b) 0 c=c++b:=by
 induction c generalizing d b with
 | nil=>cases d with
  | nil=>rfl
  | cons _ _=>simp at h
 | cons v c ih=>cases d with
  | nil=>simp at h
  | cons u d =>
   simp only [over,List.cons_append,List.set_cons_zero];have:=over_append_left [v] (d++b) 0 c;simp only [List.length_singleton,Nat.add_zero,List.singleton_append,Nat.zero_add]at this ⊢;rw [this,ih d (by simpa using h)]
theorem flat_set {α:Type}{css:List (List α)}{size:Nat}(h:∀ c∈css,c.length=size) {i:Nat}(hi:i<css.length) {c:List α}(hc:c.length=size) :
  over css.flatten (i*size) c=(css.set i c).flatten:=by
 induction css generalizing i with
 | nil=>simp at hi
 | cons d ds ih =>
  have hd:d.length=size:=h d List.mem_cons_self;cases i with
  | zero=>simp only [List.flatten_cons,List.set_cons_zero,Nat.zero_mul];exact over_head c d (by omega) _
  | succ i =>
   simp only [List.flatten_cons,List.set_cons_succ];rw [<- ih (fun x hx=>h x (List.mem_cons_of_mem _ hx)) (by simpa using hi),<- over_append_left];congr 1;rw [hd,Nat.add_mul];omega
structure Rp (α:Type) where
 size:Nat
 rep:World->List Value->α->Prop
 own:World->List Nat->List Value->α->Prop
structure Rp.Ok {α:Type} (r:Rp α):Prop where
 pos:0<r.size
 len:∀ {w cs x},r.rep w cs x->cs.length=r.size
 one:∀ {w cs x},r.rep w cs x->∀ u∈cs,u.oneCell'=true
 keep:∀ {w w' cs x},r.rep w cs x->(∀ p v,w.cell? p=some v->w'.cell? p=some v)->r.rep w' cs x
 toRep:∀ {w fp cs x},r.own w fp cs x->r.rep w cs x
 okeep:∀ {w w' fp cs x},r.own w fp cs x->(∀ k∈fp,w'.heap[k]?=w.heap[k]?)->r.own w' fp cs x
 lt:∀ {w fp cs x},r.own w fp cs x->∀ k∈fp,k<w.heap.size
structure RS {α:Type} (M:Nat) (r:Rp α) (w:World) (A:Option Addr) (n cap:Nat) (l:List α):Prop where
 len:l.length=n
 nb:n<=M
 nc:n<=cap
 cell:0<n->∃ b off,A=some ⟨b,off,none⟩/\∀ j x,l[j]?=some x->∃ cs,r.rep w cs x/\∀ i v,cs[i]?=some v->w.cell? ⟨b,off+j*r.size+i,none⟩=some v
theorem cells_below {w w':World}(hb:Below w.heap.size w w'):∀ p v,w.cell? p=some v->w'.cell? p=some v:=fun p v h=>by
 rw [hb.cell (World.block_lt_of_cell? w p h)];exact h
section
variable {α:Type} {r:Rp α} {M:Nat} {w w':World} {A:Option Addr} {n cap:Nat} {l:List α}
theorem RS.keep (h:RS M r w A n cap l) (hr:r.Ok) (hk:∀ p v,w.cell? p=some v->w'.cell? p=some v):RS M r w' A n cap l :=
 ⟨h.len,h.nb,h.nc,fun hn=>by
  obtain⟨b,off,e,hc⟩:=h.cell hn;refine⟨b,off,e,fun j x hj=>?_⟩;obtain⟨cs,h1,h2⟩:=hc j x hj;exact⟨cs,hr.keep h1 hk,fun i v hi=>hk _ _ (h2 i v hi)⟩⟩
theorem RS.below (h:RS M r w A n cap l) (hr:r.Ok) (hb:Below w.heap.size w w'):RS M r w' A n cap l:=h.keep hr (cells_below hb)
theorem RS.at_ (h:RS M r w A n cap l) {k:Nat}(hk:k<n) :
  ∃ b off x cs,A=some ⟨b,off,none⟩/\r.rep w cs x/\(∀ i v,cs[i]?=some v->w.cell? ⟨b,off+k*r.size+i,none⟩=some v)/\Hid (l[k]?=some x):=by
 obtain⟨b,off,e,hc⟩:=h.cell (by omega);have hl:k<l.length:=by rw [h.len];exact hk
 obtain⟨cs,h1,h2⟩:=hc k _ (List.getElem?_eq_getElem hl);exact⟨b,off,l[k],cs,e,h1,h2,List.getElem?_eq_getElem hl⟩
theorem RS.bound (h:RS NB r w A n cap l):n<=4294967296:=h.nb
theorem RS.take (h:RS M r w A n cap l) {k:Nat}(hk:k<=n):RS M r w A k cap (l.take k) :=
 ⟨by rw [List.length_take,h.len];omega,Nat.le_trans hk h.nb,Nat.le_trans hk h.nc,fun h0=>by
  obtain⟨b,off,e,hc⟩:=h.cell (by omega);refine⟨b,off,e,fun j x hj=>hc j x ?_⟩;rw [List.getElem?_take]at hj;split at hj
  ·exact hj
  ·cases hj⟩
theorem RS.nil (M:Nat) (r:Rp α) (w:World) (A:Option Addr) (cap:Nat):RS M r w A 0 cap []:=⟨rfl,Nat.zero_le _,Nat.zero_le _,fun h=>absurd h (by omega)⟩
theorem RS.more {M':Nat}(h:RS M r w A n cap l) (hn:n<=M'):RS M' r w A n cap l:=⟨h.len,hn,h.nc,h.cell⟩
end
def blk:Option Addr->List Nat
 | none=>[]
 | some a=>[a.block]
def All3 {α:Type} (own:List Nat->List Value->α->Prop):List (List Nat)->List (List Value)->List α->Prop
 | [],[],[]=>True
 | f::fs,c::cs,x::xs=>own f c x/\All3 own fs cs xs
 | _,_,_=>False
section
variable {α:Type} {own own':List Nat->List Value->α->Prop}
theorem All3.lens {fs:List (List Nat)}{cs:List (List Value)}{xs:List α}(h:All3 own fs cs xs):fs.length=xs.length/\cs.length=xs.length:=by
 induction fs generalizing cs xs with
 | nil=>cases cs<;>cases xs<;>simp [All3]at h ⊢
 | cons f fs ih=>cases cs with
  | nil=>simp [All3]at h
  | cons c cs=>cases xs with
   | nil=>simp [All3]at h
   | cons x xs=>have:=ih h.2;simp;exact this
theorem All3.get {fs:List (List Nat)}{cs:List (List Value)}{xs:List α}(h:All3 own fs cs xs) {i:Nat}{x:α}(hx:xs[i]?=some x):∃ f c,fs[i]?=some f/\cs[i]?=some c/\own f c x:=by
 induction fs generalizing cs xs i with
 | nil=>cases cs<;>cases xs<;>simp [All3]at h hx
 | cons f fs ih=>cases cs with
  | nil=>simp [All3]at h
  | cons c cs=>cases xs with
   | nil=>simp [All3]at h
   | cons y ys=>cases i with
    | zero=>simp at hx;subst hx;exact⟨f,c,rfl,rfl,h.1⟩
    | succ i=>simpa using ih h.2 (by simpa using hx)
theorem All3.mono {fs:List (List Nat)}{cs:List (List Value)}{xs:List α}(h:All3 own fs cs xs) (hm:∀ f c x,f∈fs->own f c x->own' f c x):All3 own' fs cs xs:=by
 induction fs generalizing cs xs with
 | nil=>cases cs<;>cases xs<;>simp_all [All3]
 | cons f fs ih=>cases cs with
  | nil=>simp [All3]at h
  | cons c cs=>cases xs with
   | nil=>simp [All3]at h
   | cons x xs=>exact⟨hm _ _ _ List.mem_cons_self h.1,ih h.2 fun f c x hf=>hm f c x (List.mem_cons_of_mem _ hf)⟩
theorem All3.snoc {fs:List (List Nat)}{cs:List (List Value)}{xs:List α}(h:All3 own fs cs xs) {f:List Nat}{c:List Value}{x:α}(hx:own f c x):All3 own (fs++[f]) (cs++[c]) (xs++[x]):=by
 induction fs generalizing cs xs with
 | nil=>cases cs<;>cases xs<;>simp_all [All3]
 | cons f fs ih=>cases cs with
  | nil=>simp [All3]at h
  | cons c cs=>cases xs with
   | nil=>simp [All3]at h
   | cons x xs=>exact⟨h.1,ih h.2⟩
theorem All3.set {fs:List (List Nat)}{cs:List (List Value)}{xs:List α}(h:All3 own fs cs xs) {f:List Nat}{c:List Value}{x:α}(hx:own f c x) (i:Nat):All3 own (fs.set i f) (cs.set i c) (xs.set i x):=by
 induction fs generalizing cs xs i with
 | nil=>cases cs<;>cases xs<;>simp_all [All3]
 | cons f fs ih=>cases cs with
  | nil=>simp [All3]at h
  | cons c cs=>cases xs with
   | nil=>simp [All3]at h
   | cons x xs=>cases i with
    | zero=>exact⟨hx,h.2⟩
    | succ i=>exact⟨h.1,ih h.2 i⟩
theorem All3.clen {r:Rp α}(hr:r.Ok) {w:World}{fs:List (List Nat)}{cs:List (List Value)}{xs:List α}(h:All3 (r.own w) fs cs xs):∀ c∈cs,c.length=r.size:=by
 intro c hc;obtain⟨i,hi,rfl⟩:=List.getElem_of_mem hc;obtain⟨f,c',_,h2,h3⟩:=h.get (List.getElem?_eq_getElem (by rw [<- h.lens.2];exact hi));rw [List.getElem?_eq_getElem hi]at h2;injection h2 with h2;rw [h2];exact hr.len (hr.toRep h3)
theorem All3.rep {fs:List (List Nat)}{c:List Value}{x:α}(f:List Nat) (hx:own f c x) (n:Nat) (hfs:fs=List.replicate n f):All3 own fs (List.replicate n c) (List.replicate n x):=by
 subst hfs
 induction n with
 | zero=>simp [All3]
 | succ n ih=>exact⟨hx,ih⟩
end
structure OS {α:Type} (M:Nat) (e:TypeId) (r:Rp α) (w:World) (fp:List Nat) (A:Option Addr) (n cap:Nat) (l:List α):Prop where
 len:l.length=n
 nb:n<=M
 ex:∃ css fps,w.ownsRow 0 e r.size (.slice A n cap) n css.flatten/\fp=blk A++fps.flatten/\All3 (r.own w) fps css l
theorem ownsRow_form {w:World}{B:Nat}{e:TypeId}{size n cap:Nat}{A:Option Addr}{xs:List Value}(h:w.ownsRow B e size (.slice A n cap) n xs) :
  n<=cap/\(A=none/\n=0/\cap=0\/∃ g,A=some ⟨g,0,none⟩/\g<w.heap.size/\B<=g):=by
 rcases h.2 with ⟨h1,h2⟩|⟨g,c,cur,h1,hB,hg,h2,_⟩
 ·injection h1 with a b c;subst a;exact⟨by omega,.inl ⟨rfl,by omega,by omega⟩⟩
 ·injection h1 with a b c;subst a;exact⟨by omega,.inr ⟨g,rfl,(Array.getElem?_eq_some_iff.1 hg).1,hB⟩⟩
theorem ownsRow_base {w:World}{B B':Nat}{e:TypeId}{size n:Nat}{v:Value}{xs:List Value}(h:w.ownsRow B e size v n xs) (hB:∀ g,v.ownBlock=some g->B'<=g):w.ownsRow B' e size v n xs:=by
 refine⟨h.1,?_⟩;rcases h.2 with h2|⟨g,c,cur,h1,_,rest⟩
 ·exact .inl h2
 ·subst h1;exact .inr ⟨g,c,cur,rfl,hB g rfl,rest⟩
theorem ownsRow_blocks {w w':World}{B:Nat}{e:TypeId}{size n cap:Nat}{A:Option Addr}{xs:List Value}(h:w.ownsRow B e size (.slice A n cap) n xs) (hk:∀ k∈blk A,w'.heap[k]?=w.heap[k]?):w'.ownsRow B e size (.slice A n cap) n xs:=by
 refine⟨h.1,?_⟩;rcases h.2 with h2|⟨g,c,cur,h1,hB,hg,rest⟩
 ·exact .inl h2
 ·injection h1 with a b c'
  subst a;exact .inr ⟨g,c,cur,by rw [c'],hB,by rw [hk g (by simp [blk])];exact hg,rest⟩
section
variable {α:Type} {r:Rp α} {M:Nat} {e:TypeId} {w w':World} {fp:List Nat} {A:Option Addr} {n cap:Nat} {l:List α}
theorem OS.rs (h:OS M e r w fp A n cap l) (hr:r.Ok):RS M r w A n cap l:=by
 obtain⟨css,fps,hown,_,h3⟩:=h.ex;refine⟨h.len,h.nb,(ownsRow_form hown).1,fun hn=>?_⟩;rcases (ownsRow_form hown).2 with ⟨_,h0,_⟩|⟨g,rfl,_⟩
 ·omega
 ·refine⟨g,0,rfl,fun j x hj=>?_⟩
  obtain⟨f,c,_,hc,ho⟩:=h3.get hj;refine⟨c,hr.toRep ho,fun i v hi=>?_⟩;have hg:=flat_get (h3.clen hr) hc hi;have hlt:j*r.size+i<n*r.size:=by rw [<- hown.1];exact lt_of_at hg
  rw [Nat.zero_add,hown.cellAt _ hlt];exact hg
theorem OS.okeep (h:OS M e r w fp A n cap l) (hr:r.Ok) (hk:∀ k∈fp,w'.heap[k]?=w.heap[k]?):OS M e r w' fp A n cap l:=by
 obtain⟨css,fps,hown,rfl,h3⟩:=h.ex;refine⟨h.len,h.nb,css,fps,ownsRow_blocks hown (fun k hk'=>hk k (List.mem_append_left _ hk')),rfl,h3.mono fun f c x hf ho=>hr.okeep ho fun k hk'=>hk k (List.mem_append_right _ (List.mem_flatten.2 ⟨f,hf,hk'⟩))⟩
theorem OS.lt (h:OS M e r w fp A n cap l) (hr:r.Ok):∀ k∈fp,k<w.heap.size:=by
 obtain⟨css,fps,hown,rfl,h3⟩:=h.ex;intro k hk;rcases List.mem_append.1 hk with hk|hk
 ·rcases (ownsRow_form hown).2 with ⟨rfl,_⟩|⟨g,rfl,hg,_⟩
  ·cases hk
  ·simp [blk]at hk;omega
 ·obtain⟨f,hf,hk⟩:=List.mem_flatten.1 hk
  obtain⟨i,hi,rfl⟩:=List.getElem_of_mem hf;obtain⟨f',c,h1,_,ho⟩:=h3.get (List.getElem?_eq_getElem (l:=l) (i:=i) (by rw [<- h3.lens.1];exact hi));rw [List.getElem?_eq_getElem hi]at h1;injection h1 with h1;exact hr.lt ho k (h1▸hk)
theorem OS.below (h:OS M e r w fp A n cap l) (hr:r.Ok) {B:Nat}(hb:Below B w w') (hB:∀ k∈fp,k<B):OS M e r w' fp A n cap l:=h.okeep hr fun k hk=>hb.block k (hB k hk)
theorem OS.belowS (h:OS M e r w fp A n cap l) (hr:r.Ok) (hb:Below w.heap.size w w'):OS M e r w' fp A n cap l:=h.below hr hb (h.lt hr)
end
def rSlice {α:Type} (M:Nat) (e:TypeId) (r:Rp α):Rp (List α) :=
 ⟨1,fun w cs l=>∃ A n cap,cs=[.slice A n cap]/\RS M r w A n cap l,fun w fp cs l=>∃ A n cap,cs=[.slice A n cap]/\OS M e r w fp A n cap l⟩
theorem rSlice_ok {α:Type}(M:Nat) (e:TypeId) {r:Rp α}(hr:r.Ok):(rSlice M e r).Ok where
 pos:=by simp [rSlice]
 len h:=by obtain⟨A,n,cap,rfl,_⟩:=h;rfl
 one h u hu:=by obtain⟨A,n,cap,rfl,_⟩:=h;simp at hu;subst hu;rfl
 keep h hk:=by obtain⟨A,n,cap,rfl,h⟩:=h;exact⟨A,n,cap,rfl,h.keep hr hk⟩
 toRep h:=by obtain⟨A,n,cap,rfl,h⟩:=h;exact⟨A,n,cap,rfl,h.rs hr⟩
 okeep h hk:=by obtain⟨A,n,cap,rfl,h⟩:=h;exact⟨A,n,cap,rfl,h.okeep hr hk⟩
 lt h:=by obtain⟨A,n,cap,rfl,h⟩:=h;exact h.lt hr
def rInt:Rp Int:=⟨1,fun _ cs x=>cs=[.int .i64 x]/\I64 x,fun _ fp cs x=>fp=[]/\cs=[.int .i64 x]/\I64 x⟩
def rBool:Rp Bool:=⟨1,fun _ cs x=>cs=[.bool x],fun _ fp cs x=>fp=[]/\cs=[.bool x]⟩
def rStr (M:Nat):Rp ByteArray:=⟨1,fun _ cs x=>cs=[.string x]/\x.size<=M,fun _ fp cs x=>fp=[]/\cs=[.string x]/\x.size<=M⟩
theorem rInt_ok:rInt.Ok where
 pos:=by simp [rInt]
 len h:=by rw [h.1];rfl
 one h u hu:=by rw [h.1]at hu;simp at hu;subst hu;rfl
 keep h _:=h
 toRep h:=h.2
 okeep h _:=h
 lt h k hk:=by rw [h.1]at hk;cases hk
theorem rBool_ok:rBool.Ok where
 pos:=by simp [rBool]
 len h:=by rw [h];rfl
 one h u hu:=by rw [h]at hu;simp at hu;subst hu;rfl
 keep h _:=h
 toRep h:=h.2
 okeep h _:=h
 lt h k hk:=by rw [h.1]at hk;cases hk
theorem rStr_ok (M:Nat):(rStr M).Ok where
 pos:=by simp [rStr]
 len h:=by rw [h.1];rfl
 one h u hu:=by rw [h.1]at hu;simp at hu;subst hu;rfl
 keep h _:=h
 toRep h:=h.2
 okeep h _:=h
 lt h k hk:=by rw [h.1]at hk;cases hk
def rPair {α β:Type} (r:Rp α) (q:Rp β):Rp (α × β) :=
 ⟨r.size+q.size,fun w cs x=>∃ c1 c2,cs=c1++c2/\r.rep w c1 x.1/\q.rep w c2 x.2,fun w fp cs x=>∃ f1 f2 c1 c2,fp=f1++f2/\cs=c1++c2/\r.own w f1 c1 x.1/\q.own w f2 c2 x.2⟩
theorem rPair_ok {α β:Type}{r:Rp α}{q:Rp β}(hr:r.Ok) (hq:q.Ok):(rPair r q).Ok where
 pos:=Nat.lt_of_lt_of_le hr.pos (Nat.le_add_right _ _)
 len h:=by obtain⟨c1,c2,rfl,h1,h2⟩:=h;rw [List.length_append,hr.len h1,hq.len h2];rfl
 one h u hu:=by
  obtain⟨c1,c2,rfl,h1,h2⟩:=h;rcases List.mem_append.1 hu with hu|hu
  ·exact hr.one h1 u hu
  ·exact hq.one h2 u hu
 keep h hk:=by obtain⟨c1,c2,rfl,h1,h2⟩:=h;exact⟨c1,c2,rfl,hr.keep h1 hk,hq.keep h2 hk⟩
 toRep h:=by obtain⟨f1,f2,c1,c2,rfl,rfl,h1,h2⟩:=h;exact⟨c1,c2,rfl,hr.toRep h1,hq.toRep h2⟩
 okeep h hk:=by
  obtain⟨f1,f2,c1,c2,rfl,rfl,h1,h2⟩:=h;exact⟨f1,f2,c1,c2,rfl,rfl,hr.okeep h1 fun k hk'=>hk k (List.mem_append_left _ hk'),hq.okeep h2 fun k hk'=>hk k (List.mem_append_right _ hk')⟩
 lt h k hk:=by
  obtain⟨f1,f2,c1,c2,rfl,rfl,h1,h2⟩:=h;rcases List.mem_append.1 hk with hk|hk
  ·exact hr.lt h1 k hk
  ·exact hq.lt h2 k hk
def rIso {α β:Type} (r:Rp α) (f:β->α):Rp β:=⟨r.size,fun w cs y=>r.rep w cs (f y),fun w fp cs y=>r.own w fp cs (f y)⟩
theorem rIso_ok {α β:Type}{r:Rp α}(hr:r.Ok) (f:β->α):(rIso r f).Ok where
 pos:=hr.pos
 len h:=hr.len h
 one h:=hr.one h
 keep h hk:=hr.keep h hk
 toRep h:=hr.toRep h
 okeep h hk:=hr.okeep h hk
 lt h:=hr.lt h
theorem RS.ati {M:Nat}{w:World}{A:Option Addr}{n cap:Nat}{l:List Int}(h:RS M rInt w A n cap l) {k:Nat}(hk:k<n) :
  ∃ b off x,A=some ⟨b,off,none⟩/\w.cell? ⟨b,off+k,none⟩=some (.int .i64 x)/\I64 x/\Hid (l[k]?=some x):=by
 obtain⟨b,off,x,cs,e,⟨rfl,hI⟩,hc,hx⟩:=h.at_ hk;exact⟨b,off,x,e,by simpa [rInt]using hc 0 _ rfl,hI,hx⟩
theorem RS.rng {M:Nat}{w:World}{A:Option Addr}{n cap:Nat}{l:List Int}(h:RS M rInt w A n cap l):∀ x∈l,I64 x:=by
 intro x hx;obtain⟨i,hi,rfl⟩:=List.getElem_of_mem hx;obtain⟨_,_,x,_,_,hI,hh⟩:=h.ati (k:=i) (by rw [<- h.len];exact hi);have:=hh.out;rw [List.getElem?_eq_getElem hi]at this;injection this with this;rw [this];exact hI
theorem all3_int {w:World}{fs:List (List Nat)}{cs:List (List Value)}{xs:List Int}:All3 (rInt.own w) fs cs xs↔fs=List.replicate xs.length []/\cs=xs.map (fun x=>[.int .i64 x])/\∀ x∈xs,I64 x:=by
 induction xs generalizing fs cs with
 | nil=>cases fs<;>cases cs<;>simp [All3]
 | cons x xs ih=>cases fs with
  | nil=>cases cs<;>simp [All3,List.replicate_succ]
  | cons f fs=>cases cs with
   | nil=>simp [All3]
   | cons c cs =>
    constructor
    ·rintro⟨⟨rfl,rfl,h1⟩,h2⟩
     obtain⟨rfl,rfl,h3⟩:=ih.1 h2;refine⟨rfl,rfl,?_⟩;intro y hy;rcases List.mem_cons.1 hy with rfl|hy
     ·exact h1
     ·exact h3 y hy
    ·rintro⟨h1,h2,h3⟩
     simp only [List.length_cons,List.replicate_succ,List.cons.injEq,List.map_cons]at h1 h2;obtain⟨rfl,rfl⟩:=h1;obtain⟨rfl,rfl⟩:=h2;exact⟨⟨rfl,rfl,h3 x List.mem_cons_self⟩,ih.2 ⟨rfl,rfl,fun y hy=>h3 y (List.mem_cons_of_mem _ hy)⟩⟩
theorem flatten_singles {α β:Type}(f:α->β) (xs:List α):(xs.map (fun x=>[f x])).flatten=xs.map f:=by
 induction xs with
 | nil=>rfl
 | cons x xs ih=>simp [ih]
theorem flatten_nils {α:Type}(n:Nat):(List.replicate n ([]:List α)).flatten=[]:=by simp
theorem osInt {M:Nat}{e:TypeId}{w:World}{fp:List Nat}{A:Option Addr}{n cap:Nat}{l:List Int} :
  OS M e rInt w fp A n cap l↔fp=blk A/\n<=M/\w.ownsRow 0 e 1 (.slice A n cap) n (l.map (Value.int .i64))/\∀ x∈l,I64 x:=by
 constructor
 ·rintro⟨h1,h2,css,fps,hown,rfl,h3⟩
  obtain⟨rfl,rfl,h4⟩:=all3_int.1 h3;rw [flatten_singles]at hown;exact⟨by rw [flatten_nils,List.append_nil],h2,hown,h4⟩
 ·rintro⟨rfl,h2,hown,h4⟩
  exact⟨by simpa using hown.1,h2,l.map (fun x=>[.int .i64 x]),List.replicate l.length [],by rw [flatten_singles];exact hown,by rw [flatten_nils,List.append_nil],all3_int.2 ⟨rfl,rfl,h4⟩⟩
theorem blk_own (A:Option Addr) (n cap:Nat):(Value.slice A n cap).ownBlock=(A.map (·.block)):=by cases A<;>rfl
theorem mem_blk {A:Option Addr}{k:Nat}:k∈blk A↔A.map (·.block)=some k:=by cases A<;>simp [blk,eq_comm]
theorem ownsRow_slice {w:World}{B:Nat}{e:TypeId}{size n:Nat}{v:Value}{xs:List Value}(h:w.ownsRow B e size v n xs):∃ A cap,v=.slice A n cap:=by
 rcases h.2 with ⟨h1,h2⟩|⟨g,c,cur,h1,_⟩
 ·subst h2;exact⟨none,0,h1⟩
 ·exact⟨_,c,h1⟩
section
variable {α:Type} {r:Rp α} {M:Nat} {e:TypeId} {w:World} {fp:List Nat} {A:Option Addr} {n cap:Nat} {l:List α}
theorem OS.app1 (hr:r.Ok) {w':World}{A':Option Addr}{cap':Nat}{f:List Nat}{cs:List Value}{x:α}
  (h:OS M e r w fp A n cap l) (hx:r.own w f cs x) (hn:n+1<=M)
  (hfx:∀ k∈f,k∉blk A) (hfp:∀ k∈fp.drop (blk A).length,k∉blk A)
  (hown:∀ css,w.ownsRow 0 e r.size (.slice A n cap) n css->w'.ownsRow 0 e r.size (.slice A' (n+1) cap') (n+1) (css++cs)) (hg:w.grownBy w' (A.map (·.block))) :
  OS M e r w' (blk A'++(fp.drop (blk A).length++f)) A' (n+1) cap' (l++[x]):=by
 obtain⟨css,fps,h1,rfl,h3⟩:=h.ex;have hkeep:∀ k,k<w.heap.size->k∉blk A->w'.heap[k]?=w.heap[k]?:=fun k hk hne=>hg.block k hk (fun e=>hne (mem_blk.2 e.symm));rw [List.drop_left]at hfp ⊢;have hlt:=h.lt hr;refine⟨by simp [h.len],hn,css++[cs],fps++[f],?_,by simp,?_⟩
 ·rw [List.flatten_append,List.flatten_singleton];exact hown _ h1
 ·refine All3.snoc (h3.mono fun f' c y hf' ho=>hr.okeep ho fun k hk=>?_) (hr.okeep hx fun k hk=>hkeep k (hr.lt hx k hk) (hfx k hk))
  have hm:k∈fps.flatten:=List.mem_flatten.2 ⟨f',hf',hk⟩;exact hkeep k (hlt k (List.mem_append_right _ hm)) (hfp k hm)
end
structure Fr (B:Nat) (fp:List Nat):Prop where
 nd:fp.Nodup
 ge:∀ k∈fp,B<=k
theorem Fr.nil (B:Nat):Fr B []:=⟨by simp,by simp⟩
theorem Fr.mono {B B':Nat}{fp:List Nat}(h:Fr B fp) (hB:B'<=B):Fr B' fp:=⟨h.nd,fun k hk=>Nat.le_trans hB (h.ge k hk)⟩
theorem Fr.append {B T:Nat}{f1 f2:List Nat}(h1:Fr B f1) (h2:Fr T f2) (hlt:∀ k∈f1,k<T) (hB:B<=T):Fr B (f1++f2) :=
 ⟨List.nodup_append.2 ⟨h1.nd,h2.nd,fun a ha b hb e=>by have:=hlt a ha;have:=h2.ge b hb;omega⟩,fun k hk=>by
  rcases List.mem_append.1 hk with hk|hk
  ·exact h1.ge k hk
  ·exact Nat.le_trans hB (h2.ge k hk)⟩
theorem Fr.left {B:Nat}{f1 f2:List Nat}(h:Fr B (f1++f2)):Fr B f1:=⟨(List.nodup_append.1 h.nd).1,fun k hk=>h.ge k (List.mem_append_left _ hk)⟩
theorem Fr.right {B:Nat}{f1 f2:List Nat}(h:Fr B (f1++f2)):Fr B f2:=⟨(List.nodup_append.1 h.nd).2.1,fun k hk=>h.ge k (List.mem_append_right _ hk)⟩
theorem Fr.disj {B:Nat}{f1 f2:List Nat}(h:Fr B (f1++f2)):∀ k∈f1,k∉f2:=fun k h1 h2=>(List.nodup_append.1 h.nd).2.2 k h1 k h2 rfl
def MS {α:Type} (B M:Nat) (e:TypeId) (r:Rp α) (w:World) (A:Option Addr) (n cap:Nat) (l:List α):Prop:=∃ fp,OS M e r w fp A n cap l/\Fr B fp
structure Ei (P:Program) (t e:TypeId) (z:Value) (size bytes:Nat):Prop where
 ht:P.underlying t=some (.slice e)
 hi:(P.info? e).map (fun i=>(i.zero,i.size,i.bytes))=some (some z,size,bytes)
 hz:z.cells.size=size
section
variable {α:Type} {r:Rp α} {B M:Nat} {e:TypeId} {w:World} {A:Option Addr} {n cap:Nat} {l:List α}
theorem MS.len (h:MS B M e r w A n cap l):l.length=n:=h.elim fun _ h=>h.1.len
theorem MS.nb (h:MS B M e r w A n cap l):n<=M:=h.elim fun _ h=>h.1.nb
theorem MS.rs (h:MS B M e r w A n cap l) (hr:r.Ok):RS M r w A n cap l:=h.elim fun _ h=>h.1.rs hr
theorem MS.below {w':World}(h:MS B M e r w A n cap l) (hr:r.Ok) (hb:Below w.heap.size w w'):MS B M e r w' A n cap l:=h.elim fun fp h=>⟨fp,h.1.belowS hr hb,h.2⟩
theorem MS.form (h:MS B M e r w A n cap l) (hn:0<n):∃ g,A=some ⟨g,0,none⟩/\g<w.heap.size/\B<=g:=by
 obtain⟨fp,h1,h2⟩:=h;obtain⟨css,fps,h3,rfl,h4⟩:=h1.ex;rcases (ownsRow_form h3).2 with ⟨_,h0,_⟩|⟨g,rfl,hg,_⟩
 ·omega
 ·exact⟨g,rfl,hg,h2.ge g (List.mem_append_left _ (by simp [blk]))⟩
theorem MS.nil (w:World) (hw:0<=M):MS B M e r w none 0 0 []:=⟨[],⟨rfl,hw,[],[],World.ownsRow_nil w 0 e r.size,rfl,trivial⟩,Fr.nil B⟩
theorem MS.empty (w:World) (hB:B<=w.heap.size):MS B M e r (w.alloc (.cells #[] e)) (some ⟨w.heap.size,0,none⟩) 0 0 [] :=
 ⟨[w.heap.size],⟨rfl,Nat.zero_le _,[],[],⟨by simp,.inr ⟨w.heap.size,0,#[],rfl,Nat.zero_le _,heap_alloc_new w _,Nat.le_refl _,Nat.zero_le _,by simp,by simp⟩⟩,rfl,trivial⟩,⟨by simp,by simp [hB]⟩⟩
theorem MS.one {x:Int}(w:World) (hB:B<=w.heap.size) (hM:1<=M) (hx:I64 x):MS B M e rInt (w.alloc (.cells #[.int .i64 x] e)) (some ⟨w.heap.size,0,none⟩) 1 1 [x] :=
 ⟨[w.heap.size],osInt.2 ⟨rfl,hM,⟨by simp,.inr ⟨w.heap.size,1,#[.int .i64 x],rfl,Nat.zero_le _,heap_alloc_new w _,Nat.le_refl _,by unfold maxLen;omega,by simp,by simp⟩⟩,by simpa using hx⟩,⟨by simp,by simp [hB]⟩⟩
theorem MS.app1 (hr:r.Ok) {wr w':World}{A':Option Addr}{cap':Nat}{f:List Nat}{cs:List Value}{x:α}
  (h:MS B M e r wr A n cap l) (hb:Below wr.heap.size wr w) (hB:B<=wr.heap.size) (hx:r.own w f cs x) (hf:Fr wr.heap.size f) (hn:n+1<=M)
  (hown:∀ css,w.ownsRow 0 e r.size (.slice A n cap) n css->w'.ownsRow 0 e r.size (.slice A' (n+1) cap') (n+1) (css++cs)) (hg:w.grownBy w' (A.map (·.block)))
  (hA:A'.map (·.block)=A.map (·.block)\/A'.map (·.block)=some w.heap.size):MS B M e r w' A' (n+1) cap' (l++[x]):=by
 obtain⟨fp,h1,h2⟩:=h;have hlt0:=h1.lt hr;have h1:=h1.belowS hr hb;obtain⟨rest,hrest⟩:∃ rest,fp=blk A++rest:=by obtain⟨_,fps,_,e,_⟩:=h1.ex;exact⟨_,e⟩
 subst hrest;have hdj:=h2.disj;refine⟨_,h1.app1 hr hx hn (fun k hk hk'=>?_) (fun k hk hk'=>?_) hown hg,?_⟩
 ·have:=hlt0 k (List.mem_append_left _ hk');have:=hf.ge k hk;omega
 ·rw [List.drop_left]at hk;exact hdj k hk' hk
 ·rw [List.drop_left]
  have hmid:Fr B (rest++f):=h2.right.append hf (fun k hk=>hlt0 k (List.mem_append_right _ hk)) hB;refine⟨List.nodup_append.2 ⟨by cases A'<;>simp [blk],hmid.nd,fun a ha b hb' e=>?_⟩,fun k hk=>?_⟩
  ·subst e
   rcases hA with hA|hA
   ·have ha':a∈blk A:=mem_blk.2 (hA▸mem_blk.1 ha)
    rcases List.mem_append.1 hb' with hb'|hb'
    ·exact hdj a ha' hb'
    ·have:=hlt0 a (List.mem_append_left _ ha');have:=hf.ge a hb';omega
   ·have ha':a=w.heap.size:=by have:=mem_blk.1 ha;rw [hA]at this;injection this with this;exact this.symm
    rcases List.mem_append.1 hb' with hb'|hb'
    ·have:=hlt0 a (List.mem_append_right _ hb');have:=hb.size;omega
    ·have:=hr.lt hx a hb';omega
  ·rcases List.mem_append.1 hk with hk|hk
   ·rcases hA with hA|hA
    ·exact h2.left.ge k (mem_blk.2 (hA▸mem_blk.1 hk))
    ·have:=mem_blk.1 hk;rw [hA]at this;injection this with this;have:=hb.size;omega
   ·exact hmid.ge k hk
theorem MS.grown {wr w':World}(h:MS B M e r wr A n cap l) (hb:Below wr.heap.size wr w) (hB:B<=wr.heap.size) (hg:w.grownBy w' (A.map (·.block))):Below B w w':=by
 refine⟨hg.os,hg.tape,hg.output,hg.size,fun k hk=>hg.block k ?_ fun e=>?_⟩
 ·have:=hb.size;omega
 ·obtain⟨fp,h1,h2⟩:=h
  obtain⟨css,fps,h3,rfl,h4⟩:=h1.ex;have:=h2.ge k (List.mem_append_left _ (mem_blk.2 e.symm));omega
theorem wpList_app {P:Program}{ops:Array Oper}{rest:List Oper}{o:Oper}{a:Act}{Q:Exit->Act->World->Prop}(hgd:o.guard=none) (s x:Operand) (t:TypeId)
  (ho:o.op=.call { callee:=.builtin .append,args:=#[s,x],argTypes:=#[t,t] }) (z:Value) (bytes:Nat) (ei:Ei P t e z r.size bytes) (hr:r.Ok) {wr:World}
  (hs:a.eval s=.slice A n cap) (h:MS B M e r wr A n cap l) (hb:Below wr.heap.size wr w) (hB:B<=wr.heap.size)
  (ad:Addr) (hx:a.eval x=.slice (some ad) 1 1) (f:List Nat) (cs:List Value) (y:α) (hy:r.own w f cs y) (hf:Fr wr.heap.size f) (hc:∀ j u,cs[j]?=some u->w.cell? (ad.add j)=some u)
  (hn:n+1<=M) (hM:M<=4294967296) (hby:(n+1)*bytes<=140737488355328)
  (K:∀ A' cap' w',MS B M e r w' A' (n+1) cap' (l++[y])->Below B w w'->w.grownBy w' (A.map (·.block))->wpList P ops Q rest (a.put o.dst (.slice A' (n+1) cap')) w') :
  wpList P ops Q (o::rest) a w:=by
 obtain⟨i,hi,h1,h2,h3⟩:=info_parts ei.hi;obtain⟨fp,hO,hfr⟩:=h;have hO':=hO.belowS hr hb;obtain⟨css,fps,h4,_,h6⟩:=hO'.ex;refine wpList_append_own_at _ hgd s x t ho 0 e i z r.size bytes ei.ht hi h1 h2 h3 ei.hz hr.pos _ n css.flatten hs h4 ad 1 1 cs hx (by rw [hr.len (hr.toRep hy),Nat.one_mul]) hc (hr.one (hr.toRep hy)) (by unfold maxLen;omega) hby (Nat.zero_le _) ?_;intro v' w' r1 r2 _ r4;obtain⟨A',cap',rfl⟩:=ownsRow_slice r1;rw [blk_own]at r2 r4;rw [blk_own]at r4;refine K A' cap' w' (MS.app1 hr ⟨fp,hO,hfr⟩ hb hB hy hf hn (fun css' hcss=>?_) r2 r4) (MS.grown ⟨fp,hO,hfr⟩ hb hB r2) r2
 have:css'=css.flatten:=by
  rcases (ownsRow_form h4).2 with ⟨rfl,rfl,_⟩|⟨g,rfl,_⟩
  ·have e1:=h4.1;have e2:=hcss.1;rw [Nat.zero_mul]at e1 e2;rw [List.eq_nil_of_length_eq_zero e2,List.eq_nil_of_length_eq_zero e1]
  ·refine List.ext_getElem? fun j=>?_
   by_cases hj:j<n*r.size
   ·rw [<- h4.cellAt j hj,<- hcss.cellAt j hj]
   ·rw [List.getElem?_eq_none (by rw [hcss.1];omega),List.getElem?_eq_none (by rw [h4.1];omega)]
 rw [this];exact r1
end
end Go.Proofs.YtnlcfkpcmfljeaaGreat
