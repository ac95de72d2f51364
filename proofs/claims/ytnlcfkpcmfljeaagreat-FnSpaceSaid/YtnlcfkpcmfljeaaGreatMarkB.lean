/-
  MarkB
-/
import Derived.Test.YtnlcfkpcmfljeaaGreatTypes
import Derived.Test.YtnlcfkpcmfljeaaGreatKeep
set_option linter.unusedVariables false
namespace Go.Proofs.YtnlcfkpcmfljeaaGreat
open Go.RowKit
structure Chg (fp:List Nat) (w w':World):Prop where
 os:w'.os=w.os
 tape:w'.tape=w.tape
 output:w'.output=w.output
 size:w.heap.size<=w'.heap.size
 block:∀ k,k<w.heap.size->k∉fp->w'.heap[k]?=w.heap[k]?
theorem Chg.refl (fp:List Nat) (w:World):Chg fp w w:=⟨rfl,rfl,rfl,Nat.le_refl _,fun _ _ _=>rfl⟩
theorem Chg.trans {fp:List Nat}{a b c:World}(h:Chg fp a b) (g:Chg fp b c):Chg fp a c :=
 ⟨g.os.trans h.os,g.tape.trans h.tape,g.output.trans h.output,Nat.le_trans h.size g.size,fun k hk hn=>(g.block k (Nat.lt_of_lt_of_le hk h.size) hn).trans (h.block k hk hn)⟩
theorem Chg.mono {fp fp':List Nat}{a b:World}(h:Chg fp a b) (hs:∀ k∈fp,k∈fp'):Chg fp' a b :=
 ⟨h.os,h.tape,h.output,h.size,fun k hk hn=>h.block k hk fun hk'=>hn (hs k hk')⟩
theorem Chg.ofBelow {w w':World}(h:Below w.heap.size w w') (fp:List Nat):Chg fp w w':=⟨h.os,h.tape,h.output,h.size,fun k hk _=>h.block k hk⟩
theorem Chg.toBelow {fp:List Nat}{w w':World}(h:Chg fp w w') {B:Nat}(hB:B<=w.heap.size) (hf:∀ k∈fp,B<=k):Below B w w' :=
 ⟨h.os,h.tape,h.output,h.size,fun k hk=>h.block k (by omega) fun hk'=>by have:=hf k hk';omega⟩
theorem Chg.setCell {fp:List Nat}{a w:World}(h:Chg fp a w) {g:Nat}(hg:g∈fp) (j:Nat) (v:Value):Chg fp a (w.setCell ⟨g,j,none⟩ v) :=
 ⟨h.os,h.tape,h.output,by rw [World.size_setCell];exact h.size,fun k hk hn=>(heap_setCell_other w ⟨g,j,none⟩ k v (fun e=>hn (by rw [e];exact hg))).trans (h.block k hk hn)⟩
theorem Chg.alloc {fp:List Nat}{a w:World}(h:Chg fp a w) (o:Obj):Chg fp a (w.alloc o) :=
 h.trans (Chg.ofBelow ((Below.refl _ _).alloc (Nat.le_refl _) o) fp)
theorem Rp.Ok.ownC {α:Type}{r:Rp α}(hr:r.Ok) {w w':World}{f fp:List Nat}{cs:List Value}{x:α}(h:r.own w f cs x) (hc:Chg fp w w') (hd:∀ k∈f,k∉fp):r.own w' f cs x:=hr.okeep h fun k hk=>hc.block k (hr.lt h k hk) (hd k hk)
theorem OS.chg {α:Type}{r:Rp α}{M:Nat}{e:TypeId}{w w':World}{f fp:List Nat}{A:Option Addr}{n cap:Nat}{l:List α}(h:OS M e r w f A n cap l) (hr:r.Ok) (hc:Chg fp w w') (hd:∀ k∈f,k∉fp):OS M e r w' f A n cap l:=h.okeep hr fun k hk=>hc.block k (h.lt hr k hk) (hd k hk)
theorem Bx.chg {w w':World}{g:Nat}{cs:List Value}{fp:List Nat}(h:Bx w g cs) (hc:Chg fp w w') (hd:g∉fp):Bx w' g cs:=fun j v hj=>by
 have:=h j v hj;have hb:=World.block_lt_of_cell? w _ this;rw [World.cell?_of_block (w:=w) (hc.block _ hb hd)];exact this
theorem All3.mk {α:Type}{own:List Nat->List Value->α->Prop}{fs:List (List Nat)}{cs:List (List Value)}{xs:List α}(h1:fs.length=xs.length) (h2:cs.length=xs.length)
  (h:∀ (j:Nat) f c x,fs[j]?=some f->cs[j]?=some c->xs[j]?=some x->own f c x):All3 own fs cs xs:=by
 induction fs generalizing cs xs with
 | nil =>
  have e1:xs=[]:=List.eq_nil_of_length_eq_zero (by simpa using h1.symm);subst e1;have e2:cs=[]:=List.eq_nil_of_length_eq_zero (by simpa using h2);subst e2;simp [All3]
 | cons f fs ih=>cases xs with
  | nil=>simp at h1
  | cons x xs=>cases cs with
   | nil=>simp at h2
   | cons c cs=>exact⟨h 0 f c x rfl rfl rfl,ih (by simpa using h1) (by simpa using h2) fun j f c x a b d=>h (j+1) f c x (by simpa using a) (by simpa using b) (by simpa using d)⟩
theorem over_length {α:Type}(xs:List α) (i:Nat) (c:List α):(over xs i c).length=xs.length:=by
 induction c generalizing xs i with
 | nil=>rfl
 | cons v c ih=>rw [over,ih];simp
theorem over_set_before {α:Type}(xs:List α) (i j:Nat) (c:List α) (v:α) (h:j<i):over (xs.set j v) i c=(over xs i c).set j v:=by
 induction c generalizing xs i with
 | nil=>rfl
 | cons u c ih=>rw [over,over,<- ih _ _ (by omega),List.set_comm _ _ (by omega)]
theorem over_set {α:Type}(xs:List α) (i t:Nat) (c:List α) (v:α) (h:t<c.length):(over xs i c).set (i+t) v=over xs i (c.set t v):=by
 induction c generalizing xs i t with
 | nil=>simp at h
 | cons u c ih=>cases t with
  | zero=>simp only [List.set_cons_zero,over,Nat.add_zero];rw [<- over_set_before _ _ _ _ _ (by omega)];congr 1;rw [List.set_set]
  | succ t=>simp only [List.set_cons_succ,over];rw [<- ih _ _ _ (by simpa using h)];congr 1;omega
theorem over_self {α:Type}{css:List (List α)}{size i:Nat}{c:List α}(h:∀ c∈css,c.length=size) (hi:css[i]?=some c):over css.flatten (i*size) c=css.flatten:=by
 have hlt:=lt_of_at hi;rw [flat_set h hlt (h c (mem_of_at hi))];obtain⟨_,rfl⟩:=List.getElem?_eq_some_iff.1 hi;rw [List.set_getElem_self]
def ElemAt (w:World) (e:TypeId) (size g n cap i:Nat) (xs c:List Value):Prop:=c.length=size/\w.ownsRow 0 e size (.slice (some ⟨g,0,none⟩) n cap) n (over xs (i*size) c)
theorem ElemAt.store {w:World}{e:TypeId}{size g n cap i:Nat}{xs c:List Value}(h:ElemAt w e size g n cap i xs c) (t:Nat) (ht:t<size) (v:Value):ElemAt (w.setCell ⟨g,i*size+t,none⟩ v) e size g n cap i xs (c.set t v):=by
 refine⟨by rw [List.length_set];exact h.1,?_⟩;rw [<- over_set _ _ _ _ _ (by rw [h.1];exact ht)];exact(h.2.stored _ _).1
theorem ElemAt.keep {w w':World}{e:TypeId}{size g n cap i:Nat}{xs c:List Value}(h:ElemAt w e size g n cap i xs c) (hk:w'.heap[g]?=w.heap[g]?):ElemAt w' e size g n cap i xs c :=
 ⟨h.1,ownsRow_blocks h.2 fun k hk'=>by simp [blk]at hk';rw [hk'];exact hk⟩
theorem ElemAt.lt {w:World}{e:TypeId}{size g n cap i:Nat}{xs c:List Value}(h:ElemAt w e size g n cap i xs c):g<w.heap.size:=by
 rcases (ownsRow_form h.2).2 with ⟨h0,_⟩|⟨g',h0,hg,_⟩
 ·cases h0
 ·injection h0 with h0;injection h0 with h0;omega
theorem ElemAt.cell {w:World}{e:TypeId}{size g n cap i:Nat}{xs c:List Value}(h:ElemAt w e size g n cap i xs c) (hi:i<n) {t:Nat}{v:Value}(ht:c[t]?=some v):w.cell? ⟨g,i*size+t,none⟩=some v:=by
 have hl:t<size:=by rw [<- h.1];exact lt_of_at ht
 have hle:i*size+size<=n*size:=by have:=Nat.mul_le_mul_right size (show i+1<=n from hi);rw [Nat.add_mul,Nat.one_mul]at this;exact this
 rw [h.2.cellAt _ (by omega)];have hx:xs.length=n*size:=by rw [<- over_length xs (i*size) c];exact h.2.1
 have e1:=over_set xs (i*size) t c v (lt_of_at ht);have e2:c.set t v=c:=by obtain⟨hk,rfl⟩:=List.getElem?_eq_some_iff.1 ht;exact List.set_getElem_self hk
 rw [e2]at e1;rw [<- e1,List.getElem?_set,if_pos rfl,if_pos (by rw [over_length,hx];omega)]
theorem ElemAt.frozen {w:World}{e:TypeId}{size g n cap i:Nat}{xs c:List Value}(h:ElemAt w e size g n cap i xs c) (j:Nat):w.frozen? ⟨g,j,none⟩=false:=h.2.frozenAt j
theorem OS.elem {α:Type}{r:Rp α}{M:Nat}{e:TypeId}{w:World}{fp:List Nat}{A:Option Addr}{n cap:Nat}{l:List α}(h:OS M e r w fp A n cap l) (hr:r.Ok) (nd:fp.Nodup) {i:Nat}(hi:i<n) :
  ∃ g f c x xs,A=some ⟨g,0,none⟩/\Hid (l[i]?=some x)/\r.own w f c x/\f.Nodup/\g∉f/\g∈fp/\(∀ k∈f,k∈fp)/\ElemAt w e r.size g n cap i xs c /\
   Hid (∀ w' c' x',Chg (g::f) w w'->ElemAt w' e r.size g n cap i xs c'->r.own w' f c' x'->OS M e r w' fp A n cap (l.set i x')):=by
 obtain⟨css,fps,hown,rfl,h3⟩:=h.ex;rcases (ownsRow_form hown).2 with ⟨_,h0,_⟩|⟨g,rfl,hg,_⟩
 ·omega
 have hl:=h.len;have hx:l[i]?=some (l[i]'(by omega)):=List.getElem?_eq_getElem (by omega);obtain⟨f,c,hf,hc,ho⟩:=h3.get hx;have hcl:=h3.clen hr;have hlens:=h3.lens;have hgn:g∉fps.flatten:=fun hk=>by have:=(List.nodup_append.1 nd).2.2 g (by simp [blk]) g hk;exact this rfl
 have hnd:fps.flatten.Nodup:=(List.nodup_append.1 nd).2.1;have hsub:∀ k∈f,k∈fps.flatten:=fun k hk=>List.mem_flatten.2 ⟨f,mem_of_at hf,hk⟩;have hfi:i<fps.length:=lt_of_at hf;have hfe:fps[i]=f:=(List.getElem?_eq_some_iff.1 hf).2;have hsp:=flatten_split fps i hfi;rw [hfe]at hsp;have hnd2:=hnd;rw [hsp]at hnd2;have hfnd:f.Nodup:=(List.nodup_append.1 (List.nodup_append.1 hnd2).2.1).1;refine⟨g,f,c,_,css.flatten,rfl,hx,ho,hfnd,fun hk=>hgn (hsub g hk),by simp [blk],fun k hk=>List.mem_append_right _ (hsub k hk),⟨hcl c (mem_of_at hc),by rw [over_self hcl hc];exact hown⟩,?_⟩;intro w' c' x' hch hel hown';refine⟨by simp [hl],h.nb,css.set i c',fps,?_,rfl,?_⟩
 ·rw [<- flat_set hcl (by omega) hel.1];exact hel.2
 ·refine All3.mk (by simp;omega) (by simp;omega) fun j f2 c2 x2 a b d=>?_
  by_cases hji:j=i
  ·subst hji
   rw [hf]at a;injection a with a;subst a;rw [List.getElem?_set,if_pos rfl,if_pos (by omega)]at b d;injection b with b;injection d with d;subst b;subst d;exact hown'
  ·rw [List.getElem?_set,if_neg (fun e=>hji e.symm)]at b d
   obtain⟨f3,c3,p1,p2,p3⟩:=h3.get d;rw [a]at p1;injection p1 with p1;subst p1;rw [b]at p2;injection p2 with p2;subst p2;refine hr.ownC p3 hch fun k hk hk'=>?_;have hm:k∈fps.flatten:=List.mem_flatten.2 ⟨f2,mem_of_at a,hk⟩;rcases List.mem_cons.1 hk' with hk'|hk'
   ·subst hk';exact hgn hm
   ·-- k in f and in f2 = fps[j], j ≠ i
    have hd:=hnd2;simp only [List.nodup_append,List.mem_append]at hd;obtain⟨_,⟨_,_,d6⟩,d7⟩:=hd
    have:k∈(fps.take i).flatten\/k∈(fps.drop (i+1)).flatten:=by
     by_cases hlt:j<i
     ·exact .inl (List.mem_flatten.2 ⟨f2,mem_of_at (k:=j) (by rw [List.getElem?_take,if_pos hlt];exact a),hk⟩)
     ·exact .inr (List.mem_flatten.2 ⟨f2,mem_of_at (k:=j - (i+1)) (by rw [List.getElem?_drop];have:i+1+(j - (i+1))=j:=(by omega);rw [this];exact a),hk⟩)
    rcases this with h1|h1
    ·exact d7 k h1 k (.inl hk') rfl
    ·exact d6 k hk' k h1 rfl
def mkS {α:Type} (f:α->Int->α) (c:α->Nat):List α->Int->List α
 | [],_=>[]
 | x::l,k=>f x k::mkS f c l (k+c x)
def cntS {α:Type} (c:α->Nat) (l:List α):Nat:=(l.map c).sum
theorem mkS_length {α:Type}(f:α->Int->α) (c:α->Nat) (l:List α) (k:Int):(mkS f c l k).length=l.length:=by
 induction l generalizing k with
 | nil=>rfl
 | cons x l ih=>simp [mkS,ih]
theorem mkS_append {α:Type}(f:α->Int->α) (c:α->Nat) (l l':List α) (k:Int):mkS f c (l++l') k=mkS f c l k++mkS f c l' (k+cntS c l):=by
 induction l generalizing k with
 | nil=>simp [mkS,cntS]
 | cons x l ih=>simp only [List.cons_append,mkS,ih,cntS,List.map_cons,List.sum_cons];congr 2;congr 1;omega
theorem cntS_snoc {α:Type}(c:α->Nat) {l:List α}{j:Nat}{x:α}(h:l[j]?=some x):cntS c (l.take (j+1))=cntS c (l.take j)+c x:=by
 unfold cntS;rw [take_snoc h,List.map_append,List.sum_append];simp
theorem cntS_take_le {α:Type}(c:α->Nat) (l:List α) (j:Nat):cntS c (l.take j)<=cntS c l:=by
 have:l=l.take j++l.drop j:=(List.take_append_drop j l).symm
 conv=>rhs;rw [this]
 unfold cntS;rw [List.map_append,List.sum_append];omega
def mkP {α:Type} (f:α->Int->α) (c:α->Nat) (l:List α) (k:Int) (j:Nat):List α:=mkS f c (l.take j) k++l.drop j
theorem mkP_zero {α:Type}(f:α->Int->α) (c:α->Nat) (l:List α) (k:Int):mkP f c l k 0=l:=by simp [mkP,mkS]
theorem mkP_all {α:Type}(f:α->Int->α) (c:α->Nat) (l:List α) (k:Int) {j:Nat}(h:¬ j<l.length):mkP f c l k j=mkS f c l k:=by
 unfold mkP;rw [List.take_of_length_le (by omega),List.drop_of_length_le (by omega),List.append_nil]
theorem mkP_at {α:Type}(f:α->Int->α) (c:α->Nat) (l:List α) (k:Int) (j:Nat):(mkP f c l k j)[j]?=l[j]?:=by
 unfold mkP;by_cases hj:j<l.length
 ·rw [List.getElem?_append_right (by rw [mkS_length];simp;omega),mkS_length,List.getElem?_drop];congr 1;simp;omega
 ·rw [List.getElem?_eq_none (by simp [mkS_length];omega),List.getElem?_eq_none (by omega)]
theorem mkP_set {α:Type}(f:α->Int->α) (c:α->Nat) {l:List α}{j:Nat}{x:α}(k:Int) (h:l[j]?=some x):(mkP f c l k j).set j (f x (k+(cntS c (l.take j):Nat)))=mkP f c l k (j+1):=by
 have hj:=lt_of_at h;unfold mkP;rw [take_snoc h,mkS_append,List.set_append_right _ _ (by rw [mkS_length];simp;omega),mkS_length];have e1:j - (l.take j).length=0:=by simp;omega
 rw [e1,drop_at' h,List.set_cons_zero,List.append_assoc];rfl
where
 drop_at' {α:Type} {l:List α} {k:Nat} {x:α} (h:l[k]?=some x):l.drop k=x::l.drop (k+1):=by
  obtain⟨hk,rfl⟩:=List.getElem?_eq_some_iff.1 h;exact List.drop_eq_getElem_cons hk
theorem mkS_at {α:Type}(f:α->Int->α) (c:α->Nat) {l:List α}{j:Nat}{x:α}(k:Int) (h:l[j]?=some x):(mkS f c l k)[j]?=some (f x (k+(cntS c (l.take j):Nat))):=by
 induction l generalizing j k with
 | nil=>simp at h
 | cons a l ih=>cases j with
  | zero=>simp at h;subst h;simp [mkS,cntS]
  | succ j =>
   simp only [mkS,List.getElem?_cons_succ];rw [ih _ (by simpa using h)];simp only [cntS,List.take_succ_cons,List.map_cons,List.sum_cons];congr 2;omega
def mk_IntS (l:List Int) (k:Int):List Int:=upFrom k l.length
def cnt_IntS (l:List Int):Nat:=l.length
theorem markIntS_m (A:Option Addr) (n cap:Nat) (l:List Int) (k:Int) (w:World) (fp:List Nat) (h:OS NB 3 rInt w fp A n cap l) (nd:fp.Nodup) (h0:0<=k) (h1:k+(cnt_IntS l:Nat)<=4611686018427387904) :
  Calls Tryz.prog 77 #[.slice A n cap,.int .i64 k] w fun e w'=>e=.returned (.int .i64 (k+(cnt_IntS l:Nat)))/\OS NB 3 rInt w' fp A n cap (mk_IntS l k)/\Chg fp w w':=by
 have hfp:=(osInt.1 h).1;have hlen:=h.len;refine(markIntS_c 0 A n cap l k w ⟨fp,h,nd,fun _ _=>Nat.zero_le _⟩ h0 (by omega)).mono ?_;rintro e w' ⟨rfl,⟨fp',hO,_⟩,hg,hsz⟩;have hfp':=(osInt.1 hO).1;refine⟨by rw [cnt_IntS,hlen],?_,⟨hg.os,hg.tape,hg.output,hg.size,fun k hk hn=>hg.block k hk fun e=>hn ?_⟩⟩
 ·rw [hfp,<- hfp',mk_IntS,hlen];exact hO
 ·rw [hfp];exact mem_blk.2 e.symm
theorem heldIntS_m (A:Option Addr) (n cap:Nat) (l:List Int) (k:Int) (w:World) (hr:RS NB rInt w A n cap (mk_IntS l k)) (h0:0<=k) (h1:k+(cnt_IntS l:Nat)<=4611686018427387904) :
  Calls Tryz.prog 80 #[.slice A n cap,.int .i64 k] w fun e w'=>e=.returned (.int .i64 (k+(cnt_IntS l:Nat)))/\Below w.heap.size w w':=by
 have hlen:l.length=n:=by have:=hr.len;rwa [mk_IntS,upFrom_length]at this
 rw [mk_IntS,hlen]at hr;refine(heldIntS_c A n cap k w hr h0 (by omega)).mono ?_;rintro e w' ⟨rfl,rfl⟩;exact⟨by rw [cnt_IntS,hlen],Below.refl _ _⟩
end Go.Proofs.YtnlcfkpcmfljeaaGreat
