/-
  Upd
-/
import Derived.Test.YtnlcfkpcmfljeaaGreatKeep
set_option linter.unusedSimpArgs false
set_option linter.unusedVariables false
namespace Go.Proofs.YtnlcfkpcmfljeaaGreat
open Go.RowKit
theorem flat_set1 {α:Type}{css:List (List α)}{size:Nat}(h:∀ c∈css,c.length=size) {i j:Nat}{c:List α}(hi:css[i]?=some c) (hj:j<size) (v:α) :
  css.flatten.set (i*size+j) v=(css.set i (c.set j v)).flatten:=by
 induction css generalizing i with
 | nil=>simp at hi
 | cons d ds ih =>
  have hd:d.length=size:=h d List.mem_cons_self;cases i with
  | zero =>
   simp at hi;subst hi;rw [List.flatten_cons,Nat.zero_mul,Nat.zero_add,List.set_append_left _ _ (by omega)];rfl
  | succ i =>
   simp at hi;have e:(i+1)*size+j - d.length=i*size+j:=by rw [hd,Nat.add_mul];omega
   rw [List.flatten_cons,List.set_append_right _ _ (by rw [hd,Nat.add_mul];omega),e,ih (fun x hx=>h x (List.mem_cons_of_mem _ hx)) hi];rfl
section
variable {α:Type} {r:Rp α} {B M:Nat} {e:TypeId} {w:World} {fp:List Nat} {b n cap:Nat} {l:List α}
theorem OS.setH (hr:r.Ok) (h:OS M e r w fp (some ⟨b,0,none⟩) n cap l) (fr:Fr B fp) {k:Nat}{x x':α}(hx:l[k]?=some x) {j:Nat}(hj:j<r.size) (v:Value)
  (hown:∀ W f c,r.own W f c x->r.own W f (c.set j v) x'\/r.own W [] (c.set j v) x') :
  ∃ fp',OS M e r (w.setCell ⟨b,k*r.size+j,none⟩ v) fp' (some ⟨b,0,none⟩) n cap (l.set k x')/\Fr B fp'/\∀ z∈fp',z∈fp:=by
 obtain⟨css,fps,h3,rfl,h4⟩:=h.ex;obtain⟨f,c,hf,hc,ho⟩:=h4.get hx;have hclen:=h4.clen hr;have hgn:∀ z∈fps.flatten,z≠b:=fun z hz e=>fr.disj b (by simp [blk]) (e▸hz);have hoth:∀ z,z≠b->(w.setCell ⟨b,k*r.size+j,none⟩ v).heap[z]?=w.heap[z]?:=fun z hz=>heap_setCell_other w ⟨b,k*r.size+j,none⟩ z v (fun e=>hz e);have hkf:k<fps.length:=lt_of_at hf
 have hrow:(w.setCell ⟨b,k*r.size+j,none⟩ v).ownsRow 0 e r.size (.slice (some ⟨b,0,none⟩) n cap) n (css.set k (c.set j v)).flatten:=by
  rw [<- flat_set1 hclen hc hj];exact(h3.stored _ v).1
 have hall:All3 (r.own (w.setCell ⟨b,k*r.size+j,none⟩ v)) fps css l:=h4.mono fun f' c' y hf' ho'=>hr.okeep ho' fun z hz=>hoth z (hgn z (List.mem_flatten.2 ⟨f',hf',hz⟩));have ho2:=hr.okeep ho fun z hz=>hoth z (hgn z (List.mem_flatten.2 ⟨f,mem_of_at hf,hz⟩))
 have hfk:fps.set k f=fps:=by
  obtain⟨h1,rfl⟩:=List.getElem?_eq_some_iff.1 hf;exact List.set_getElem_self _
 rcases hown _ _ _ ho2 with o|o
 ·exact⟨_,⟨by simp [h.len],h.nb,css.set k (c.set j v),fps,hrow,rfl,by rw [<- hfk];exact All3.set hall o k⟩,fr,fun z hz=>hz⟩
 ·refine⟨_,⟨by simp [h.len],h.nb,css.set k (c.set j v),fps.set k [],hrow,rfl,All3.set hall o k⟩,Fr.set hkf fr (by simp) (by simp) (by simp),fun z hz=>?_⟩
  rcases List.mem_append.1 hz with hz|hz
  ·exact List.mem_append_left _ hz
  ·obtain⟨f',hf',hz⟩:=List.mem_flatten.1 hz
   rcases List.mem_or_eq_of_mem_set hf' with hf'|rfl
   ·exact List.mem_append_right _ (List.mem_flatten.2 ⟨f',hf',hz⟩)
   ·cases hz
theorem OS.openE (hr:r.Ok) (h:OS M e r w fp (some ⟨b,0,none⟩) n cap l) (fr:Fr B fp) {k:Nat}(hk:k<n) :
  ∃ f c x,l[k]?=some x/\r.own w f c x/\(∀ z∈f,z∈fp/\z≠b)/\(∀ j v,c[j]?=some v->w.cell? ⟨b,k*r.size+j,none⟩=some v) /\
   ∀ w' x',(∀ z∈fp,z∉f->w'.heap[z]?=w.heap[z]?)->r.own w' f c x'->OS M e r w' fp (some ⟨b,0,none⟩) n cap (l.set k x'):=by
 obtain⟨css,fps,h3,rfl,h4⟩:=h.ex;have hx:l[k]?=some (l[k]'(by rw [h.len];exact hk)):=List.getElem?_eq_getElem _;obtain⟨f,c,hf,hc,ho⟩:=h4.get hx;have hclen:=h4.clen hr;have hgn:∀ z∈fps.flatten,z≠b:=fun z hz e=>fr.disj b (by simp [blk]) (e▸hz);refine⟨f,c,_,hx,ho,fun z hz=>⟨List.mem_append_right _ (List.mem_flatten.2 ⟨f,mem_of_at hf,hz⟩),hgn z (List.mem_flatten.2 ⟨f,mem_of_at hf,hz⟩)⟩,fun j v hj=>?_,fun w' x' hk' ho'=>?_⟩
 ·have hg:=flat_get hclen hc hj
  have hlt:k*r.size+j<n*r.size:=by rw [<- h3.1];exact lt_of_at hg
  rw [h3.cellAt _ hlt];exact hg
 ·have hfk:fps.set k f=fps:=by
   obtain⟨h1,rfl⟩:=List.getElem?_eq_some_iff.1 hf;exact List.set_getElem_self _
  have hck:css.set k c=css:=by
   obtain⟨h1,rfl⟩:=List.getElem?_eq_some_iff.1 hc;exact List.set_getElem_self _
  have hbf:b∉f:=fun hb=>hgn b (List.mem_flatten.2 ⟨f,mem_of_at hf,hb⟩) rfl;refine⟨by simp [h.len],h.nb,css,fps,ownsRow_blocks h3 (fun z hz=>?_),rfl,?_⟩
  ·simp [blk]at hz;subst hz;exact hk' z (by simp [blk]) hbf
  ·refine All3.mk' (by simp [h4.lens.1]) (by simp [h4.lens.2]) fun i f1 c1 x1 e1 e2 e3=>?_
   by_cases hi:i=k
   ·subst hi
    rw [hf]at e1;injection e1 with e1;subst e1;rw [hc]at e2;injection e2 with e2;subst e2;rw [List.getElem?_set_self (by rw [h.len];exact hk)]at e3;injection e3 with e3;subst e3;exact ho'
   ·rw [List.getElem?_set_ne (Ne.symm hi)]at e3
    obtain⟨f2,c2,g1,g2,g3⟩:=h4.get e3;rw [g1]at e1;injection e1 with e1;subst e1;rw [g2]at e2;injection e2 with e2;subst e2;refine hr.okeep g3 fun z hz=>hk' z (List.mem_append_right _ (List.mem_flatten.2 ⟨f2,mem_of_at g1,hz⟩)) fun hzf=>?_;have hnd:=fr.right.nd;rw [List.nodup_iff_pairwise_ne,List.pairwise_flatten]at hnd;have hd:=List.pairwise_iff_getElem.1 hnd.2;obtain⟨p1,q1⟩:=List.getElem?_eq_some_iff.1 g1;obtain⟨p2,q2⟩:=List.getElem?_eq_some_iff.1 hf;rcases Nat.lt_or_ge i k with hlt|hge
    ·exact hd i k p1 p2 hlt z (by rw [q1];exact hz) z (by rw [q2];exact hzf) rfl
    ·exact hd k i p2 p1 (by omega) z (by rw [q2];exact hzf) z (by rw [q1];exact hz) rfl
end
def NoT (t:TypeId) (w:World) (fp:List Nat):Prop:=∀ k∈fp,∀ cs fr,w.heap[k]?≠some (.cells cs t fr)
def Rp.NT {α:Type} (r:Rp α) (t:TypeId):Prop:=∀ {w fp cs x},r.own w fp cs x->NoT t w fp
theorem rInt_nt {t:TypeId}:rInt.NT t:=fun h k hk=>by rw [h.1]at hk;cases hk
theorem rStr_nt {M:Nat}{t:TypeId}:(rStr M).NT t:=fun h k hk=>by rw [h.1]at hk;cases hk
theorem rPair_nt {α β:Type}{r:Rp α}{q:Rp β}{t:TypeId}(hr:r.NT t) (hq:q.NT t):(rPair r q).NT t:=fun h k hk=>by
 obtain⟨f1,f2,c1,c2,rfl,rfl,h1,h2⟩:=h;rcases List.mem_append.1 hk with hk|hk
 ·exact hr h1 k hk
 ·exact hq h2 k hk
theorem rIso_nt {α β:Type}{r:Rp α}{t:TypeId}(hr:r.NT t) (f:β->α):(rIso r f).NT t:=fun h=>hr h
theorem OS.nt {α:Type}{r:Rp α}{M:Nat}{e t:TypeId}{w:World}{fp:List Nat}{A:Option Addr}{n cap:Nat}{l:List α}(h:OS M e r w fp A n cap l) (hr:r.NT t) (he:e≠t):NoT t w fp:=by
 obtain⟨css,fps,h3,rfl,h4⟩:=h.ex;intro k hk cs fr hc;rcases List.mem_append.1 hk with hk|hk
 ·rcases h3.2 with ⟨h1,_⟩|⟨g,c,cur,h1,_,hg,_⟩
  ·injection h1 with h1;subst h1;cases hk
  ·injection h1 with h1;subst h1
   simp [blk]at hk;subst hk;rw [hc]at hg;injection hg with hg;injection hg with _ hg;exact he hg.symm
 ·obtain⟨f,hf,hk⟩:=List.mem_flatten.1 hk
  obtain⟨i,hi,rfl⟩:=List.getElem_of_mem hf;have hx:l[i]?=some (l[i]'(by rw [<- h4.lens.1];exact hi)):=List.getElem?_eq_getElem _;obtain⟨f',c,g1,g2,g3⟩:=h4.get hx;rw [List.getElem?_eq_getElem hi]at g1;injection g1 with g1;exact hr g3 k (g1▸hk) cs fr hc
theorem rSlice_nt {α:Type}{r:Rp α}{M:Nat}{e t:TypeId}(hr:r.NT t) (he:e≠t):(rSlice M e r).NT t:=fun h=>by
 obtain⟨A,n,cap,rfl,h⟩:=h;exact h.nt hr he
theorem NoT.ne {t:TypeId}{w:World}{fp:List Nat}(h:NoT t w fp) {g:Nat}{cs:List Value}(hk:Bk w g t cs):g∉fp:=fun hg=>h g hg _ _ hk
theorem Bk.grw {w w':World}{g:Nat}{t:TypeId}{cs:List Value}{A:Option Addr}(h:Bk w g t cs) (hg:w.grownBy w' (A.map (·.block))) (hn:g∉blk A):Bk w' g t cs :=
 (hg.block g h.lt (fun e=>hn (mem_blk.2 e.symm))).trans h
theorem RS.drop {α:Type}{r:Rp α}{M:Nat}{w:World}{b off n cap:Nat}{l:List α}(h:RS M r w (some ⟨b,off,none⟩) n cap l) {k:Nat}(hk:k<=n):RS M r w (some ⟨b,off+k*r.size,none⟩) (n - k) (cap - k) (l.drop k) :=
 ⟨by rw [List.length_drop,h.len],by have:=h.nb;omega,by have:=h.nc;omega,fun h0=>by
  obtain⟨b',off',e,hc⟩:=h.cell (by omega);injection e with e;injection e with e1 e2;subst e1;subst e2;refine⟨b,off+k*r.size,rfl,fun j x hj=>?_⟩;rw [List.getElem?_drop]at hj;obtain⟨cs,h1,h2⟩:=hc _ x hj;refine⟨cs,h1,fun i v hi=>?_⟩;have:=h2 i v hi;rw [Nat.add_mul,<- Nat.add_assoc]at this;exact this⟩
end Go.Proofs.YtnlcfkpcmfljeaaGreat
