/-
  Upd
-/
import Derived.Test.YtnlcfkpcmfljeaaGreatKeep
set_option linter.unusedSimpArgs false
set_option linter.unusedVariables false
namespace Go.Proofs.YtnlcfkpcmfljeaaGreat
open Go.RowKit
def NoT (t:TypeId) (w:World) (fp:List Nat):Prop:=∀ k∈fp,∀ cs fr,w.heap[k]?≠some (.cells cs t fr)
def Rp.NT {α:Type} (r:Rp α) (t:TypeId):Prop:=∀ {w fp cs x},r.own w fp cs x->NoT t w fp
theorem rInt_nt {t:TypeId}:rInt.NT t:=fun h k hk=>by rw [h.1]at hk;cases hk
theorem rPair_nt {α β:Type}{r:Rp α}{q:Rp β}{t:TypeId}(hr:r.NT t) (hq:q.NT t):(rPair r q).NT t:=fun h k hk=>by
 obtain⟨f1,f2,c1,c2,rfl,rfl,h1,h2⟩:=h;rcases List.mem_append.1 hk with hk|hk
 ·exact hr h1 k hk
 ·exact hq h2 k hk
theorem rIso_nt {α β:Type}{r:Rp α}{t:TypeId}(hr:r.NT t) (f:β->α):(rIso r f).NT t:=fun h=>hr h
theorem OS.nt {α:Type}{r:Rp α}{M:Nat}{e t:TypeId}{w:World}{fp:List Nat}{A:Option Addr}{n cap:Nat}{l:List α}(h:OS M e r w fp A n cap l) (hr:r.NT t) (he:e≠t):NoT t w fp:=by
 obtain⟨css,fps,h3,rfl,h4⟩:=h.ex;intro k hk cs fr hc;rcases List.mem_append.1 hk with hk|hk
 ·rcases h3.2 with ⟨h1,_⟩|⟨g,c,cur,h1,_,hg,_⟩
  ·injection h1 with h1;subst h1;cases hk
  ·injection h1 with h1;subst h1
   simp [blk]at hk;subst hk;rw [hc]at hg;injection hg with hg;injection hg with _ hg;exact he hg.symm
 ·obtain⟨f,hf,hk⟩:=List.mem_flatten.1 hk
  obtain⟨i,hi,rfl⟩:=List.getElem_of_mem hf;have hx:l[i]?=some (l[i]'(by rw [<- h4.lens.1];exact hi)):=List.getElem?_eq_getElem _;obtain⟨f',c,g1,g2,g3⟩:=h4.get hx;rw [List.getElem?_eq_getElem hi]at g1;injection g1 with g1;exact hr g3 k (g1▸hk) cs fr hc
theorem rSlice_nt {α:Type}{r:Rp α}{M:Nat}{e t:TypeId}(hr:r.NT t) (he:e≠t):(rSlice M e r).NT t:=fun h=>by
 obtain⟨A,n,cap,rfl,h⟩:=h;exact h.nt hr he
theorem NoT.ne {t:TypeId}{w:World}{fp:List Nat}(h:NoT t w fp) {g:Nat}{cs:List Value}(hk:Bk w g t cs):g∉fp:=fun hg=>h g hg _ _ hk
theorem Bk.grw {w w':World}{g:Nat}{t:TypeId}{cs:List Value}{A:Option Addr}(h:Bk w g t cs) (hg:w.grownBy w' (A.map (·.block))) (hn:g∉blk A):Bk w' g t cs :=
 (hg.block g h.lt (fun e=>hn (mem_blk.2 e.symm))).trans h
theorem RS.drop {α:Type}{r:Rp α}{M:Nat}{w:World}{b off n cap:Nat}{l:List α}(h:RS M r w (some ⟨b,off,none⟩) n cap l) {k:Nat}(hk:k<=n):RS M r w (some ⟨b,off+k*r.size,none⟩) (n - k) (cap - k) (l.drop k) :=
 ⟨by rw [List.length_drop,h.len],by have:=h.nb;omega,by have:=h.nc;omega,fun h0=>by
  obtain⟨b',off',e,hc⟩:=h.cell (by omega);injection e with e;injection e with e1 e2;subst e1;subst e2;refine⟨b,off+k*r.size,rfl,fun j x hj=>?_⟩;rw [List.getElem?_drop]at hj;obtain⟨cs,h1,h2⟩:=hc _ x hj;refine⟨cs,h1,fun i v hi=>?_⟩;have:=h2 i v hi;rw [Nat.add_mul,<- Nat.add_assoc]at this;exact this⟩
end Go.Proofs.YtnlcfkpcmfljeaaGreat
