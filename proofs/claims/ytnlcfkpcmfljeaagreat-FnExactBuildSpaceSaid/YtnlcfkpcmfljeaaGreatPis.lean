/-
  Pis
-/
import Derived.Test.YtnlcfkpcmfljeaaGreatKeep
import Derived.Test.YtnlcfkpcmfljeaaGreatQs
import Derived.Test.YtnlcfkpcmfljeaaGreatEqLib
namespace Go.Proofs.YtnlcfkpcmfljeaaGreat
open Go.RowKit
set_option linter.unusedVariables false
set_option linter.unusedSimpArgs false
def Rp.NoFp {α:Type} (r:Rp α):Prop:=∀ {w:World} {f:List Nat} {cs:List Value} {x:α},r.own w f cs x->f=[]
theorem rInt_nofp:rInt.NoFp:=fun h=>h.1
theorem rStepInfo_nofp (M:Nat):(rStepInfo M).NoFp:=fun h=>(rStepInfo_own.1 h).2.1
theorem OS.fpA {α:Type}{r:Rp α}{M:Nat}{e:TypeId}{w:World}{fp:List Nat}{A:Option Addr}{n cap:Nat}{l:List α}(hF:r.NoFp) (h:OS M e r w fp A n cap l):fp=blk A:=by
 obtain⟨css,fps,h1,rfl,h3⟩:=h.ex
 have:fps.flatten=[]:=by
  rw [List.flatten_eq_nil_iff]
  intro f hf
  obtain⟨i,hi,rfl⟩:=List.getElem_of_mem hf
  obtain⟨f',c,g1,_,g3⟩:=h3.get (List.getElem?_eq_getElem (l:=l) (i:=i) (by rw [<- h3.lens.1];exact hi))
  rw [List.getElem?_eq_getElem hi]at g1;injection g1 with g1
  rw [g1];exact hF g3
 rw [this,List.append_nil]
theorem MS.keepA {α:Type}{r:Rp α}{B M:Nat}{e:TypeId}{w w':World}{A:Option Addr}{n cap:Nat}{l:List α}(hr:r.Ok) (hF:r.NoFp) (h:MS B M e r w A n cap l) (hk:∀ k∈blk A,w'.heap[k]?=w.heap[k]?):MS B M e r w' A n cap l:=by
 obtain⟨fp,o,f⟩:=h
 have e:=o.fpA hF
 subst e
 exact⟨_,o.okeep hr hk,f⟩
theorem MS.blkB {α:Type}{r:Rp α}{B M:Nat}{e:TypeId}{w:World}{A:Option Addr}{n cap:Nat}{l:List α}(hr:r.Ok) (h:MS B M e r w A n cap l):∀ k∈blk A,B<=k/\k<w.heap.size:=by
 obtain⟨fp,o,f⟩:=h
 obtain⟨css,fps,h1,rfl,h3⟩:=o.ex
 intro k hk
 exact⟨f.ge k (List.mem_append_left _ hk),o.lt hr k (List.mem_append_left _ hk)⟩
theorem MS.keepG {α:Type}{r:Rp α}{B M:Nat}{e:TypeId}{w w':World}{A AX:Option Addr}{n cap:Nat}{l:List α}(hr:r.Ok) (hF:r.NoFp) (h:MS B M e r w A n cap l) (hg:w.grownBy w' (AX.map (·.block))) (hd:∀ z∈blk AX,z∉blk A):MS B M e r w' A n cap l :=
 h.keepA hr hF fun k hk=>hg.block k (h.blkB hr k hk).2 fun e=>hd k (mem_blk.2 e.symm) hk
theorem MS.takeI {B M:Nat}{e:TypeId}{w:World}{A:Option Addr}{n cap:Nat}{l:List Int}(h:MS B M e rInt w A n cap l) {k:Nat}(hk:k<=n):MS B M e rInt w A k cap (l.take k):=by
 obtain⟨fp,o,f⟩:=h
 have hl:=o.len
 obtain⟨rfl,h2,h3,h4⟩:=osInt.1 o
 refine⟨_,osInt.2 ⟨rfl,by omega,⟨by simp;omega,?_⟩,fun x hx=>h4 x (List.mem_of_mem_take hx)⟩,f⟩
 rcases h3.2 with ⟨h5,h6⟩|⟨g,c,cur,h5,h6,h7,h8,h9,h10,h11⟩
 ·left
  injection h5 with a b c
  exact⟨by rw [a,c,show k=0 by omega],by omega⟩
 ·right
  injection h5 with a b c
  subst a
  subst c
  refine⟨g,cap,cur,rfl,h6,h7,by omega,h9,h10,?_⟩
  rw [List.map_take,<- h11,List.take_take,Nat.mul_one,Nat.mul_one,Nat.min_eq_left hk]
theorem eiStepInfo:Ei Tryz.prog 237 243 (.agg #[.int .i64 0,.int .i64 0,.int .i64 0,.int .i64 0]) (rStepInfo NB).size 32:=⟨by kernel_rfl,by kernel_rfl,rfl⟩
theorem disj_app {A A' B:Option Addr}{g:Nat}(hd:∀ z∈blk A,z∉blk B) (hA:A'.map (·.block)=A.map (·.block)\/A'.map (·.block)=some g) (hB:∀ z∈blk B,z<g):∀ z∈blk A',z∉blk B:=by
 intro z hz hz2
 rcases hA with e|e
 ·exact hd z (mem_blk.2 (e▸mem_blk.1 hz)) hz2
 ·have:=mem_blk.1 hz;rw [e]at this;injection this with this;have:=hB z hz2;omega
theorem planStep_no {q:QueryD}{p:List PlanStepD}{k:Nat}{x:PlanStepD}{l:List StepInfoD}{st:List Int}(hx:p[k]?=some x) (hr:planRun q (p.take k)=some (l,st)) (hs:stepInfo q x l st=none):planRun q p=none :=
 planRun_none (k:=k+1) (by rw [planRun_snoc hx,hr];simp only [planStep,hs])
theorem planStep_yes {q:QueryD}{p:List PlanStepD}{k:Nat}{x:PlanStepD}{l:List StepInfoD}{st:List Int}{y:StepInfoD}{j:Nat}(hx:p[k]?=some x) (hr:planRun q (p.take k)=some (l,st)) (hs:stepInfo q x l st=some (y,j)):planRun q (p.take (k+1))=some (l++[y],st.take (st.length - j)++[(l.length:Int)]):=by
 rw [planRun_snoc hx,hr];simp only [planStep,hs]
theorem planInfo_inv {q:QueryD}{p:PlanD}(h:validQ q=false):planInfo q p=none:=by simp [planInfo,h]
theorem planInfo_len {q:QueryD}{p:PlanD}(h:inR (p.fSteps.length:Int) 1 14=false):planInfo q p=none:=by simp [planInfo,h]
theorem planInfo_none {q:QueryD}{p:PlanD}(h:planRun q p.fSteps=none):planInfo q p=none:=by
 unfold planInfo;split
 ·rw [h]
 ·rfl
theorem planInfo_end {q:QueryD}{p:PlanD}{l:List StepInfoD}{st:List Int}(h1:validQ q=true) (h2:inR (p.fSteps.length:Int) 1 14=true) (h:planRun q p.fSteps=some (l,st)):planInfo q p=if st.length=1 then some l else none:=by
 unfold planInfo;rw [h1,h2,h];rfl
end Go.Proofs.YtnlcfkpcmfljeaaGreat
