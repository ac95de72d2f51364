/-
  Rws
-/
import Derived.Test.YtadgmjdafkihfaaGreatEqLib
import Derived.Lib.SlKept
import Derived.Test.YtadgmjdafkihfaaGreatDb
import Derived.Test.YtadgmjdafkihfaaGreatCpr
import Derived.Test.YtadgmjdafkihfaaGreatDrw
import Derived.Test.YtadgmjdafkihfaaGreatMid
namespace Go.Proofs.YtadgmjdafkihfaaGreat
open Go.RowKit
set_option linter.unusedVariables false
set_option linter.unusedSimpArgs false
theorem cmpR_lt:∀ {a b:List Int},cmpRows a b<0↔a<b
 | [],[]=>by simp [cmpRows]
 | [],_::_=>by simp [cmpRows]
 | _::_,[]=>by simp [cmpRows]
 | x::s,y::t=>by
  rw [List.cons_lt_cons_iff,<- cmpR_lt (a:=s) (b:=t)]
  simp only [cmpRows]
  split
  ·rename_i h;simp [h]
  ·split
   ·rename_i h1 h2;constructor
    ·intro h;omega
    ·rintro(h|⟨h,_⟩)<;>omega
   ·have:x=y:=by omega
    subst this;simp
def ltRows (a b:List Int):Bool:=decide (cmpRows a b<0)
theorem ltRows_iff {a b:List Int}:ltRows a b=true↔a<b:=by unfold ltRows;rw [decide_eq_true_eq];exact cmpR_lt
theorem ltRows_no {a b:List Int}:ltRows a b=false↔b<=a:=by
 rw [<- List.not_lt,<- ltRows_iff,Bool.not_eq_true]
/-- the rows in order -/
def sortR (l:List (List Int)):List (List Int):=l.mergeSort fun a b=>!ltRows b a
theorem sortR_perm (l:List (List Int)):(sortR l).Perm l:=List.mergeSort_perm _ _
theorem sortR_pw (l:List (List Int)):(sortR l).Pairwise (·<=·):=by
 have h:=List.pairwise_mergeSort (le:=fun a b=>!ltRows b a) (fun a b c h1 h2=>by simp only [Bool.not_eq_true',ltRows_no]at *;exact List.le_trans h1 h2) (fun a b=>by
  simp only [Bool.or_eq_true,Bool.not_eq_true',ltRows_no];exact List.le_total _ _) l
 exact h.imp (fun h=>by simpa only [Bool.not_eq_true',ltRows_no]using h)
theorem sortR_eq {l m:List (List Int)}(hp:m.Perm l) (hs:m.Pairwise (·<=·)):m=sortR l :=
 List.Perm.eq_of_pairwise (le:=fun a b=>a<=b) (fun a b _ _ h1 h2=>List.le_antisymm h1 h2) hs (sortR_pw l) (hp.trans (sortR_perm l).symm)
/-- each run once -/
def onceK {α β:Type} [DecidableEq β] (k:α->β) (l:List α) (j:Nat):Bool:=match j with|0=>true|i+1=>decide ((l[i+1]?).map k≠(l[i]?).map k)
def onceR (l:List (List Int)):List (List Int):=(List.range l.length).filterMap fun j=>if onceK id l j then l[j]? else none
/-- rows in order, each once -/
def setR (l:List (List Int)):List (List Int):=onceR (sortR l)
end Go.Proofs.YtadgmjdafkihfaaGreat
namespace Go.Proofs.YtadgmjdafkihfaaGreat
open Go.RowKit
set_option linter.unusedVariables false
set_option linter.unusedSimpArgs false
theorem ltR_of {a b:List Int}(h:a<=b) (hn:a≠b):a<b:=Classical.byContradiction fun h1=>hn (List.le_antisymm h (List.not_lt.1 h1))
theorem leR_lt {a b c:List Int}(h:a<=b) (h2:b<c):a<c:=Classical.byContradiction fun h1=>(List.not_lt.2 (List.le_trans (List.not_lt.1 h1) h)) h2
theorem ltR_ne {a b:List Int}(h:a<b):a≠b:=fun e=>by subst e;exact List.lt_irrefl _ h
theorem onceR_mem {l:List (List Int)}{x:List Int}:x∈onceR l↔x∈l:=by
 unfold onceR
 rw [List.mem_filterMap]
 constructor
 ·rintro⟨j,_,h⟩
  split at h
  ·exact List.mem_of_getElem? h
  ·cases h
 ·intro h
  obtain⟨j,hj⟩:=List.getElem?_of_mem h
  induction j with
  | zero=>exact⟨0,List.mem_range.2 (lt_of_at hj),by rw [if_pos (show onceK id l 0=true from rfl)];exact hj⟩
  | succ i ih =>
   by_cases hk:onceK id l (i+1)=true
   ·exact⟨i+1,List.mem_range.2 (lt_of_at hj),by rw [if_pos hk];exact hj⟩
   ·apply ih
    have hi:i<l.length:=by have:=lt_of_at hj;omega
    unfold onceK at hk
    simp only [Option.map_id,id_eq,decide_eq_true_eq]at hk
    rw [<- Classical.not_not.1 hk];exact hj
theorem onceR_pw {l:List (List Int)}(h:l.Pairwise (·<=·)):(onceR l).Pairwise (·<·):=by
 unfold onceR
 rw [List.pairwise_filterMap]
 refine(List.pairwise_lt_range (n:=l.length)).imp ?_
 intro i j hij a ha b hb
 split at ha
 ·split at hb
  ·rename_i h1 h2
   obtain⟨k,rfl⟩:∃ k,j=k+1:=⟨j - 1,by omega⟩
   obtain⟨hj,rfl⟩:=List.getElem?_eq_some_iff.1 hb
   obtain⟨hi,rfl⟩:=List.getElem?_eq_some_iff.1 ha
   have hk:k<l.length:=by omega
   have h3:l[k]<=l[k+1]:=List.pairwise_iff_getElem.1 h k (k+1) hk hj (by omega)
   have h4:l[i]<=l[k]:=by
    rcases Nat.lt_or_ge i k with h5|h5
    ·exact List.pairwise_iff_getElem.1 h i k hi hk h5
    ·obtain rfl:i=k:=by omega
     exact List.le_refl _
   refine leR_lt h4 (ltR_of h3 fun e=>?_)
   unfold onceK at h2
   simp only [Option.map_id,id_eq,decide_eq_true_eq,List.getElem?_eq_getElem hj,List.getElem?_eq_getElem hk]at h2
   exact h2 (by rw [e])
  ·cases hb
 ·cases ha
theorem setR_pw (l:List (List Int)):(setR l).Pairwise (·<·):=onceR_pw (sortR_pw l)
theorem setR_mem {l:List (List Int)}{x:List Int}:x∈setR l↔x∈l:=by unfold setR;rw [onceR_mem];exact(sortR_perm l).mem_iff
theorem setR_alone {l m:List (List Int)}(hp:m.Pairwise (·<·)) (hm:∀ x,x∈m↔x∈l):m=setR l:=by
 have n1:m.Nodup:=hp.imp (fun h=>ltR_ne h)
 have n2:(setR l).Nodup:=(setR_pw l).imp (fun h=>ltR_ne h)
 refine List.Perm.eq_of_pairwise (le:=fun a b=>a<=b) (fun a b _ _ h1 h2=>List.le_antisymm h1 h2) (hp.imp (fun h=>List.le_of_lt h)) ((setR_pw l).imp (fun h=>List.le_of_lt h)) ?_
 exact(List.perm_ext_iff_of_nodup n1 n2).2 fun x=>by rw [hm,setR_mem]
theorem setR_len (l:List (List Int)):(setR l).length<=l.length:=by
 unfold setR onceR
 refine Nat.le_trans (List.length_filterMap_le _ _) ?_
 rw [List.length_range,(sortR_perm l).length_eq];exact Nat.le_refl _
/-- what l4Put has still to hand back -/
def putGo (row:List Int):List (List Int)->Bool->List (List Int)
 | [],put=>if put then [] else [row]
 | r::rs,put =>
  let p:=put||decide (cmpRows r row=0)
  if decide (0<cmpRows r row)&&!p then row::r::putGo row rs true else r::putGo row rs p
theorem putGo_true (row:List Int):∀ rs:List (List Int),putGo row rs true=rs
 | []=>rfl
 | r::rs=>by unfold putGo;simp [putGo_true row rs]
theorem cmpR_eq {a b:List Int}:cmpRows a b=0↔a=b:=cmpRows_zero
theorem putGo_ok (row:List Int):∀ rs:List (List Int),rs.Pairwise (·<·)->(putGo row rs false).Pairwise (·<·)/\∀ x,x∈putGo row rs false↔x∈rs\/x=row
 | [],_=>⟨by simp [putGo],fun x=>by simp [putGo]⟩
 | r::rs,h=>by
  obtain⟨h1,h2⟩:=List.pairwise_cons.1 h
  obtain⟨i1,i2⟩:=putGo_ok row rs h2
  unfold putGo
  by_cases e0:cmpRows r row=0
  ·have er:=cmpR_eq.1 e0
   subst er
   simp only [e0,Bool.false_or,decide_true,Bool.not_true,Bool.and_false,Bool.false_eq_true,if_false,putGo_true]
   exact⟨h,fun x=>by simp;intro hx;exact .inl hx⟩
  ·by_cases e1:0<cmpRows r row
   ·have hlt:row<r:=ltR_of (List.not_lt.1 fun h=>by have:=cmpR_lt.2 h;omega) fun e=>e0 (cmpR_eq.2 e.symm)
    simp only [e0,e1,Bool.false_or,decide_true,decide_false,Bool.not_false,Bool.and_true,if_true,putGo_true]
    refine⟨List.pairwise_cons.2 ⟨fun x hx=>?_,h⟩,fun x=>by simp only [List.mem_cons];exact⟨fun h=>by rcases h with h|h|h;exact .inr h;exact .inl (.inl h);exact .inl (.inr h),fun h=>by rcases h with (h|h)|h;exact .inr (.inl h);exact .inr (.inr h);exact .inl h⟩⟩
    rcases List.mem_cons.1 hx with rfl|hx
    ·exact hlt
    ·exact List.lt_trans hlt (h1 x hx)
   ·have hlt:r<row:=cmpR_lt.1 (by omega)
    simp only [e0,e1,Bool.false_or,decide_false,Bool.false_and,Bool.false_eq_true,if_false]
    refine⟨List.pairwise_cons.2 ⟨fun x hx=>?_,i1⟩,fun x=>by simp [i2,or_assoc]⟩
    rcases (i2 x).1 hx with hx|rfl
    ·exact h1 x hx
    ·exact hlt
theorem setR_put {l:List (List Int)}{k:Nat}{x:List Int}(h:l[k]?=some x):putGo x (setR (l.take k)) false=setR (l.take (k+1)):=by
 obtain⟨h1,h2⟩:=putGo_ok x _ (setR_pw (l.take k))
 refine setR_alone h1 fun z=>?_
 rw [h2,setR_mem,take_snoc h,List.mem_append,List.mem_singleton]
theorem putGo_eq {row r:List Int}{rs:List (List Int)}{put:Bool}(h:cmpRows r row=0):putGo row (r::rs) put=r::putGo row rs true:=by
 show(if decide (0<cmpRows r row)&&!(put||decide (cmpRows r row=0)) then row::r::putGo row rs true else r::putGo row rs (put||decide (cmpRows r row=0)))=_
 rw [h];simp
theorem putGo_in {row r:List Int}{rs:List (List Int)}(h:0<cmpRows r row):putGo row (r::rs) false=row::r::putGo row rs true:=by
 show(if decide (0<cmpRows r row)&&!(false||decide (cmpRows r row=0)) then row::r::putGo row rs true else r::putGo row rs (false||decide (cmpRows r row=0)))=_
 rw [decide_eq_true h,decide_eq_false (show ¬ cmpRows r row=0 by omega)];rfl
theorem putGo_on {row r:List Int}{rs:List (List Int)}{put:Bool}(h:cmpRows r row<0\/put=true):putGo row (r::rs) put=r::putGo row rs put:=by
 cases put with
 | true=>rw [putGo_true,putGo_true]
 | false =>
  have h1:cmpRows r row<0:=by rcases h with h|h;exact h;cases h
  show(if decide (0<cmpRows r row)&&!(false||decide (cmpRows r row=0)) then row::r::putGo row rs true else r::putGo row rs (false||decide (cmpRows r row=0)))=_
  rw [decide_eq_false (show ¬ 0<cmpRows r row by omega),decide_eq_false (show ¬ cmpRows r row=0 by omega)];rfl
theorem drop_cons {α:Type}{l:List α}{k:Nat}{x:α}(h:l[k]?=some x):l.drop k=x::l.drop (k+1):=by
 obtain⟨hk,rfl⟩:=List.getElem?_eq_some_iff.1 h
 exact List.drop_eq_getElem_cons hk
/-- a fresh copy of ints, to be appended as a row -/
theorem put_own {wr w0 w1:World}{g:Nat}{A:Option Addr}{n c:Nat}{x:List Int}(hg:wr.heap.size<=g) (hb:Below wr.heap.size wr w0) (o:OS NB 3 rInt w1 (blk A) A n c x) (g1:∀ k∈blk A,k=g\/k=w0.heap.size) (hb1:Below w0.heap.size w0 w1) :
  (rSlice NB 3 rInt).own (w1.alloc (.cells #[.slice A n c] 24)) (blk A) [.slice A n c] x/\Fr wr.heap.size (blk A)/\Below wr.heap.size wr (w1.alloc (.cells #[.slice A n c] 24)):=by
 have h1:=hb.trans (hb1.mono hb.size)
 have hz:=hb.size
 refine⟨⟨A,n,c,rfl,o.belowS rInt_ok ((Below.refl _ _).alloc (Nat.le_refl _) _)⟩,⟨by cases A<;>simp [blk],fun k hk=>by rcases g1 k hk with e|e<;>omega⟩,h1.alloc h1.size _⟩
end Go.Proofs.YtadgmjdafkihfaaGreat
namespace Go.Proofs.YtadgmjdafkihfaaGreat
open Go.RowKit
set_option linter.unusedVariables false
set_option linter.unusedSimpArgs false
section
variable {w:World} {g:Nat} {t:TypeId} {x0 x1 x2:Value}
theorem Bk.r3 (h:Bk w g t [x0,x1,x2]):w.cell? ⟨g,0,none⟩=some x0/\w.frozen? ⟨g,0,none⟩=false/\w.cell? ⟨g,1,none⟩=some x1/\w.frozen? ⟨g,1,none⟩=false/\w.cell? ⟨g,2,none⟩=some x2/\w.frozen? ⟨g,2,none⟩=false :=
 ⟨h.bx 0 _ rfl,h.frozen 0,h.bx 1 _ rfl,h.frozen 1,h.bx 2 _ rfl,h.frozen 2⟩
abbrev set3 (w:World) (g:Nat) (a b c:Value):World:=((w.setCell ⟨g,0,none⟩ a).setCell ⟨g,1,none⟩ b).setCell ⟨g,2,none⟩ c
theorem Bk.s3 (h:Bk w g t [x0,x1,x2]):(∀ a b c,(set3 w g a b c).cell? ⟨g,0,none⟩=some a)/\(∀ a b c,(set3 w g a b c).cell? ⟨g,1,none⟩=some b)/\∀ a b c,(set3 w g a b c).cell? ⟨g,2,none⟩=some c :=
 ⟨fun a b c=>(((h.set 0 a).set 1 b).set 2 c).bx 0 _ rfl,fun a b c=>(((h.set 0 a).set 1 b).set 2 c).bx 1 _ rfl,fun a b c=>(((h.set 0 a).set 1 b).set 2 c).bx 2 _ rfl⟩
theorem bls3 {B:Nat}{a:World}(h:Below B a w) (hg:B<=g) (x y z:Value):Below B a (set3 w g x y z):=((h.setCell (p:=⟨g,0,none⟩) hg _).setCell (p:=⟨g,1,none⟩) hg _).setCell (p:=⟨g,2,none⟩) hg _
theorem set3_ne {k:Nat}(hk:k≠g) (a b c:Value):(set3 w g a b c).heap[k]?=w.heap[k]? :=
 ((heap_setCell_other _ ⟨g,2,none⟩ k _ (fun e=>hk e)).trans (heap_setCell_other _ ⟨g,1,none⟩ k _ (fun e=>hk e))).trans (heap_setCell_other _ ⟨g,0,none⟩ k _ (fun e=>hk e))
theorem own_set3 {α:Type}{r:Rp α}(hr:r.Ok) {fp:List Nat}{cs:List Value}{x:α}(h:r.own w fp cs x) (hf:Fr (g+1) fp) (a b c:Value):r.own (set3 w g a b c) fp cs x :=
 hr.okeep h fun k hk=>set3_ne (by have:=hf.ge k hk;omega) a b c
end
theorem putGo_len (row:List Int):∀ (rs:List (List Int)) (p:Bool),(putGo row rs p).length<=rs.length+1
 | [],p=>by cases p<;>simp [putGo]
 | r::rs,p=>by
  unfold putGo
  have h1:=putGo_len row rs (p||decide (cmpRows r row=0))
  simp only
  split
  ·rw [putGo_true];simp
  ·simp only [List.length_cons];omega
theorem Stb.lowM {α:Type}{r:Rp α}{B M:Nat}{e:TypeId}{w w':World}{A:Option Addr}{n cap:Nat}{l:List α}{S:List Nat}(h:MS B M e r w A n cap l) (hr:r.Ok) (hc:Chg S w w') (hS:∀ k,B<=k->k∉S):MS B M e r w' A n cap l:=by
 obtain⟨fp,o,f⟩:=h
 exact⟨fp,o.okeep hr (fun k hk=>hc.block k (o.lt hr k hk) (hS k (f.ge k hk))),f⟩
end Go.Proofs.YtadgmjdafkihfaaGreat
