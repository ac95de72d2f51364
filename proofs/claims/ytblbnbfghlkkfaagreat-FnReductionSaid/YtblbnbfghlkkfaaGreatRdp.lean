/-
  Rdp
-/
import Derived.Test.YtblbnbfghlkkfaaGreatStrP
import Derived.Test.YtblbnbfghlkkfaaGreatShelf
import Derived.Test.YtblbnbfghlkkfaaGreatKeep
import Derived.Test.YtblbnbfghlkkfaaGreatCvl
import Derived.Test.YtblbnbfghlkkfaaGreatIbf
import Derived.Test.YtblbnbfghlkkfaaGreatCopy
namespace Go.Proofs.YtblbnbfghlkkfaaGreat
open Go.RowKit
set_option linter.unusedVariables false
set_option linter.unusedSimpArgs false

/-- how many a plan covers -/
def covN (cov:Int->Int->Bool) (left:List Int) (p:Int):Nat:=(left.filter (cov p)).length
/-- one plan more is looked at -/
def bestStep (cov:Int->Int->Bool) (left:List Int) (b:Option Nat × Nat) (k:Nat) (p:Int):Option Nat × Nat:=if b.2<covN cov left p then (some k,covN cov left p) else b
/-- the first plan (its place) that covers most, among the first n -/
def bestTo (cov:Int->Int->Bool) (left ps:List Int):Nat->Option Nat × Nat
 | 0=>(none,0)
 | k+1=>match ps[k]? with|some p=>bestStep cov left (bestTo cov left ps k) k p|none=>bestTo cov left ps k
theorem bestTo_next {cov:Int->Int->Bool}{left ps:List Int}{k:Nat}{p:Int}(h:ps[k]?=some p):bestTo cov left ps (k+1)=bestStep cov left (bestTo cov left ps k) k p:=by simp [bestTo,h]
theorem bestTo_ok {cov:Int->Int->Bool}{left ps:List Int}(n:Nat):(∀ k,(bestTo cov left ps n).1=some k->∃ p,ps[k]?=some p/\covN cov left p=(bestTo cov left ps n).2/\0<(bestTo cov left ps n).2)/\((bestTo cov left ps n).1=none->(bestTo cov left ps n).2=0):=by
 induction n with
 | zero=>simp [bestTo]
 | succ n ih =>
  cases h:ps[n]? with
  | none=>simp only [bestTo,h];exact ih
  | some p =>
   rw [bestTo_next h]
   unfold bestStep
   split
   ·refine⟨fun k hk=>?_,fun h=>by cases h⟩
    simp only at hk ⊢
    injection hk with hk;subst hk
    exact⟨p,h,rfl,by omega⟩
   ·exact ih
theorem covN_perm {cov:Int->Int->Bool}{l l':List Int}(h:l.Perm l') (p:Int):covN cov l p=covN cov l' p:=(h.filter _).length_eq
theorem bestTo_perm {cov:Int->Int->Bool}{l l' ps:List Int}(h:l.Perm l') (n:Nat):bestTo cov l ps n=bestTo cov l' ps n:=by
 induction n with
 | zero=>rfl
 | succ n ih =>
  cases hp:ps[n]? with
  | none=>simp only [bestTo,hp];exact ih
  | some p=>rw [bestTo_next hp,bestTo_next hp];unfold bestStep;rw [ih,covN_perm h p]
/-- the plan that is chosen -/
def bestP (cov:Int->Int->Bool) (left ps:List Int):Option Int:=match (bestTo cov left ps ps.length).1 with|some k=>ps[k]?|none=>none
theorem bestP_pos {cov:Int->Int->Bool}{left ps:List Int}{p:Int}(h:bestP cov left ps=some p):∃ x∈left,cov p x=true:=by
 unfold bestP at h
 cases hk:(bestTo cov left ps ps.length).1 with
 | none=>rw [hk]at h;cases h
 | some k =>
  rw [hk]at h
  obtain⟨p',h1,h2,h3⟩:=(bestTo_ok (cov:=cov) (left:=left) (ps:=ps) ps.length).1 k hk
  simp only at h
  rw [h]at h1;injection h1 with h1;subst h1
  rw [<- h2]at h3
  obtain⟨x,hx⟩:=List.exists_mem_of_length_pos h3
  rw [List.mem_filter]at hx
  exact⟨x,hx⟩
def leftOf (cov:Int->Int->Bool) (left:List Int) (p:Int):List Int:=left.filter fun x=>!cov p x
theorem leftOf_lt {cov:Int->Int->Bool}{left ps:List Int}{p:Int}(h:bestP cov left ps=some p):(leftOf cov left p).length<left.length:=by
 obtain⟨x,h1,h2⟩:=bestP_pos h
 unfold leftOf
 rcases Nat.lt_or_ge (left.filter fun x=>!cov p x).length left.length with h3|h3
 ·exact h3
 ·exfalso
  have h4:=List.length_filter_eq_length_iff.1 (Nat.le_antisymm (List.length_filter_le _ _) h3)
  have:=h4 x h1
  simp [h2]at this
def reduceF (cov:Int->Int->Bool) (ps:List Int):Nat->List Int->List Int
 | 0,_=>[]
 | f+1,left=>match bestP cov left ps with|some p=>p::reduceF cov ps f (leftOf cov left p)|none=>[]
theorem reduceF_more {cov:Int->Int->Bool}{ps:List Int}(f g:Nat) {left:List Int}(h1:left.length<f) (h2:left.length<g):reduceF cov ps f left=reduceF cov ps g left:=by
 induction f generalizing left g with
 | zero=>omega
 | succ f ih =>
  cases g with
  | zero=>omega
  | succ g =>
   unfold reduceF
   cases hb:bestP cov left ps with
   | none=>rfl
   | some p =>
    have:=leftOf_lt hb
    simp only
    rw [ih g (by omega) (by omega)]
/-- the plans chosen -/
def reduce (cov:Int->Int->Bool) (ps left:List Int):List Int:=reduceF cov ps (left.length+1) left
theorem reduce_none {cov:Int->Int->Bool}{ps left:List Int}(h:bestP cov left ps=none):reduce cov ps left=[]:=by unfold reduce reduceF;rw [h]
theorem reduce_some {cov:Int->Int->Bool}{ps left:List Int}{p:Int}(h:bestP cov left ps=some p):reduce cov ps left=p::reduce cov ps (leftOf cov left p):=by
 have:=leftOf_lt h
 have e:reduce cov ps left=p::reduceF cov ps left.length (leftOf cov left p):=by unfold reduce;rw [reduceF,h]
 rw [e];unfold reduce
 rw [reduceF_more left.length ((leftOf cov left p).length+1) (by omega) (by omega)]
theorem bestP_nil {cov:Int->Int->Bool}{ps:List Int}:bestP cov [] ps=none:=by
 cases h:bestP cov [] ps with
 | none=>rfl
 | some p=>obtain⟨x,hx,_⟩:=bestP_pos h;cases hx
theorem bestP_perm {cov:Int->Int->Bool}{l l' ps:List Int}(h:l.Perm l'):bestP cov l ps=bestP cov l' ps:=by unfold bestP;rw [bestTo_perm h]
theorem reduce_perm {cov:Int->Int->Bool}{ps l l':List Int}(h:l.Perm l'):reduce cov ps l=reduce cov ps l':=by
 obtain⟨n,hn⟩:∃ n,l.length<=n:=⟨_,Nat.le_refl _⟩
 induction n generalizing l l' with
 | zero =>
  have e:l=[]:=List.eq_nil_of_length_eq_zero (by omega)
  subst e
  rw [List.nil_perm.1 h]
 | succ n ih =>
  have hb:=bestP_perm (cov:=cov) (ps:=ps) h
  cases hp:bestP cov l ps with
  | none=>rw [reduce_none hp,reduce_none (hb▸hp)]
  | some p =>
   have hp':bestP cov l' ps=some p:=hb▸hp
   rw [reduce_some hp,reduce_some hp']
   have:=leftOf_lt hp
   have e:=ih (l:=leftOf cov l p) (l':=leftOf cov l' p) (h.filter _) (by omega)
   rw [e]
/-- each number once, in the order of coming -/
def onceI (l:List Int):List Int:=l.foldl (fun a x=>if hasI a x then a else a++[x]) []
theorem onceI_take {l:List Int}{k:Nat}{x:Int}(h:l[k]?=some x):onceI (l.take (k+1))=if hasI (onceI (l.take k)) x then onceI (l.take k) else onceI (l.take k)++[x]:=by
 unfold onceI;rw [take_snoc h,List.foldl_append];rfl
theorem onceI_ok (l:List Int) (k:Nat) (hk:k<=l.length):(onceI (l.take k)).Nodup/\(∀ x,x∈onceI (l.take k)↔x∈l.take k)/\(onceI (l.take k)).length<=k:=by
 induction k with
 | zero=>simp [onceI]
 | succ k ih =>
  obtain⟨h1,h2,h3⟩:=ih (by omega)
  have hx:l[k]?=some (l[k]'(by omega)):=List.getElem?_eq_getElem (by omega)
  rw [onceI_take hx,take_snoc hx]
  split
  ·rename_i hm
   have hm:l[k]'(by omega)∈onceI (l.take k):=by simpa [hasI]using hm
   refine⟨h1,fun x=>?_,by omega⟩
   rw [h2,List.mem_append,List.mem_singleton]
   constructor
   ·exact .inl
   ·rintro(h|rfl)
    ·exact h
    ·exact(h2 _).1 hm
  ·rename_i hm
   have hm:¬ l[k]'(by omega)∈onceI (l.take k):=by simpa [hasI]using hm
   refine⟨List.nodup_append.2 ⟨h1,by simp,fun a ha b hb e=>by rw [List.mem_singleton]at hb;subst hb;subst e;exact hm ha⟩,fun x=>by rw [List.mem_append,List.mem_append,h2],by simp;omega⟩
theorem onceI_perm (l:List Int):(compactI (sortI l)).Perm (onceI l):=by
 obtain⟨h1,h2,_⟩:=onceI_ok l l.length (Nat.le_refl _)
 rw [List.take_length]at h1 h2
 have nd:(compactI (sortI l)).Nodup:=(compactI_pw (sortI_pw l)).imp (fun h=>by omega)
 refine(List.perm_ext_iff_of_nodup nd h1).2 fun x=>?_
 rw [compactI_mem,(sortI_perm l).mem_iff,h2]
/-- what the program hands back -/
def reducePlans (cov:Int->Int->Bool) (ps f:List Int):List Int:=reduce cov ps (onceI f)
end Go.Proofs.YtblbnbfghlkkfaaGreat
namespace Go.Proofs.YtblbnbfghlkkfaaGreat
open Go.RowKit
set_option linter.unusedVariables false
set_option linter.unusedSimpArgs false

theorem putRow_own {w:World}{e:TypeId}{g n cap:Nat}{l l':List Int}(h:w.ownsRow 0 e 1 (.slice (some ⟨g,0,none⟩) n cap) n (l.map (Value.int .i64))) (hl:l'.length=n) (m:Nat) (os:Array Obj) :
  (Sort.grow (Sort.putRow (Value.int .i64) (Sort.ahead w m) g 0 l'.toArray) os).ownsRow 0 e 1 (.slice (some ⟨g,0,none⟩) n cap) n (l'.map (Value.int .i64)):=by
 refine⟨by simp [hl],.inr ?_⟩
 rcases h.2 with ⟨h1,_⟩|⟨g',c,cur,h1,hB,hg,hn,hm,hs,ht⟩
 ·cases h1
 injection h1 with e1 e2 e3;injection e1 with e1;injection e1 with e1
 subst e1;subst e3
 have hlt:=(Array.getElem?_eq_some_iff.1 hg).1
 refine⟨g,cap,Sort.putCells (Value.int .i64) 0 l'.toArray cur,rfl,Nat.zero_le _,?_,hn,hm,?_,?_⟩
 ·rw [Sort.heap_grow_old _ _ (by simp;exact hlt)]
  simp [Sort.putRow,Sort.mapBlock,Array.getElem?_modify,hg,Sort.onCells]
 ·simp [Sort.putCells];simpa using hs
 ·apply List.ext_getElem?
  intro i
  rw [List.getElem?_take]
  by_cases hi:i<n*1
  ·rw [if_pos hi]
   have hi2:i<cur.size:=by rw [hs];omega
   have hi3:i<l'.length:=by omega
   simp [Sort.putCells,hi2,hi3]
  ·rw [if_neg hi,List.getElem?_eq_none (by simp;omega)]
theorem putRow_below {B:Nat}{w:World}{g:Nat}(hg:g<w.heap.size) (hB:B<=g) (l:List Int) (m:Nat) (os:Array Obj):Below B w (Sort.grow (Sort.putRow (Value.int .i64) (Sort.ahead w m) g 0 l.toArray) os):=by
 refine⟨rfl,rfl,rfl,by simp,fun k hk=>?_⟩
 rw [Sort.heap_grow_old _ _ (by simp;omega)]
 simp [Sort.putRow,Sort.mapBlock,Array.getElem?_modify]
 intro e;omega
theorem MS.holds {B:Nat}{e:TypeId}{w:World}{g n cap:Nat}{l:List Int}(h:MS B NB e rInt w (some ⟨g,0,none⟩) n cap l):Sort.Holds (Value.int .i64) w g 0 l.toArray:=by
 intro j hj
 have hj':j<n:=by rw [<- h.len];simpa using hj
 obtain⟨x,h1,_,h2⟩:=h.celli hj'
 refine⟨?_,by rw [Nat.zero_add];exact h.frozen j⟩
 rw [Nat.zero_add,h1]
 have:=h2.out
 simp [getElem!_def,this]
theorem MS.puts {B:Nat}{e:TypeId}{w:World}{g n cap:Nat}{l l':List Int}(h:MS B NB e rInt w (some ⟨g,0,none⟩) n cap l) (hl:l'.length=n) (hr:∀ x∈l',I64 x) (m:Nat) (os:Array Obj) :
  MS B NB e rInt (Sort.grow (Sort.putRow (Value.int .i64) (Sort.ahead w m) g 0 l'.toArray) os) (some ⟨g,0,none⟩) n cap l':=by
 obtain⟨fp,h1,h2⟩:=h
 obtain⟨rfl,hM,hown,_⟩:=osInt.1 h1
 exact⟨_,osInt.2 ⟨rfl,hM,putRow_own hown hl m os,hr⟩,h2⟩
/-- a shorter beginning of what is owned -/
theorem MS.cut {B:Nat}{e:TypeId}{w:World}{g n cap:Nat}{l:List Int}(h:MS B NB e rInt w (some ⟨g,0,none⟩) n cap l) {k:Nat}(hk:k<=n):MS B NB e rInt w (some ⟨g,0,none⟩) k cap (l.take k):=by
 obtain⟨fp,h1,h2⟩:=h
 obtain⟨rfl,hM,hown,hr⟩:=osInt.1 h1
 refine⟨_,osInt.2 ⟨rfl,by omega,?_,fun x hx=>hr x (List.mem_of_mem_take hx)⟩,h2⟩
 have hlen:=hown.1
 rcases hown.2 with ⟨e1,_⟩|⟨g',c,cur,e1,q1,q2,q3,q4,q5,q6⟩
 ·cases e1
 injection e1 with e1 e2 e3;injection e1 with e1;injection e1 with e1
 subst e1;subst e3
 refine⟨by simp at hlen ⊢;omega,.inr ⟨g,cap,cur,rfl,Nat.zero_le _,q2,by omega,q4,q5,?_⟩⟩
 rw [List.map_take,<- q6,List.take_take]
 congr 1;omega
theorem sortInts_c {B:Nat}{A:Option Addr}{n cap:Nat}{l:List Int}{w:World}(h:MS B NB 3 rInt w A n cap l) :
  Calls Tryz.prog 16 #[.slice A n cap] w fun e w'=>e=.returned (.tuple #[])/\MS B NB 3 rInt w' A n cap (sortI l)/\Below B w w':=by
 have hlen:=h.len
 rcases Nat.eq_zero_or_pos n with h0|h0
 ·subst h0
  have hl:l=[]:=List.eq_nil_of_length_eq_zero hlen
  subst hl
  exact(Tryz.slices_Sort_int_none A cap w).mono fun e w' ⟨h1,h2⟩=>⟨h1,by rw [h2];simpa [sortI]using h,by rw [h2];exact Below.refl _ _⟩
 ·obtain⟨g,rfl,hg,hB⟩:=h.form h0
  subst hlen
  have hnb:=h.nb
  refine(Tryz.slices_Sort_int g 0 cap l w h.holds hg (by unfold NB at hnb;omega)).mono fun e w' ⟨h1,m,os,h2⟩=>?_
  subst h2
  refine⟨h1,h.puts (l':=sortI l) (sortI_perm l).length_eq (fun x hx=>?_) m os,putRow_below hg hB _ m os⟩
  exact(h.rs rInt_ok).rng x ((sortI_perm l).mem_iff.1 hx)
theorem compact_eq (l:List Int):Lib.compact l=compactI l:=by
 have:∀ m,m<=l.length->Lib.compactUpTo l.toArray m=compactI (l.take m):=by
  intro m
  induction m with
  | zero=>intro _;simp [Lib.compactUpTo,compactI]
  | succ m ih =>
   intro hm
   rw [Lib.compactUpTo_succ,ih (by omega)]
   have hx:l[m]?=some (l[m]'(by omega)):=List.getElem?_eq_getElem (by omega)
   cases m with
   | zero =>
    rw [take_snoc hx]
    have hl:0<l.length:=by omega
    simp [Lib.keeps,compactI,getElem!_pos,hl]
   | succ m =>
    have hy:l[m]?=some (l[m]'(by omega)):=List.getElem?_eq_getElem (by omega)
    rw [compactI_next hy hx]
    have h1:m+1<l.length:=by omega
    have h2:m<l.length:=by omega
    by_cases he:l[m]=l[m+1]
    ·simp [Lib.keeps,getElem!_pos,h1,h2,he]
    ·have he2:¬ l[m+1]=l[m]:=fun h=>he h.symm
     simp [Lib.keeps,getElem!_pos,h1,h2,he,he2]
 have:=this l.length (Nat.le_refl _)
 rw [List.take_of_length_le (Nat.le_refl _)]at this
 exact this
theorem compactInts_c {B:Nat}{A:Option Addr}{n cap:Nat}{l:List Int}{w:World}(h:MS B NB 3 rInt w A n cap l) :
  Calls Tryz.prog 17 #[.slice A n cap] w fun e w'=>e=.returned (.slice A (compactI l).length cap)/\MS B NB 3 rInt w' A (compactI l).length cap (compactI l)/\Below B w w':=by
 have hlen:=h.len
 rcases Nat.eq_zero_or_pos n with h0|h0
 ·subst h0
  have hl:l=[]:=List.eq_nil_of_length_eq_zero hlen
  subst hl
  exact(Tryz.slices_Compact_int_empty A cap w).mono fun e w' ⟨h1,h2⟩=>⟨by rw [h1];rfl,by rw [h2];simpa [compactI]using h,by rw [h2];exact Below.refl _ _⟩
 ·obtain⟨g,rfl,hg,hB⟩:=h.form h0
  subst hlen
  have hnb:=h.nb
  have hcl:=compactI_len l
  have hcap:l.length<=cap:=(h.rs rInt_ok).nc
  refine(Tryz.slices_Compact_int g 0 cap l w h.holds (by unfold NB at hnb;omega) hcap).mono fun e w' ⟨h1,m,h2⟩=>?_
  rw [compact_eq]at h1 h2
  have h3:=h.puts (l':=compactI l++List.replicate (l.length - (compactI l).length) 0) (by simp;omega) (fun x hx=>?_) m #[]
  ·rw [Sort.grow_empty,<- h2]at h3
   refine⟨h1,?_,?_⟩
   ·have:=h3.cut (k:=(compactI l).length) hcl
    rwa [List.take_left']at this
    rfl
   ·have:=putRow_below hg hB (compactI l++List.replicate (l.length - (compactI l).length) 0) m #[]
    rwa [Sort.grow_empty,<- h2]at this
  ·rcases List.mem_append.1 hx with hx|hx
   ·exact(h.rs rInt_ok).rng x (compactI_mem.1 hx)
   ·rw [List.eq_of_mem_replicate hx];exact I64_zero
end Go.Proofs.YtblbnbfghlkkfaaGreat
namespace Go.Proofs.YtblbnbfghlkkfaaGreat
open Go.RowKit
set_option linter.unusedVariables false
set_option linter.unusedSimpArgs false
def slLen:Value->Nat|.slice _ n _=>n|_=>0
theorem MS.bkI {B M:Nat}{e:TypeId}{w:World}{A:Option Addr}{n cap:Nat}{l:List Int}(h:MS B M e rInt w A n cap l):∀ k∈blk A,B<=k/\k<w.heap.size:=by
 obtain⟨fp,o,f⟩:=h
 have e:=(osInt.1 o).1
 subst e
 exact fun k hk=>⟨f.ge k hk,o.lt rInt_ok k hk⟩
theorem MS.heapI {B M:Nat}{e:TypeId}{w w':World}{A:Option Addr}{n cap:Nat}{l:List Int}(h:MS B M e rInt w A n cap l) (hk:∀ k∈blk A,w'.heap[k]?=w.heap[k]?):MS B M e rInt w' A n cap l:=by
 obtain⟨fp,o,f⟩:=h
 have e:=(osInt.1 o).1
 subst e
 exact⟨_,o.okeep rInt_ok hk,f⟩
/-- the walk's world: the plans so far, what is left, the frontier's plans; the first apart from the others -/
structure Rdl (wb:World) (O L ps:List Int) (AO:Option Addr) (nO cO:Nat) (AL:Option Addr) (nL cL:Nat) (AP:Option Addr) (nP cP:Nat) (wr:World):Prop where
 mo:MS wb.heap.size NB 3 rInt wr AO nO cO O
 ml:MS wb.heap.size NB 3 rInt wr AL nL cL L
 mp:MS wb.heap.size NB 3 rInt wr AP nP cP ps
 d1:∀ k∈blk AO,k∉blk AL
 d2:∀ k∈blk AO,k∉blk AP
 be:Below wb.heap.size wb wr
section
variable {wb wr w':World} {O L ps:List Int} {AO:Option Addr} {nO cO:Nat} {AL:Option Addr} {nL cL:Nat} {AP:Option Addr} {nP cP:Nat}
theorem Rdl.below (h:Rdl wb O L ps AO nO cO AL nL cL AP nP cP wr) (hb:Below wr.heap.size wr w'):Rdl wb O L ps AO nO cO AL nL cL AP nP cP w' :=
 ⟨h.mo.below rInt_ok hb,h.ml.below rInt_ok hb,h.mp.below rInt_ok hb,h.d1,h.d2,h.be.trans (hb.mono h.be.size)⟩
theorem Rdl.left {T:Nat}(h:Rdl wb O L ps AO nO cO AL nL cL AP nP cP wr) (hb:Below wr.heap.size wr w') (hT:wr.heap.size<=T) {L':List Int}{AL':Option Addr}{nL' cL':Nat}(hm:MS T NB 3 rInt w' AL' nL' cL' L'):Rdl wb O L' ps AO nO cO AL' nL' cL' AP nP cP w' :=
 ⟨h.mo.below rInt_ok hb,hm.base (Nat.le_trans h.be.size hT),h.mp.below rInt_ok hb,fun k hk hk'=>by have:=(h.mo.bkI k hk).2;have:=(hm.bkI k hk').1;omega,h.d2,h.be.trans (hb.mono h.be.size)⟩
theorem Rdl.app (h:Rdl wb O L ps AO nO cO AL nL cL AP nP cP wr) {O':List Int}{AO':Option Addr}{nO' cO':Nat}(hm:MS wb.heap.size NB 3 rInt w' AO' nO' cO' O') (hb:Below wb.heap.size wr w') (hg:wr.grownBy w' (AO.map (·.block)))
  {T:Nat} (hT:wr.heap.size<=T) (hA:AO'.map (·.block)=AO.map (·.block)\/AO'.map (·.block)=some T):Rdl wb O' L ps AO' nO' cO' AL nL cL AP nP cP w':=by
 have hd:∀ (A:Option Addr),(∀ k∈blk AO,k∉blk A)->(∀ k∈blk A,k<wr.heap.size)->∀ k∈blk AO',k∉blk A:=fun A h1 h2 k hk hk2=>by
  have e1:=mem_blk.1 hk
  rcases hA with e|e
  ·exact h1 k (mem_blk.2 (e▸e1)) hk2
  ·rw [e]at e1;injection e1 with e1;have:=h2 k hk2;omega
 exact⟨hm,h.ml.heapI (fun k hk=>hg.block k (h.ml.bkI k hk).2 (fun e=>h.d1 k (mem_blk.2 e.symm) hk)),h.mp.heapI (fun k hk=>hg.block k (h.mp.bkI k hk).2 (fun e=>h.d2 k (mem_blk.2 e.symm) hk)),
  hd _ h.d1 (fun k hk=>(h.ml.bkI k hk).2),hd _ h.d2 (fun k hk=>(h.mp.bkI k hk).2),h.be.trans hb⟩
end
/-- the best place so far, as the program bears it -/
def BestAt (cov:Int->Int->Bool) (L ps:List Int) (k:Nat) (bz:Int) (c:Nat):Prop:=(bestTo cov L ps k).2=c/\((bestTo cov L ps k).1=none/\bz=-1\/∃ j:Nat,(bestTo cov L ps k).1=some j/\bz=j)
theorem BestAt.yes {cov:Int->Int->Bool}{L ps:List Int}{k:Nat}{bz:Int}{c:Nat}{p:Int}(h:BestAt cov L ps k bz c) (hp:ps[k]?=some p) (hc:c<covN cov L p):BestAt cov L ps (k+1) k (covN cov L p):=by
 unfold BestAt;rw [bestTo_next hp];unfold bestStep;rw [h.1,if_pos hc];exact⟨rfl,.inr ⟨k,rfl,rfl⟩⟩
theorem BestAt.no {cov:Int->Int->Bool}{L ps:List Int}{k:Nat}{bz:Int}{c:Nat}{p:Int}(h:BestAt cov L ps k bz c) (hp:ps[k]?=some p) (hc:¬ c<covN cov L p):BestAt cov L ps (k+1) bz c:=by
 have h2:=h
 unfold BestAt at h2 ⊢;rw [bestTo_next hp];unfold bestStep;rw [h.1,if_neg hc];exact h2
theorem BestAt.fin {cov:Int->Int->Bool}{L ps:List Int}{n:Nat}{bz:Int}{c:Nat}(h:BestAt cov L ps n bz c) (hn:ps.length=n):(bz=-1/\reduce cov ps L=[])\/∃ (j:Nat) (p:Int),bz=j/\ps[j]?=some p/\reduce cov ps L=p::reduce cov ps (leftOf cov L p)/\(leftOf cov L p).length<L.length:=by
 subst hn
 rcases h.2 with ⟨h1,h2⟩|⟨j,h1,h2⟩
 ·exact .inl ⟨h2,reduce_none (by unfold bestP;rw [h1])⟩
 ·obtain⟨p,hp,_⟩:=(bestTo_ok (cov:=cov) (left:=L) (ps:=ps) ps.length).1 j h1
  have hb:bestP cov L ps=some p:=by unfold bestP;rw [h1];exact hp
  exact .inr ⟨j,p,h2,hp,reduce_some hb,leftOf_lt hb⟩
theorem gone_has {cov:Int->Int->Bool}{L:List Int}{k:Nat}{x p:Int}(h:L[k]?=some x):hasI (L.filter (cov p)) x=cov p x:=by
 have:=mem_of_at h
 unfold hasI
 rw [Bool.eq_iff_iff,decide_eq_true_iff,List.mem_filter]
 exact⟨fun h=>h.2,fun h=>⟨this,h⟩⟩
set_option maxRecDepth 100000 in
set_option maxHeartbeats 1600000 in
theorem sReducePlans_c (csm:List Value) (m:ModelD) (csq:List Value) (q:QueryD) (css:List Value) (s:SpaceD) (Af:Option Addr) (nf cf:Nat) (f:List Int) (b:Int) (w:World) (hm:(rModel NB).rep w csm m) (hq:(rQuery NB).rep w csq q) (hs:(rSpace NB).rep w css s) (hf:RS NB rInt w Af nf cf f) :
  Calls Tryz.prog 8 #[.agg csm.toArray,.agg csq.toArray,.agg css.toArray,.slice Af nf cf,.int .i64 b] w (RetS 3 rInt (reducePlans (fun k x=>coversL m q s k x b) (frontierPlans s f) f) w):=by
 have rm:=hm
 have lenm:=(rModel_ok NB).len hm
 clear hm
 have rq:=hq
 obtain⟨AqAtoms,nqAtoms,cqAtoms,rfl,hqVariableCount,hqAtoms⟩:=rQuery_rep.1 hq
 clear hq
 have rs:=hs
 obtain⟨AsBoxLow,nsBoxLow,csBoxLow,AsBoxHigh,nsBoxHigh,csBoxHigh,AsCosts,nsCosts,csCosts,AsChoices,nsChoices,csChoices,AsPlans,nsPlans,csPlans,rfl,hsBoxLow,hsBoxHigh,hsCosts,hsChoices,hsPlans⟩:=rSpace_rep.1 hs
 clear hs
 have hB:Below w.heap.size w w:=Below.refl _ _
 have hAm:=(Below.refl (World.heap (w)).size (w)).alloc (Nat.le_refl _) (.cells csm.toArray 28)
 replace hB:=hB.trans (hAm.mono hB.size)
 have bxm:=Bx.new (w) csm 28
 clear hAm
 have hAq:=(Below.refl (World.heap ((w).alloc (.cells csm.toArray 28))).size ((w).alloc (.cells csm.toArray 28))).alloc (Nat.le_refl _) (.cells #[.int .i64 q.fVariableCount,.slice AqAtoms nqAtoms cqAtoms] 31)
 replace hB:=hB.trans (hAq.mono hB.size)
 replace bxm:=bxm.below hAq
 have bxq:=Bx.new ((w).alloc (.cells csm.toArray 28)) [.int .i64 q.fVariableCount,.slice AqAtoms nqAtoms cqAtoms] 31
 simp only [World.size_alloc]at bxq
 clear hAq
 have hAs:=(Below.refl (World.heap (((w).alloc (.cells csm.toArray 28)).alloc (.cells #[.int .i64 q.fVariableCount,.slice AqAtoms nqAtoms cqAtoms] 31))).size (((w).alloc (.cells csm.toArray 28)).alloc (.cells #[.int .i64 q.fVariableCount,.slice AqAtoms nqAtoms cqAtoms] 31))).alloc (Nat.le_refl _) (.cells #[.slice AsBoxLow nsBoxLow csBoxLow,.slice AsBoxHigh nsBoxHigh csBoxHigh,.slice AsCosts nsCosts csCosts,.slice AsChoices nsChoices csChoices,.slice AsPlans nsPlans csPlans] 37)
 replace hB:=hB.trans (hAs.mono hB.size)
 replace bxm:=bxm.below hAs
 replace bxq:=bxq.below hAs
 have bxs:=Bx.new (((w).alloc (.cells csm.toArray 28)).alloc (.cells #[.int .i64 q.fVariableCount,.slice AqAtoms nqAtoms cqAtoms] 31)) [.slice AsBoxLow nsBoxLow csBoxLow,.slice AsBoxHigh nsBoxHigh csBoxHigh,.slice AsCosts nsCosts csCosts,.slice AsChoices nsChoices csChoices,.slice AsPlans nsPlans csPlans] 37
 simp only [World.size_alloc]at bxs
 clear hAs
 have lenm':csm.length=30:=lenm
 clear lenm
 have hnf:=hf.bound
 obtain⟨cov,HCov⟩:∃ c,Hid (c=fun k x=>coversL m q s k x b):=⟨_,rfl⟩
 obtain⟨ps,HPs⟩:∃ ps,Hid (frontierPlans s f=ps):=⟨_,rfl⟩
 have HG:Hid (reducePlans (fun k x=>coversL m q s k x b) (frontierPlans s f) f=reduce cov ps (onceI f)):=by show _=_;rw [HPs.out,HCov.out];rfl
 go_enter Tryz.func8,Tryz.ntmps8
 go_upto_region 1 with fail
 obtain⟨wb,hwb⟩:∃ W,W=((w.alloc (.cells csm.toArray 28)).alloc (.cells #[.int .i64 q.fVariableCount,.slice AqAtoms nqAtoms cqAtoms] 31)).alloc (.cells #[.slice AsBoxLow nsBoxLow csBoxLow,.slice AsBoxHigh nsBoxHigh csBoxHigh,.slice AsCosts nsCosts csCosts,.slice AsChoices nsChoices csChoices,.slice AsPlans nsPlans csPlans] 37):=⟨_,rfl⟩
 rw [<- hwb]at hB bxm bxq bxs ⊢
 clear hwb
 have K1:Hid (∀ W (A:Option Addr) (n c:Nat) (L:List Int) (p:Int),Below wb.heap.size wb W->RS NB rInt W A n c L->Calls Tryz.prog 23 #[.agg csm.toArray,.agg #[.int .i64 q.fVariableCount,.slice AqAtoms nqAtoms cqAtoms],.agg #[.slice AsBoxLow nsBoxLow csBoxLow,.slice AsBoxHigh nsBoxHigh csBoxHigh,.slice AsCosts nsCosts csCosts,.slice AsChoices nsChoices csChoices,.slice AsPlans nsPlans csPlans],.int .i64 p,.slice A n c,.int .i64 b] W (RetS 3 rInt (L.filter (cov p)) W)):=by
  show ∀ W A n c L p,_->_->_
  intro W A n c L p hW hR
  have hX:=hB.trans (hW.mono hB.size)
  have C:=sCoveredBy_c _ m _ q _ s p A n c L b W ((rModel_ok NB).keep rm (cells_below hX)) ((rQuery_ok NB).keep rq (cells_below hX)) ((rSpace_ok NB).keep rs (cells_below hX)) hR
  rw [HCov.out]
  exact C
 go_upto_region 2 with fail
 obtain⟨w1,hw1⟩:∃ W,W=wb.alloc (.cells #[] 3):=⟨_,rfl⟩
 have hE1:Below wb.heap.size wb w1:=by rw [hw1];exact(Below.refl wb.heap.size wb).alloc (Nat.le_refl _) _
 have mO:MS wb.heap.size NB 3 rInt w1 (some ⟨wb.heap.size,0,none⟩) 0 0 []:=by rw [hw1];exact MS.empty wb (Nat.le_refl _)
 have hs1:w1.heap.size=wb.heap.size+1:=by rw [hw1];simp
 rw [<- hw1]
 clear hw1
 have hB1:=hB.trans (hE1.mono hB.size)
 have ks_0:=bxs.below hE1 0 _ rfl
 have ks_1:=bxs.below hE1 1 _ rfl
 have ks_2:=bxs.below hE1 2 _ rfl
 have ks_3:=bxs.below hE1 3 _ rfl
 have ks_4:=bxs.below hE1 4 _ rfl
 go_wp2_with fail
 have C:=sFrontierPlans_c _ s _ _ _ f _ ((rSpace_ok NB).keep rs (cells_below hB1)) (hf.below rInt_ok hB1)
 rw [HPs.out]at C
 refine C.mono ?_
 clear C
 rintro e w2 ⟨AP,nP,cP,rfl,mP,hb2⟩
 clear ks_0 ks_1 ks_2 ks_3 ks_4 hB1
 have hE2:=hE1.trans (hb2.mono hE1.size)
 replace mO:=mO.below rInt_ok hb2
 clear hb2 hE1
 have hM0:=MS.empty (B:=w2.heap.size) (M:=NB) (e:=3) (r:=rInt) w2 (Nat.le_refl _)
 have hA0:=(Below.refl w2.heap.size w2).alloc (Nat.le_refl _) (.cells #[] 3)
 go_wp2
 go_loopw [13,14] (fun l i wr=>∃ (k n c:Nat) (A:Option Addr),k<=nf/\n<=k/\i=.int .i64 k/\l=.slice A n c/\MS w2.heap.size NB 3 rInt wr A n c (onceI (f.take k))/\Below w2.heap.size w2 wr) (fun _ i _=>nf - (intOf i).toNat)
 case atStart=>exact⟨0,0,0,_,Nat.zero_le _,Nat.le_refl _,rfl,rfl,hM0,hA0⟩
 case round =>
  clear hM0 hA0
  obtain⟨k,n,c,A,hk,hnk,rfl,rfl,hM,hE⟩:=hrel
  have hR:=hM.rs rInt_ok
  have hB3:=hB.trans ((hE2.trans (hE.mono hE2.size)).mono hB.size)
  by_cases hlt:k<nf
  ·obtain⟨bf,of,x,rfl,hc,hI,hx⟩:=(hf.below rInt_ok hB3).ati hlt
   have HO:=Lib.hid (onceI_take hx.out)
   cases hh:hasI (onceI (f.take k)) x
   ·have HH:=Lib.hid hh;clear hh
    go_wp2_with (first|(go_at_call 22;refine(l7Has_v HH.out hR).mono ?_;rintro e w' ⟨rfl,hww⟩;replace hww:=hww.symm;subst hww)|(at_builtin;refine wpList_app (r:=rInt) rfl _ _ 32 rfl _ 8 eiInt rInt_ok rfl hM ((Below.refl _ _).alloc (Nat.le_refl _) _) hE.size ⟨_,0,none⟩ rfl [] [.int .i64 x] x ⟨rfl,rfl,hI⟩ (Fr.nil _) (cell_one_new _ _ _) (by unfold NB at *;omega) (Nat.le_refl _) (by unfold NB at *;omega) ?_;intro A9 k9 w9 hM9 hb9 hg9))
    go_roundw
    case rel=>exact⟨k+1,n+1,k9,A9,by omega,by omega,by go_num,rfl,by rw [HO.out,HH.out];exact hM9,(hE.alloc hE.size _).trans hb9⟩
    case measure=>simp [intOf];omega
   ·have HH:=Lib.hid hh;clear hh
    go_wp2_with (go_at_call 22;refine(l7Has_v HH.out hR).mono ?_;rintro e w' ⟨rfl,hww⟩;replace hww:=hww.symm;subst hww)
    go_roundw
    case rel=>exact⟨k+1,n,c,A,by omega,by omega,by go_num,rfl,by rw [HO.out,HH.out];exact hM,hE⟩
    case measure=>simp [intOf];omega
  ·have HT:Hid (f.take k=f):=by show _=_;exact take_all hf.len hlt
   rw [HT.out]at hM
   have hN:n<=nf:=by omega
   have J0:Rdl wb [] (onceI f) ps (some ⟨wb.heap.size,0,none⟩) 0 0 A n c AP nP cP wr :=
    ⟨mO.below rInt_ok hE,hM.base hE2.size,(mP.below rInt_ok hE).base (by omega),fun k hk hk'=>by have:=(hM.bkI k hk').1;have:=(mO.bkI k hk).2;omega,fun k hk hk'=>by simp [blk]at hk;have:=(mP.bkI k hk').1;omega,hE2.trans (hE.mono hE2.size)⟩
   have HLen:=Lib.hid mP.len
   have hnP:nP<=4294967296:=mP.nb
   clear hM hR hE hB3 mO mP hE2 hs1 HT
   rename World=>wl
   go_wp2
   clear hk hnk hlt
   go_loopw [11,13] (fun o l wr=>∃ (O L:List Int) (AO:Option Addr) (nO cO:Nat) (AL:Option Addr) (nL cL:Nat),o=.slice AO nO cO/\l=.slice AL nL cL/\Rdl wb O L ps AO nO cO AL nL cL AP nP cP wr/\O++reduce cov ps L=reduce cov ps (onceI f)/\nO+nL<=nf) (fun _ l _=>slLen l)
   case atStart=>exact⟨[],onceI f,_,0,0,A,n,c,rfl,rfl,J0,rfl,by omega⟩
   case round =>
    clear J0 hN
    obtain⟨O,L,AO,nO,cO,AL,nL,cL,rfl,rfl,J,hres,hnn⟩:=hrel
    have HR:=Lib.hid hres;clear hres
    by_cases hL:(0:Int)<(nL:Int)
    ·rename World=>wo
     have hL0:0<nL:=by omega
     have hLd:decide (0<nL)=true:=by simp [hL0]
     have hnL:=J.ml.len
     have HNL:=Lib.hid hnL;clear hnL
     go_wp2
     go_loopw [15,16,17] (fun bv mv kv wr=>∃ (k c:Nat) (bz:Int),k<=nP/\bv=.int .i64 bz/\mv=.int .i64 c/\kv=.int .i64 k/\c<=nf/\Hid (BestAt cov L ps k bz c)/\Below wo.heap.size wo wr) (fun _ _ kv _=>nP - (intOf kv).toNat)
     case atStart=>exact⟨0,0,-1,Nat.zero_le _,rfl,rfl,rfl,Nat.zero_le _,⟨rfl,.inl ⟨rfl,rfl⟩⟩,Below.refl _ _⟩
     case round =>
      obtain⟨k,c1,bz,hk,rfl,rfl,rfl,hc1,hbest,hE⟩:=hrel
      have J1:=J.below hE
      have hbe:=J1.be
      by_cases hlt:k<nP
      ·obtain⟨bp,op,p,rfl,hc,hI,hp⟩:=(J1.mp.rs rInt_ok).ati hlt
       have HP:=Lib.hid hp.out;clear hp
       have HSS:Hid (∀ w',Below wr.heap.size wr w'->(w'.rangeAt w.heap.size 0 csm/\w'.cell? ⟨w.heap.size+1,0,none⟩=some (.int .i64 q.fVariableCount)/\w'.cell? ⟨w.heap.size+1,1,none⟩=some (.slice AqAtoms nqAtoms cqAtoms)/\w'.cell? ⟨w.heap.size+1+1,0,none⟩=some (.slice AsBoxLow nsBoxLow csBoxLow)/\w'.cell? ⟨w.heap.size+1+1,1,none⟩=some (.slice AsBoxHigh nsBoxHigh csBoxHigh)/\w'.cell? ⟨w.heap.size+1+1,2,none⟩=some (.slice AsCosts nsCosts csCosts)/\w'.cell? ⟨w.heap.size+1+1,3,none⟩=some (.slice AsChoices nsChoices csChoices)/\w'.cell? ⟨w.heap.size+1+1,4,none⟩=some (.slice AsPlans nsPlans csPlans)/\w'.cell? ⟨bp,op+k,none⟩=some (.int .i64 p))):=by
        show ∀ w',_->_
        intro w' hb
        have hz:=hbe.trans (hb.mono hbe.size)
        exact⟨(bxm.below hz).range,(bxq.below hz) 0 _ rfl,(bxq.below hz) 1 _ rfl,(bxs.below hz) 0 _ rfl,(bxs.below hz) 1 _ rfl,(bxs.below hz) 2 _ rfl,(bxs.below hz) 3 _ rfl,(bxs.below hz) 4 _ rfl,cells_below hb _ _ hc⟩
       go_wp2
       refine hbg HSS.out (Below.refl _ _).drew (fun hHeld=>?_)
       refine' wpAnyH_take (i:=0) (oi:=⟨some 56,_,_,_,_,_⟩) (v:=_) rfl (by kernel_rfl) (by kernel_rfl) (by kernel_rfl) (fun _ _ _ h=>h) (yieldsIf_load_mid (by rfl) _ _ rfl _ _ rfl _ _ (fun w h=>h.1) Tryz.underlying28 rfl (by rw [lenm'];exact sizeModel)) hHeld ?_
       simp only [putS]
       refine tka 1 57 hHeld ?_;simp only [putS]
       refine tka 2 58 hHeld ?_;simp only [putS]
       refine tka 3 59 hHeld ?_;simp only [putS]
       refine tka 4 60 hHeld ?_;simp only [putS]
       refine tka 5 61 hHeld ?_;simp only [putS]
       refine tka 6 62 hHeld ?_;simp only [putS]
       refine tka 7 63 hHeld ?_;simp only [putS]
       refine tka 8 64 hHeld ?_;simp only [putS]
       refine rd 9 (some 65) fun K hK=>?_
       clear hHeld
       go_simp
       refine(K1.out _ _ _ _ _ p (hbe.drew) ((J1.ml.rs rInt_ok).below rInt_ok (Below.refl _ _).drew)).mono ?_
       rintro e w4 ⟨AC,nC,cC,rfl,mC,hb4⟩
       have hC:Below wr.heap.size wr w4:=((Below.refl wr.heap.size wr).drew.trans (hb4.mono (by simp)))
       go_wp2_with fail
       refine hK.out _ _ (HSS.out _ hC) (fun hHeld=>?_)
       clear hK K
       try simp only [putS]
       refine tka 10 66 hHeld ?_;simp only [putS]
       refine tka 11 18 hHeld ?_;simp only [putS]
       refine wpAnyH_done (by kernel_rfl) ?_ _
       clear hHeld
       clear HSS
       have hnC:covN cov L p=nC:=mC.len
       have hE3:=hE.trans (hC.mono hE.size)
       have hcL:nC<=nf:=by
        have h1:nC<=L.length:=by rw [<- hnC];exact List.length_filter_le _ _
        rw [HNL.out]at h1;omega
       by_cases hlt2:(c1:Int)<(nC:Int)
       ·have HB:Hid (BestAt cov L ps (k+1) k nC):=by show BestAt _ _ _ _ _ _;have:=hbest.out.yes HP.out (by rw [hnC];omega);rw [hnC]at this;exact this
        clear hnC
        go_wp2
        go_roundw
        case rel=>exact⟨k+1,nC,k,by omega,rfl,rfl,by go_num,hcL,HB,hE3⟩
        case measure=>simp [intOf];omega
       ·have HB:Hid (BestAt cov L ps (k+1) bz c1):=by show BestAt _ _ _ _ _ _;exact hbest.out.no HP.out (by rw [hnC];omega)
        clear hnC
        go_wp2
        go_roundw
        case rel=>exact⟨k+1,c1,bz,by omega,rfl,rfl,by go_num,hc1,HB,hE3⟩
        case measure=>simp [intOf];omega
      ·have hkP:k=nP:=by omega
       subst hkP
       rcases hbest.out.fin HLen.out with ⟨hbz,hred⟩|⟨j,p,hbz,hp,hred,hlf⟩
       ·subst hbz
        have HE:Hid (O=reduce cov ps (onceI f)):=by show _=_;have:=HR.out;rw [hred,List.append_nil]at this;exact this
        clear hred
        go_wp2
        go_ret
        exact⟨_,_,_,rfl,by rw [HG.out,<- HE.out];exact J1.mo.base hB.size,hB.trans (hbe.mono hB.size)⟩
       ·subst hbz
        have hjn:j<k:=by have:=lt_of_at hp;have:=HLen.out;omega
        obtain⟨bp,op,p',rfl,hc,hI,hp'⟩:=(J1.mp.rs rInt_ok).ati hjn
        obtain rfl:p=p':=by have:=hp'.out;rw [hp]at this;injection this
        have HRed:=Lib.hid hred;clear hred hp hp'
        have HLf:=Lib.hid hlf;clear hlf
        clear hbest
        have HSS:Hid (∀ w',Below wr.heap.size wr w'->(w'.rangeAt w.heap.size 0 csm/\w'.cell? ⟨w.heap.size+1,0,none⟩=some (.int .i64 q.fVariableCount)/\w'.cell? ⟨w.heap.size+1,1,none⟩=some (.slice AqAtoms nqAtoms cqAtoms)/\w'.cell? ⟨w.heap.size+1+1,0,none⟩=some (.slice AsBoxLow nsBoxLow csBoxLow)/\w'.cell? ⟨w.heap.size+1+1,1,none⟩=some (.slice AsBoxHigh nsBoxHigh csBoxHigh)/\w'.cell? ⟨w.heap.size+1+1,2,none⟩=some (.slice AsCosts nsCosts csCosts)/\w'.cell? ⟨w.heap.size+1+1,3,none⟩=some (.slice AsChoices nsChoices csChoices)/\w'.cell? ⟨w.heap.size+1+1,4,none⟩=some (.slice AsPlans nsPlans csPlans)/\w'.cell? ⟨bp,op+j,none⟩=some (.int .i64 p))):=by
         show ∀ w',_->_
         intro w' hb
         have hz:=hbe.trans (hb.mono hbe.size)
         exact⟨(bxm.below hz).range,(bxq.below hz) 0 _ rfl,(bxq.below hz) 1 _ rfl,(bxs.below hz) 0 _ rfl,(bxs.below hz) 1 _ rfl,(bxs.below hz) 2 _ rfl,(bxs.below hz) 3 _ rfl,(bxs.below hz) 4 _ rfl,cells_below hb _ _ hc⟩
        go_wp2
        refine hbg HSS.out (Below.refl _ _).drew (fun hHeld=>?_)
        refine' wpAnyH_take (i:=0) (oi:=⟨some 75,_,_,_,_,_⟩) (v:=_) rfl (by kernel_rfl) (by kernel_rfl) (by kernel_rfl) (fun _ _ _ h=>h) (yieldsIf_load_mid (by rfl) _ _ rfl _ _ rfl _ _ (fun w h=>h.1) Tryz.underlying28 rfl (by rw [lenm'];exact sizeModel)) hHeld ?_
        simp only [putS]
        refine tka 1 76 hHeld ?_;simp only [putS]
        refine tka 2 77 hHeld ?_;simp only [putS]
        refine tka 3 78 hHeld ?_;simp only [putS]
        refine tka 4 79 hHeld ?_;simp only [putS]
        refine tka 5 80 hHeld ?_;simp only [putS]
        refine tka 6 81 hHeld ?_;simp only [putS]
        refine tka 7 82 hHeld ?_;simp only [putS]
        refine tka 8 83 hHeld ?_;simp only [putS]
        refine rd 9 (some 84) fun K hK=>?_
        clear hHeld
        go_simp
        refine(K1.out _ _ _ _ _ p (hbe.drew) ((J1.ml.rs rInt_ok).below rInt_ok (Below.refl _ _).drew)).mono ?_
        rintro e w4 ⟨AC,nC,cC,rfl,mC,hb4⟩
        have hC:Below wr.heap.size wr w4:=((Below.refl wr.heap.size wr).drew.trans (hb4.mono (by simp)))
        go_wp2_with fail
        refine hK.out _ _ (HSS.out _ hC) (fun hHeld=>?_)
        clear hK K
        try simp only [putS]
        refine tka 10 19 hHeld ?_;simp only [putS]
        refine wpAnyH_done (by kernel_rfl) ?_ _
        clear hHeld
        clear HSS
        have J4:=J1.below hC
        replace hc:=cells_below hC _ _ hc
        have hM0:=MS.empty (B:=w4.heap.size) (M:=NB) (e:=3) (r:=rInt) w4 (Nat.le_refl _)
        have hA0:=(Below.refl w4.heap.size w4).alloc (Nat.le_refl _) (.cells #[] 3)
        clear hE J1 hC hbe hb4
        go_wp2
        rename World=>wq
        go_loopw [20,21] (fun nx iv wr=>∃ (i n c:Nat) (A:Option Addr),i<=nL/\n<=i/\iv=.int .i64 i/\nx=.slice A n c/\MS wq.heap.size NB 3 rInt wr A n c ((L.take i).filter (fun x=>!cov p x))/\Below wq.heap.size wq wr) (fun _ iv _=>nL - (intOf iv).toNat)
        case atStart=>exact⟨0,0,0,_,Nat.zero_le _,Nat.le_refl _,rfl,rfl,hM0,hA0⟩
        case round =>
         clear hM0 hA0
         obtain⟨i,n3,c3,A3,hi,hn3,rfl,rfl,hM,hE⟩:=hrel
         have RG:=(mC.rs rInt_ok).below rInt_ok hE
         have RL:=(J4.ml.rs rInt_ok).below rInt_ok hE
         have hnL4:nL<=4294967296:=J4.ml.nb
         by_cases hlt:i<nL
         ·obtain⟨bl,ol,x,rfl,hc2,hI2,hx⟩:=RL.ati hlt
          have HX:=Lib.hid hx.out;clear hx
          cases hv:cov p x
          ·have HV:=Lib.hid (filter_yes (p:=fun x=>!cov p x) HX.out (by simp [hv]))
           have HH:=Lib.hid ((gone_has (cov:=cov) (p:=p) HX.out).trans hv);clear hv
           go_wp2_with (first|(go_at_call 22;refine(l7Has_v HH.out RG).mono ?_;rintro e w' ⟨rfl,hww⟩;replace hww:=hww.symm;subst hww)|(at_builtin;refine wpList_app (r:=rInt) rfl _ _ 32 rfl _ 8 eiInt rInt_ok rfl hM ((Below.refl _ _).alloc (Nat.le_refl _) _) hE.size ⟨_,0,none⟩ rfl [] [.int .i64 x] x ⟨rfl,rfl,hI2⟩ (Fr.nil _) (cell_one_new _ _ _) (by unfold NB at *;omega) (Nat.le_refl _) (by unfold NB at *;omega) ?_;intro A9 k9 w9 hM9 hb9 hg9))
           go_roundw
           case rel=>exact⟨i+1,n3+1,k9,A9,by omega,by omega,by go_num,rfl,by rw [HV.out];exact hM9,(hE.alloc hE.size _).trans hb9⟩
           case measure=>simp [intOf];omega
          ·have HV:=Lib.hid (filter_no (p:=fun x=>!cov p x) HX.out (by simp [hv]))
           have HH:=Lib.hid ((gone_has (cov:=cov) (p:=p) HX.out).trans hv);clear hv
           go_wp2_with (go_at_call 22;refine(l7Has_v HH.out RG).mono ?_;rintro e w' ⟨rfl,hww⟩;replace hww:=hww.symm;subst hww)
           go_roundw
           case rel=>exact⟨i+1,n3,c3,A3,by omega,by omega,by go_num,rfl,by rw [HV.out];exact hM,hE⟩
           case measure=>simp [intOf];omega
         ·have HT:Hid ((L.take i).filter (fun x=>!cov p x)=leftOf cov L p):=by show _=_;rw [take_all HNL.out hlt];rfl
          rw [HT.out]at hM
          have J5:=J4.left hE (Nat.le_refl _) hM
          have hnn3:n3<nL:=by have:=HLf.out;rw [HNL.out,hM.len]at this;exact this
          have hcp:=cells_below hE _ _ hc
          have hbz:=J5.be.size
          clear RG RL
          go_wp2_with (at_builtin;refine wpList_appB (r:=rInt) rfl _ _ 32 rfl _ 8 eiInt rInt_ok rfl J5.mo ((Below.refl _ _).alloc (Nat.le_refl _) _) hbz ⟨_,0,none⟩ rfl [] [.int .i64 p] p ⟨rfl,rfl,hI⟩ (Fr.nil _) (cell_one_new _ _ _) (by unfold NB at *;omega) (Nat.le_refl _) (by unfold NB at *;omega) ?_;intro A9 k9 w9 hM9 hb9 hg9 hA9)
          have hAl:=(Below.refl wr.heap.size wr).alloc (Nat.le_refl _) (.cells #[.int .i64 p] 3)
          have J6:=J5.below hAl
          have J7:=J6.app hM9 hb9 hg9 (Nat.le_refl _) hA9
          go_roundw
          case rel=>exact⟨O++[p],leftOf cov L p,A9,nO+1,k9,A3,n3,c3,rfl,rfl,J7,by rw [List.append_assoc,List.singleton_append,<- HRed.out];exact HR.out,by omega⟩
          case measure=>simp [slLen];omega
    ·have hL0:nL=0:=by omega
     subst hL0
     have hnil:L=[]:=List.eq_nil_of_length_eq_zero J.ml.len
     subst hnil
     have HE:Hid (O=reduce cov ps (onceI f)):=by show _=_;have:=HR.out;rw [reduce_none bestP_nil,List.append_nil]at this;exact this
     go_wp2
     go_ret
     exact⟨_,_,_,rfl,by rw [HG.out,<- HE.out];exact J.mo.base hB.size,hB.trans (J.be.mono hB.size)⟩
end Go.Proofs.YtblbnbfghlkkfaaGreat
namespace Go.Proofs.YtblbnbfghlkkfaaGreat
open Go.RowKit
set_option linter.unusedVariables false
set_option linter.unusedSimpArgs false
theorem iRedFn_c (g:Nat) (A:Option Addr) (n c:Nat) (l:List Int) (x:Int) (w:World) (hc:w.cell? ⟨g,0,none⟩=some (.slice A n c)) (hr:RS NB rInt w A n c l) :
  Calls Tryz.prog 20 #[.int .i64 x,.pointer (some ⟨g,0,none⟩)] w fun e w'=>e=.returned (.bool (hasI l x))/\w'=w:=by
 go_enter Tryz.func20,Tryz.ntmps20
 go_wp2_with (go_at_call 21;refine(slicesContains_q _ _ _ _ _ _ hr).mono ?_;rintro e w' ⟨rfl,rfl⟩)
 go_ret
 exact⟨rfl,rfl⟩
theorem putRow_heap (w:World) (m g:Nat) (l:List Int) (os:Array Obj) (k:Nat) (hk:k≠g) (hl:k<w.heap.size):(Sort.grow (Sort.putRow (Value.int .i64) (Sort.ahead w m) g 0 l.toArray) os).heap[k]?=w.heap[k]?:=by
 rw [Sort.heap_grow_old _ _ (by simp;omega)]
 simp [Sort.putRow,Sort.mapBlock,Array.getElem?_modify]
 intro e;omega
/-- what is in 'most' goes out of the slice; the slice's own block alone is touched -/
theorem iRedDel_c (B B2 gM:Nat) (A AM:Option Addr) (n cap nM cM:Nat) (L ML:List Int) (w:World) (h0:0<n) (hL:MS B NB 3 rInt w A n cap L) (hM:MS B2 NB 3 rInt w AM nM cM ML) (hc:w.cell? ⟨gM,0,none⟩=some (.slice AM nM cM)) (h1:gM∉blk A) (h2:∀ k∈blk AM,k∉blk A) :
  Calls Tryz.prog 19 #[.slice A n cap,.func (.func 20) #[] #[.pointer (some ⟨gM,0,none⟩)]] w fun e w'=>∃ n',e=.returned (.slice A n' cap)/\MS B NB 3 rInt w' A n' cap (L.filter fun x=>!hasI ML x) /\
   (∀ k,k∉blk A->k<w.heap.size->w'.heap[k]?=w.heap[k]?)/\Below B w w':=by
 obtain⟨g,rfl,hg,hB⟩:=hL.form h0
 have hlen:=hL.len
 subst hlen
 have hnb:=hL.nb
 have hcap:L.length<=cap:=(hL.rs rInt_ok).nc
 have hgM:=World.block_lt_of_cell? w _ hc
 simp only [blk,List.mem_singleton]at h1 h2
 have eg:∀ args w,(callFunc 20 args).run Tryz.prog w=.ok (.enter 20 args) w:=enters_of Tryz.func20 (by kernel_rfl) rfl
 have hgive:∀ W,(∀ k,k≠g->k<w.heap.size->W.heap[k]?=w.heap[k]?)->∀ x,FnGives Tryz.prog 20 #[.pointer (some ⟨gM,0,none⟩)] #[Value.int .i64 x] (.bool (hasI ML x)) W:=by
  intro W hW x
  have hM':MS B2 NB 3 rInt W AM nM cM ML:=hM.heapI (fun k hk=>hW k (h2 k hk) (hM.bkI k hk).2)
  have hc':W.cell? ⟨gM,0,none⟩=some (.slice AM nM cM):=by rw [<- hc];unfold World.cell?;rw [hW gM h1 hgM]
  exact(iRedFn_c gM AM nM cM ML x W hc' (hM'.rs rInt_ok)).mono fun e w' ⟨q1,q2⟩=>⟨q1,0,q2⟩
 refine(Tryz.slices_DeleteFunc (Value.int .i64) (fun _=>rfl) (hasI ML) 20 #[.pointer (some ⟨gM,0,none⟩)] eg 0 Tryz.zeroValue3 g 0 cap L.toArray w (fun W x hb=>hgive W (fun k hk hl=>hb.block k hl) x) (fun m os dk x hs=>hgive _ (fun k hk hl=>?_) x) hL.holds (by simp;unfold NB at hnb;omega) (by simpa using hcap)).mono fun e w' ⟨q1,q,q2⟩=>?_
 ·have:=putRow_heap w m g dk.toList os k hk hl
  simpa [sortWorld]using this
 ·have hcl:(L.filter fun x=>!hasI ML x).length<=L.length:=List.length_filter_le _ _
  have h3:=hL.puts (l':=(L.filter fun x=>!hasI ML x)++List.replicate (L.length - (L.filter fun x=>!hasI ML x).length) 0) (by simp;omega) (fun x hx=>by
   rcases List.mem_append.1 hx with hx|hx
   ·exact(hL.rs rInt_ok).rng x (List.mem_filter.1 hx).1
   ·rw [List.eq_of_mem_replicate hx];exact I64_zero) q #[]
  have q3:w'=Sort.putRow (Value.int .i64) (Sort.ahead w q) g 0 ((L.filter fun x=>!hasI ML x)++List.replicate (L.length - (L.filter fun x=>!hasI ML x).length) 0).toArray:=by rw [q2];simp
  rw [Sort.grow_empty,<- q3]at h3
  refine⟨_,by rw [q1],?_,fun k hk hl=>?_,?_⟩
  ·have:=h3.cut (k:=(L.filter fun x=>!hasI ML x).length) hcl
   simpa using this
  ·have:=putRow_heap w q g ((L.filter fun x=>!hasI ML x)++List.replicate (L.length - (L.filter fun x=>!hasI ML x).length) 0) #[] k (by simpa [blk]using hk) hl
   rwa [Sort.grow_empty,<- q3]at this
  ·have:=putRow_below hg hB ((L.filter fun x=>!hasI ML x)++List.replicate (L.length - (L.filter fun x=>!hasI ML x).length) 0) q #[]
   rwa [Sort.grow_empty,<- q3]at this
theorem Rdl.del {wb wr w':World}{O L ps:List Int}{AO:Option Addr}{nO cO:Nat}{AL:Option Addr}{nL cL:Nat}(h:Rdl wb O L [] AO nO cO AL nL cL none 0 0 wr) (hk:∀ k,k∉blk AL->k<wr.heap.size->w'.heap[k]?=wr.heap[k]?) (hb:Below wb.heap.size wr w') {L':List Int}{nL':Nat}(hm:MS wb.heap.size NB 3 rInt w' AL nL' cL L'):Rdl wb O L' [] AO nO cO AL nL' cL none 0 0 w' :=
 ⟨h.mo.heapI (fun k hk'=>hk k (h.d1 k hk') (h.mo.bkI k hk').2),hm,MS.nil _ (Nat.zero_le _),h.d1,fun k _ hk'=>by simp [blk]at hk',h.be.trans hb⟩
/-- the best plan so far, as the program bears it: the plan, and what it covers -/
def BestI (cov:Int->Int->Bool) (L ps:List Int) (k:Nat) (bz:Int) (ML:List Int):Prop:=(bestTo cov L ps k).2=ML.length/\((bestTo cov L ps k).1=none/\bz=-1/\ML=[]\/∃ (j:Nat) (p:Int),(bestTo cov L ps k).1=some j/\ps[j]?=some p/\bz=p/\ML=L.filter (cov p))
theorem BestI.yes {cov:Int->Int->Bool}{L ps:List Int}{k:Nat}{bz:Int}{ML:List Int}{p:Int}(h:BestI cov L ps k bz ML) (hp:ps[k]?=some p) (hc:ML.length<covN cov L p):BestI cov L ps (k+1) p (L.filter (cov p)):=by
 unfold BestI;rw [bestTo_next hp];unfold bestStep;rw [h.1,if_pos hc];exact⟨rfl,.inr ⟨k,p,rfl,hp,rfl,rfl⟩⟩
theorem BestI.no {cov:Int->Int->Bool}{L ps:List Int}{k:Nat}{bz:Int}{ML:List Int}{p:Int}(h:BestI cov L ps k bz ML) (hp:ps[k]?=some p) (hc:¬ ML.length<covN cov L p):BestI cov L ps (k+1) bz ML:=by
 have h2:=h
 unfold BestI at h2 ⊢;rw [bestTo_next hp];unfold bestStep;rw [h.1,if_neg hc];exact h2
theorem BestI.fin {cov:Int->Int->Bool}{L ps:List Int}{n:Nat}{bz:Int}{ML:List Int}(h:BestI cov L ps n bz ML) (hn:ps.length=n) (hpos:∀ p x,cov p x=true->0<=p):(bz=-1/\reduce cov ps L=[])\/0<=bz/\reduce cov ps L=bz::reduce cov ps (leftOf cov L bz)/\(leftOf cov L bz).length<L.length/\(L.filter fun x=>!hasI ML x)=leftOf cov L bz:=by
 subst hn
 rcases h.2 with ⟨h1,h2,_⟩|⟨j,p,h1,hp,rfl,rfl⟩
 ·exact .inl ⟨h2,reduce_none (by unfold bestP;rw [h1])⟩
 ·have hb:bestP cov L ps=some bz:=by unfold bestP;rw [h1];exact hp
  obtain⟨x,_,hx⟩:=bestP_pos hb
  refine .inr ⟨hpos _ _ hx,reduce_some hb,leftOf_lt hb,?_⟩
  unfold leftOf
  refine List.filter_congr fun x hx=>?_
  obtain⟨k,hk,rfl⟩:=List.getElem_of_mem hx
  rw [gone_has (List.getElem?_eq_getElem hk)]
theorem coversL_pos {m:ModelD}{q:QueryD}{s:SpaceD}{k i b:Int}(h:coversL m q s k i b=true):0<=k:=by
 unfold coversL coversX at h
 simp only [Bool.and_eq_true]at h
 exact(inR_t.1 h.2.2.1).1
set_option maxRecDepth 100000 in
set_option maxHeartbeats 1600000 in
theorem iReducePlans_c (csm:List Value) (m:ModelD) (csq:List Value) (q:QueryD) (css:List Value) (s:SpaceD) (Af:Option Addr) (nf cf:Nat) (f:List Int) (b:Int) (w:World) (hm:(rModel NB).rep w csm m) (hq:(rQuery NB).rep w csq q) (hs:(rSpace NB).rep w css s) (hf:RS NB rInt w Af nf cf f) :
  Calls Tryz.prog 6 #[.agg csm.toArray,.agg csq.toArray,.agg css.toArray,.slice Af nf cf,.int .i64 b] w (RetS 3 rInt (reducePlans (fun k x=>coversL m q s k x b) (frontierPlans s f) f) w):=by
 have rm:=hm
 have lenm:=(rModel_ok NB).len hm
 clear hm
 have rq:=hq
 obtain⟨AqAtoms,nqAtoms,cqAtoms,rfl,hqVariableCount,hqAtoms⟩:=rQuery_rep.1 hq
 clear hq
 have rs:=hs
 obtain⟨AsBoxLow,nsBoxLow,csBoxLow,AsBoxHigh,nsBoxHigh,csBoxHigh,AsCosts,nsCosts,csCosts,AsChoices,nsChoices,csChoices,AsPlans,nsPlans,csPlans,rfl,hsBoxLow,hsBoxHigh,hsCosts,hsChoices,hsPlans⟩:=rSpace_rep.1 hs
 clear hs
 have hB:Below w.heap.size w w:=Below.refl _ _
 have hAm:=(Below.refl (World.heap (w)).size (w)).alloc (Nat.le_refl _) (.cells csm.toArray 28)
 replace hB:=hB.trans (hAm.mono hB.size)
 have bxm:=Bx.new (w) csm 28
 clear hAm
 have hAq:=(Below.refl (World.heap ((w).alloc (.cells csm.toArray 28))).size ((w).alloc (.cells csm.toArray 28))).alloc (Nat.le_refl _) (.cells #[.int .i64 q.fVariableCount,.slice AqAtoms nqAtoms cqAtoms] 31)
 replace hB:=hB.trans (hAq.mono hB.size)
 replace bxm:=bxm.below hAq
 have bxq:=Bx.new ((w).alloc (.cells csm.toArray 28)) [.int .i64 q.fVariableCount,.slice AqAtoms nqAtoms cqAtoms] 31
 simp only [World.size_alloc]at bxq
 clear hAq
 have hAs:=(Below.refl (World.heap (((w).alloc (.cells csm.toArray 28)).alloc (.cells #[.int .i64 q.fVariableCount,.slice AqAtoms nqAtoms cqAtoms] 31))).size (((w).alloc (.cells csm.toArray 28)).alloc (.cells #[.int .i64 q.fVariableCount,.slice AqAtoms nqAtoms cqAtoms] 31))).alloc (Nat.le_refl _) (.cells #[.slice AsBoxLow nsBoxLow csBoxLow,.slice AsBoxHigh nsBoxHigh csBoxHigh,.slice AsCosts nsCosts csCosts,.slice AsChoices nsChoices csChoices,.slice AsPlans nsPlans csPlans] 37)
 replace hB:=hB.trans (hAs.mono hB.size)
 replace bxm:=bxm.below hAs
 replace bxq:=bxq.below hAs
 have bxs:=Bx.new (((w).alloc (.cells csm.toArray 28)).alloc (.cells #[.int .i64 q.fVariableCount,.slice AqAtoms nqAtoms cqAtoms] 31)) [.slice AsBoxLow nsBoxLow csBoxLow,.slice AsBoxHigh nsBoxHigh csBoxHigh,.slice AsCosts nsCosts csCosts,.slice AsChoices nsChoices csChoices,.slice AsPlans nsPlans csPlans] 37
 simp only [World.size_alloc]at bxs
 clear hAs
 have lenm':csm.length=30:=lenm
 clear lenm
 have hnf:=hf.bound
 obtain⟨cov,HCov⟩:∃ c,Hid (c=fun k x=>coversL m q s k x b):=⟨_,rfl⟩
 obtain⟨ps,HPs⟩:∃ ps,Hid (frontierPlans s f=ps):=⟨_,rfl⟩
 have HG:Hid (reducePlans (fun k x=>coversL m q s k x b) (frontierPlans s f) f=reduce cov ps (onceI f)):=by show _=_;rw [HPs.out,HCov.out];rfl
 go_enter Tryz.func6,Tryz.ntmps6
 go_upto_region 1 with fail
 obtain⟨wb,hwb⟩:∃ W,W=((w.alloc (.cells csm.toArray 28)).alloc (.cells #[.int .i64 q.fVariableCount,.slice AqAtoms nqAtoms cqAtoms] 31)).alloc (.cells #[.slice AsBoxLow nsBoxLow csBoxLow,.slice AsBoxHigh nsBoxHigh csBoxHigh,.slice AsCosts nsCosts csCosts,.slice AsChoices nsChoices csChoices,.slice AsPlans nsPlans csPlans] 37):=⟨_,rfl⟩
 rw [<- hwb]at hB bxm bxq bxs ⊢
 clear hwb
 have K1:Hid (∀ W (A:Option Addr) (n c:Nat) (L:List Int) (p:Int),Below wb.heap.size wb W->RS NB rInt W A n c L->Calls Tryz.prog 11 #[.agg csm.toArray,.agg #[.int .i64 q.fVariableCount,.slice AqAtoms nqAtoms cqAtoms],.agg #[.slice AsBoxLow nsBoxLow csBoxLow,.slice AsBoxHigh nsBoxHigh csBoxHigh,.slice AsCosts nsCosts csCosts,.slice AsChoices nsChoices csChoices,.slice AsPlans nsPlans csPlans],.int .i64 p,.slice A n c,.int .i64 b] W (RetS 3 rInt (L.filter (cov p)) W)):=by
  show ∀ W A n c L p,_->_->_
  intro W A n c L p hW hR
  have hX:=hB.trans (hW.mono hB.size)
  have C:=iCoveredBy_c _ m _ q _ s p A n c L b W ((rModel_ok NB).keep rm (cells_below hX)) ((rQuery_ok NB).keep rq (cells_below hX)) ((rSpace_ok NB).keep rs (cells_below hX)) hR
  rw [HCov.out]
  exact C
 have HPos:Hid (∀ p x,cov p x=true->0<=p):=by show ∀ p x,_;intro p x;rw [HCov.out];exact coversL_pos
 have HGI:Hid (reduce cov ps (compactI (sortI f))=reduce cov ps (onceI f)):=by show _=_;exact reduce_perm (onceI_perm f)
 go_wp2_with fail
 refine(iCopyInts_c _ _ _ f _ (hf.below rInt_ok hB)).mono ?_
 rintro e w1 ⟨AL,nL0,cL,rfl,mL,hb1⟩
 go_wp2_with fail
 refine(sortInts_c mL).mono ?_
 rintro e w2 ⟨rfl,mL2,hb2⟩
 go_wp2_with fail
 refine(compactInts_c mL2).mono ?_
 rintro e w3 ⟨rfl,mL3,hb3⟩
 have hE3:=(hb1.trans hb2).trans hb3
 have hN0:(compactI (sortI f)).length<=nf:=by have:=compactI_len (sortI f);have:=(sortI_perm f).length_eq;have:=hf.len;omega
 clear hb1 hb2 hb3 mL mL2
 have hM0:=MS.empty (B:=w3.heap.size) (M:=NB) (e:=3) (r:=rInt) w3 (Nat.le_refl _)
 have hA0:=(Below.refl w3.heap.size w3).alloc (Nat.le_refl _) (.cells #[] 3)
 have J0:Rdl wb [] (compactI (sortI f)) [] (some ⟨w3.heap.size,0,none⟩) 0 0 AL (compactI (sortI f)).length cL none 0 0 (w3.alloc (.cells #[] 3)) :=
  ⟨hM0.base hE3.size,mL3.below rInt_ok hA0,MS.nil _ (Nat.zero_le _),fun k hk hk'=>by simp [blk]at hk;have:=(mL3.bkI k hk').2;omega,fun k _ hk'=>by simp [blk]at hk',hE3.trans (hA0.mono hE3.size)⟩
 clear hM0 hA0 mL3 hE3
 go_wp2
 go_loopw [11,12] (fun l o wr=>∃ (O L:List Int) (AO:Option Addr) (nO cO nL:Nat),o=.slice AO nO cO/\l=.slice AL nL cL/\Rdl wb O L [] AO nO cO AL nL cL none 0 0 wr/\O++reduce cov ps L=reduce cov ps (onceI f)/\nO+nL<=nf) (fun l _ _=>slLen l)
 case atStart=>exact⟨[],compactI (sortI f),_,0,0,_,rfl,rfl,J0,HGI.out,by omega⟩
 case round =>
  clear J0 hN0
  obtain⟨O,L,AO,nO,cO,nL,rfl,rfl,J,hres,hnn⟩:=hrel
  have HR:=Lib.hid hres;clear hres
  by_cases hL:(0:Int)<(nL:Int)
  ·rename World=>wo
   have hL0:0<nL:=by omega
   have hLd:decide (0<nL)=true:=by simp [hL0]
   have HNL:=Lib.hid J.ml.len
   obtain⟨wx,hwx⟩:∃ W,W=(wo.alloc (.cells #[] 3)).alloc (.cells #[.slice (some ⟨wo.heap.size,0,none⟩) 0 0] 32):=⟨_,rfl⟩
   have hAx:Below wo.heap.size wo wx:=by rw [hwx];exact((Below.refl wo.heap.size wo).alloc (Nat.le_refl _) _).alloc (by simp) _
   have kM:Bk wx (wo.heap.size+1) 32 [.slice (some ⟨wo.heap.size,0,none⟩) 0 0]:=by rw [hwx];have:=Bk.new (wo.alloc (.cells #[] 3)) [.slice (some ⟨wo.heap.size,0,none⟩) 0 0] 32;simpa using this
   have mM:MS wo.heap.size NB 3 rInt wx (some ⟨wo.heap.size,0,none⟩) 0 0 []:=by rw [hwx];exact(MS.empty (B:=wo.heap.size) wo (Nat.le_refl _)).below rInt_ok ((Below.refl _ _).alloc (Nat.le_refl _) _)
   have hsx:wx.heap.size=wo.heap.size+1+1:=by rw [hwx];simp
   have Jx:=J.below hAx
   have HWO:Hid (wb.heap.size<=wo.heap.size):=J.be.size
   have hbe:=Jx.be
   have hBx:=hB.trans (hbe.mono hB.size)
   go_upto_region 7 with fail
   rw [<- hwx]
   clear hwx
   have ks_0:=bxs.below hbe 0 _ rfl
   have ks_1:=bxs.below hbe 1 _ rfl
   have ks_2:=bxs.below hbe 2 _ rfl
   have ks_3:=bxs.below hbe 3 _ rfl
   have ks_4:=bxs.below hbe 4 _ rfl
   go_wp2_with fail
   have C:=iFrontierPlans_c _ s _ _ _ f _ ((rSpace_ok NB).keep rs (cells_below hBx)) (hf.below rInt_ok hBx)
   rw [HPs.out]at C
   refine C.mono ?_
   clear C
   rintro e w5 ⟨AP,nP,cP,rfl,mP,hb5⟩
   clear ks_0 ks_1 ks_2 ks_3 ks_4 hBx
   have J5:=Jx.below hb5
   replace kM:=kM.below hb5
   replace mM:=mM.below rInt_ok hb5
   have HLen:=Lib.hid mP.len
   have hnP:nP<=4294967296:=mP.nb
   have hz5:=hb5.size
   have HPB:Hid (∀ k∈blk AP,wo.heap.size+1<k):=by show ∀ k∈blk AP,_;exact fun k hk=>by have:=(mP.bkI k hk).1;omega
   have HLB:Hid (∀ k∈blk AL,k<wo.heap.size):=by show ∀ k∈blk AL,_;exact fun k hk=>(J.ml.bkI k hk).2
   have HOB:Hid (∀ k∈blk AO,k<wo.heap.size):=by show ∀ k∈blk AO,_;exact fun k hk=>(J.mo.bkI k hk).2
   have mP':=mP.base (B':=wb.heap.size) (by have:=J.be.size;omega)
   clear Jx hAx hbe hb5 mP
   go_wp2
   go_loopw [13,33] (fun bv kv wr=>∃ (k:Nat) (bz:Int) (AM:Option Addr) (nM cM:Nat) (ML:List Int),k<=nP/\bv=.int .i64 bz/\kv=.int .i64 k/\I64 bz/\Hid (BestI cov L ps k bz ML)/\Bk wr (wo.heap.size+1) 32 [.slice AM nM cM]/\MS wo.heap.size NB 3 rInt wr AM nM cM ML/\(∀ k∈blk AM,k≠wo.heap.size+1)/\MS wb.heap.size NB 3 rInt wr AP nP cP ps/\Rdl wb O L [] AO nO cO AL nL cL none 0 0 wr/\wo.heap.size+1<wr.heap.size) (fun _ kv _=>nP - (intOf kv).toNat)
   case atStart=>exact⟨0,-1,_,0,0,[],Nat.zero_le _,rfl,rfl,by unfold I64;omega,⟨rfl,.inl ⟨rfl,rfl,rfl⟩⟩,kM,mM,by intro k hk;simp [blk]at hk;omega,mP',J5,by omega⟩
   case round =>
    clear kM mM mP' J5 J
    obtain⟨k,bz,AM,nM,cM,ML,hk,rfl,rfl,hbI,hbest,kM,mM,hMg,mP,J,hgz⟩:=hrel
    have HMG:=Lib.hid hMg;clear hMg
    have hbe:=J.be
    have hB2:=hB.trans (hbe.mono hB.size)
    by_cases hlt:k<nP
    ·obtain⟨bp,op,p,rfl,hc,hI,hp⟩:=(mP.rs rInt_ok).ati hlt
     have HP:=Lib.hid hp.out;clear hp
     have kq_0:=bxq.below hbe 0 _ rfl
     have kq_1:=bxq.below hbe 1 _ rfl
     have ks_0:=bxs.below hbe 0 _ rfl
     have ks_1:=bxs.below hbe 1 _ rfl
     have ks_2:=bxs.below hbe 2 _ rfl
     have ks_3:=bxs.below hbe 3 _ rfl
     have ks_4:=bxs.below hbe 4 _ rfl
     go_wp2_with (refine wpList_load_mid rfl 28 _ rfl w.heap.size 0 rfl csm _ (bxm.below hbe).range Tryz.underlying28 rfl (by rw [lenm'];exact sizeModel) ?_)
     refine(K1.out _ _ _ _ _ p hbe (J.ml.rs rInt_ok)).mono ?_
     rintro e w7 ⟨AC,nC,cC,rfl,mC,hb7⟩
     clear kq_0 kq_1 ks_0 ks_1 ks_2 ks_3 ks_4 hc hB2
     have J7:=J.below hb7
     replace kM:=kM.below hb7
     replace mM:=mM.below rInt_ok hb7
     replace mP:=mP.below rInt_ok hb7
     have hz7:=hb7.size
     have hnC:covN cov L p=nC:=mC.len
     have hnM:=mM.len
     have HNM:=Lib.hid hnM;clear hnM
     have HCM:Hid (∀ k∈blk AC,wo.heap.size+1<k):=by show ∀ k∈blk AC,_;exact fun k hk=>by have:=(mC.bkI k hk).1;omega
     have cM0:=kM.bx 0 _ rfl
     have fM0:=kM.frozen 0
     by_cases hlt2:(nM:Int)<(nC:Int)
     ·have HB:Hid (BestI cov L ps (k+1) p (L.filter (cov p))):=by show BestI _ _ _ _ _ _;exact hbest.out.yes HP.out (by rw [hnC,HNM.out];omega)
      clear hnC
      go_wp2
      have hs9:∀ k,k≠wo.heap.size+1->(w7.setCell ⟨wo.heap.size+1,0,none⟩ (.slice AC nC cC)).heap[k]?=w7.heap[k]?:=fun k hk=>heap_setCell_other _ ⟨wo.heap.size+1,0,none⟩ k _ (fun e=>hk e)
      have k9:=kM.set 0 (.slice AC nC cC)
      have J9:Rdl wb O L [] AO nO cO AL nL cL none 0 0 (w7.setCell ⟨wo.heap.size+1,0,none⟩ (.slice AC nC cC)) :=
       ⟨J7.mo.heapI (fun k hk=>hs9 k (by have:=HOB.out k hk;omega)),J7.ml.heapI (fun k hk=>hs9 k (by have:=HLB.out k hk;omega)),MS.nil _ (Nat.zero_le _),J7.d1,J7.d2,J7.be.setCell (p:=⟨wo.heap.size+1,0,none⟩) (Nat.le_succ_of_le HWO.out) _⟩
      go_roundw
      case rel=>exact⟨k+1,p,AC,nC,cC,_,by omega,rfl,by go_num,hI,HB,k9,(mC.heapI (fun k hk=>hs9 k (by have:=HCM.out k hk;omega))).base (by omega),fun k hk=>by have:=HCM.out k hk;omega,mP.heapI (fun k hk=>hs9 k (by have:=HPB.out k hk;omega)),J9,by simp;omega⟩
      case measure=>simp [intOf];omega
     ·have HB:Hid (BestI cov L ps (k+1) bz ML):=by show BestI _ _ _ _ _ _;exact hbest.out.no HP.out (by rw [hnC,HNM.out];omega)
      clear hnC
      go_wp2
      go_roundw
      case rel=>exact⟨k+1,bz,AM,nM,cM,ML,by omega,rfl,by go_num,hbI,HB,kM,mM,HMG.out,mP,J7,by omega⟩
      case measure=>simp [intOf];omega
    ·have hkP:k=nP:=by omega
     subst hkP
     rcases hbest.out.fin HLen.out HPos.out with ⟨hbz,hred⟩|⟨hbz,hred,hlf,hfl⟩
     ·subst hbz
      have HE:Hid (O=reduce cov ps (onceI f)):=by show _=_;have:=HR.out;rw [hred,List.append_nil]at this;exact this
      clear hred
      go_wp2
      go_ret
      exact⟨_,_,_,rfl,by rw [HG.out,<- HE.out];exact J.mo.base hB.size,hB2⟩
     ·have HRed:=Lib.hid hred;clear hred
      have HLf:=Lib.hid hlf;clear hlf
      have HFl:=Lib.hid hfl;clear hfl
      have hbez:=hbe.size
      have hnOf:nO<=nf:=by omega
      go_wp2_with (at_builtin;refine wpList_appB (r:=rInt) rfl _ _ 32 rfl _ 8 eiInt rInt_ok rfl J.mo ((Below.refl _ _).alloc (Nat.le_refl _) _) hbez ⟨_,0,none⟩ rfl [] [.int .i64 bz] bz ⟨rfl,rfl,hbI⟩ (Fr.nil _) (cell_one_new _ _ _) (by unfold NB at *;omega) (Nat.le_refl _) (by unfold NB at *;omega) ?_;intro A9 k9 w9 hM9 hb9 hg9 hA9)
      have hAl:=(Below.refl wr.heap.size wr).alloc (Nat.le_refl _) (.cells #[.int .i64 bz] 3)
      have J6:=J.below hAl
      have J7:=J6.app hM9 hb9 hg9 (Nat.le_refl _) hA9
      have hMO:∀ k∈blk AM,k∉blk AO:=fun k hk hk'=>by have:=(mM.bkI k hk).1;have:=HOB.out k hk';omega
      have mM9:MS wo.heap.size NB 3 rInt w9 AM nM cM ML:=(mM.below rInt_ok hAl).heapI (fun k hk=>hg9.block k ((mM.below rInt_ok hAl).bkI k hk).2 (fun e=>hMO k hk (mem_blk.2 e.symm)))
      have kM9:Bk w9 (wo.heap.size+1) 32 [.slice AM nM cM]:=(hg9.block _ (kM.below hAl).lt (fun e=>by have:=HOB.out _ (mem_blk.2 e.symm);omega)).trans (kM.below hAl)
      clear hM9 hb9 hA9 hAl J6 J
      go_wp2_with fail
      refine(iRedDel_c wb.heap.size wo.heap.size (wo.heap.size+1) AL AM nL cL nM cM L ML w9 hL0 J7.ml mM9 (kM9.bx 0 _ rfl) (fun h=>by have:=HLB.out _ h;omega) (fun k hk hk'=>by have:=(mM9.bkI k hk).1;have:=HLB.out k hk';omega)).mono ?_
      rintro e w10 ⟨n',rfl,mL',hk10,hb10⟩
      rw [HFl.out]at mL'
      have J10:=J7.del (ps:=ps) hk10 hb10 mL'
      have hnn3:n'<nL:=by have:=HLf.out;rw [HNL.out,mL'.len]at this;exact this
      clear mM9 kM9 mM kM mP hk10 hb10 J7 hg9
      go_wp2
      go_roundw
      case rel=>exact⟨O++[bz],leftOf cov L bz,A9,nO+1,k9,n',rfl,rfl,J10,by rw [List.append_assoc,List.singleton_append,<- HRed.out];exact HR.out,by omega⟩
      case measure=>simp [slLen];omega
  ·have hL0:nL=0:=by omega
   subst hL0
   have hnil:L=[]:=List.eq_nil_of_length_eq_zero J.ml.len
   subst hnil
   have HE:Hid (O=reduce cov ps (onceI f)):=by show _=_;have:=HR.out;rw [reduce_none bestP_nil,List.append_nil]at this;exact this
   go_wp2
   go_ret
   exact⟨_,_,_,rfl,by rw [HG.out,<- HE.out];exact J.mo.base hB.size,hB.trans (J.be.mono hB.size)⟩
end Go.Proofs.YtblbnbfghlkkfaaGreat
namespace Go.Proofs.YtblbnbfghlkkfaaGreat
open Go.RowKit
set_option linter.unusedVariables false
set_option linter.unusedSimpArgs false
/-- all locations are covered by one of the plans -/
def coverA (cov:Int->Int->Bool) (ps f:List Int):Bool:=f.all fun x=>ps.any fun p=>cov p x
theorem bestP_mem {cov:Int->Int->Bool}{left ps:List Int}{p:Int}(h:bestP cov left ps=some p):p∈ps:=by
 unfold bestP at h
 split at h
 ·exact mem_of_at h
 ·cases h
theorem bestTo_pos {cov:Int->Int->Bool}{left ps:List Int}{n k:Nat}{p:Int}(hk:k<n) (hp:ps[k]?=some p) (hc:0<covN cov left p):∃ j,(bestTo cov left ps n).1=some j:=by
 induction n with
 | zero=>omega
 | succ n ih =>
  rcases Nat.lt_succ_iff_lt_or_eq.1 hk with h|h
  ·obtain⟨j,hj⟩:=ih h
   cases hq:ps[n]? with
   | none=>exact⟨j,by simp only [bestTo,hq];exact hj⟩
   | some q =>
    rw [bestTo_next hq];unfold bestStep
    split
    ·exact⟨_,rfl⟩
    ·exact⟨j,hj⟩
  ·subst h
   rw [bestTo_next hp];unfold bestStep
   split
   ·exact⟨_,rfl⟩
   ·rename_i hn
    have h2:0<(bestTo cov left ps k).2:=by omega
    cases hb:(bestTo cov left ps k).1 with
    | none=>have:=(bestTo_ok (cov:=cov) (left:=left) (ps:=ps) k).2 hb;omega
    | some j=>exact⟨j,rfl⟩
theorem bestP_some {cov:Int->Int->Bool}{left ps:List Int}{p x:Int}(hp:p∈ps) (hx:x∈left) (hc:cov p x=true):∃ r,bestP cov left ps=some r:=by
 obtain⟨k,hk⟩:=List.getElem?_of_mem hp
 have h0:0<covN cov left p:=List.length_pos_of_mem (List.mem_filter.2 ⟨hx,hc⟩)
 obtain⟨j,hj⟩:=bestTo_pos (cov:=cov) (left:=left) (lt_of_at hk) hk h0
 obtain⟨r,hr,_⟩:=(bestTo_ok (cov:=cov) (left:=left) (ps:=ps) ps.length).1 j hj
 exact⟨r,by unfold bestP;rw [hj];exact hr⟩
theorem reduce_all {cov:Int->Int->Bool}{ps:List Int}:∀ (n:Nat) (left:List Int),left.length<=n ->
  (∀ p∈reduce cov ps left,p∈ps/\∃ x∈left,cov p x=true)/\(reduce cov ps left).Nodup/\(coverA cov ps left=true->coverA cov (reduce cov ps left) left=true):=by
 intro n
 induction n with
 | zero =>
  intro left h
  have e:left=[]:=List.eq_nil_of_length_eq_zero (by omega)
  subst e
  rw [reduce_none bestP_nil]
  exact⟨fun p hp=>(by cases hp),List.nodup_nil,fun _=>rfl⟩
 | succ n ih =>
  intro left h
  cases hb:bestP cov left ps with
  | none =>
   rw [reduce_none hb]
   refine⟨fun p hp=>(by cases hp),List.nodup_nil,fun hc=>?_⟩
   cases left with
   | nil=>rfl
   | cons x xs =>
    exfalso
    unfold coverA at hc
    rw [List.all_cons,Bool.and_eq_true,List.any_eq_true]at hc
    obtain⟨⟨p,hp,hx⟩,_⟩:=hc
    obtain⟨r,hr⟩:=bestP_some (cov:=cov) hp (List.mem_cons_self (a:=x) (l:=xs)) hx
    rw [hb]at hr;cases hr
  | some p =>
   have hlt:=leftOf_lt hb
   obtain⟨i1,i2,i3⟩:=ih (leftOf cov left p) (by omega)
   rw [reduce_some hb]
   have hsub:∀ x∈leftOf cov left p,x∈left/\cov p x=false:=fun x hx=>by
    unfold leftOf at hx
    rw [List.mem_filter]at hx
    exact⟨hx.1,by simpa using hx.2⟩
   refine⟨fun r hr=>?_,List.nodup_cons.2 ⟨fun hm=>?_,i2⟩,fun hc=>?_⟩
   ·rcases List.mem_cons.1 hr with rfl|hr
    ·exact⟨bestP_mem hb,bestP_pos hb⟩
    ·obtain⟨h1,x,h2,h3⟩:=i1 r hr
     exact⟨h1,x,(hsub x h2).1,h3⟩
   ·obtain⟨_,x,h2,h3⟩:=i1 p hm
    rw [(hsub x h2).2]at h3;cases h3
   ·have hc2:coverA cov ps (leftOf cov left p)=true:=by
     unfold coverA at hc ⊢
     rw [List.all_eq_true]at hc ⊢
     exact fun x hx=>hc x (hsub x hx).1
    have h3:=i3 hc2
    unfold coverA at h3 ⊢
    rw [List.all_eq_true]at h3 ⊢
    intro x hx
    rw [List.any_cons,Bool.or_eq_true]
    cases hp:cov p x with
    | true=>exact .inl rfl
    | false=>exact .inr (h3 x (by unfold leftOf;rw [List.mem_filter];exact⟨hx,by simp [hp]⟩))
theorem once_mem (l:List Int) (x:Int):x∈onceI l↔x∈l:=by
 have:=(onceI_ok l l.length (Nat.le_refl _)).2.1 x
 rwa [List.take_length]at this
theorem cover_once {cov:Int->Int->Bool}{ps f:List Int}:coverA cov ps (onceI f)=coverA cov ps f:=by
 unfold coverA
 rw [Bool.eq_iff_iff,List.all_eq_true,List.all_eq_true]
 exact⟨fun h x hx=>h x ((once_mem f x).2 hx),fun h x hx=>h x ((once_mem f x).1 hx)⟩
/-- the law, plainly -/
theorem reduction_law {cov:Int->Int->Bool}{ps f:List Int} :
  (∀ p∈reducePlans cov ps f,p∈ps/\(f.filter (cov p)).length≠0)/\(reducePlans cov ps f).length<=ps.length/\(coverA cov ps f=true->coverA cov (reducePlans cov ps f) f=true):=by
 obtain⟨h1,h2,h3⟩:=reduce_all (cov:=cov) (ps:=ps) _ (onceI f) (Nat.le_refl _)
 refine⟨fun p hp=>?_,?_,fun hc=>?_⟩
 ·obtain⟨a,x,b,c⟩:=h1 p hp
  refine⟨a,fun e=>?_⟩
  have:x∈f.filter (cov p):=List.mem_filter.2 ⟨(once_mem f x).1 b,c⟩
  rw [List.eq_nil_of_length_eq_zero e]at this;cases this
 ·exact List.Nodup.length_le_of_subset h2 (fun p hp=>(h1 p hp).1)
 ·rw [<- cover_once]at hc ⊢
  exact h3 hc
end Go.Proofs.YtblbnbfghlkkfaaGreat
