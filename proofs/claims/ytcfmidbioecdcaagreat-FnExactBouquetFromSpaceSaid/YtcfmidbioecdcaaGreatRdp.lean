/-
  Rdp
-/
import Derived.Test.YtcfmidbioecdcaaGreatStrP
import Derived.Test.YtcfmidbioecdcaaGreatKeep
import Derived.Test.YtcfmidbioecdcaaGreatCvb
import Derived.Test.YtcfmidbioecdcaaGreatFront
import Derived.Test.YtcfmidbioecdcaaGreatCopy
namespace Go.Proofs.YtcfmidbioecdcaaGreat
open Go.RowKit
set_option linter.unusedVariables false
set_option linter.unusedSimpArgs false

/-- how many a plan covers -/
def covN (cov:Int->Int->Bool) (left:List Int) (p:Int):Nat:=(left.filter (cov p)).length
/-- one plan more is looked at -/
def bestStep (cov:Int->Int->Bool) (left:List Int) (b:Option Nat × Nat) (k:Nat) (p:Int):Option Nat × Nat:=if b.2<covN cov left p then (some k,covN cov left p) else b
/-- the first plan (its place) that covers most, among the first n -/
def bestTo (cov:Int->Int->Bool) (left ps:List Int):Nat->Option Nat × Nat
 | 0=>(none,0)
 | k+1=>match ps[k]? with|some p=>bestStep cov left (bestTo cov left ps k) k p|none=>bestTo cov left ps k
theorem bestTo_next {cov:Int->Int->Bool}{left ps:List Int}{k:Nat}{p:Int}(h:ps[k]?=some p):bestTo cov left ps (k+1)=bestStep cov left (bestTo cov left ps k) k p:=by simp [bestTo,h]
theorem bestTo_ok {cov:Int->Int->Bool}{left ps:List Int}(n:Nat):(∀ k,(bestTo cov left ps n).1=some k->∃ p,ps[k]?=some p/\covN cov left p=(bestTo cov left ps n).2/\0<(bestTo cov left ps n).2)/\((bestTo cov left ps n).1=none->(bestTo cov left ps n).2=0):=by
 induction n with
 | zero=>simp [bestTo]
 | succ n ih =>
  cases h:ps[n]? with
  | none=>simp only [bestTo,h];exact ih
  | some p =>
   rw [bestTo_next h]
   unfold bestStep
   split
   ·refine⟨fun k hk=>?_,fun h=>by cases h⟩
    simp only at hk ⊢
    injection hk with hk;subst hk
    exact⟨p,h,rfl,by omega⟩
   ·exact ih
theorem covN_perm {cov:Int->Int->Bool}{l l':List Int}(h:l.Perm l') (p:Int):covN cov l p=covN cov l' p:=(h.filter _).length_eq
theorem bestTo_perm {cov:Int->Int->Bool}{l l' ps:List Int}(h:l.Perm l') (n:Nat):bestTo cov l ps n=bestTo cov l' ps n:=by
 induction n with
 | zero=>rfl
 | succ n ih =>
  cases hp:ps[n]? with
  | none=>simp only [bestTo,hp];exact ih
  | some p=>rw [bestTo_next hp,bestTo_next hp];unfold bestStep;rw [ih,covN_perm h p]
/-- the plan that is chosen -/
def bestP (cov:Int->Int->Bool) (left ps:List Int):Option Int:=match (bestTo cov left ps ps.length).1 with|some k=>ps[k]?|none=>none
theorem bestP_pos {cov:Int->Int->Bool}{left ps:List Int}{p:Int}(h:bestP cov left ps=some p):∃ x∈left,cov p x=true:=by
 unfold bestP at h
 cases hk:(bestTo cov left ps ps.length).1 with
 | none=>rw [hk]at h;cases h
 | some k =>
  rw [hk]at h
  obtain⟨p',h1,h2,h3⟩:=(bestTo_ok (cov:=cov) (left:=left) (ps:=ps) ps.length).1 k hk
  simp only at h
  rw [h]at h1;injection h1 with h1;subst h1
  rw [<- h2]at h3
  obtain⟨x,hx⟩:=List.exists_mem_of_length_pos h3
  rw [List.mem_filter]at hx
  exact⟨x,hx⟩
def leftOf (cov:Int->Int->Bool) (left:List Int) (p:Int):List Int:=left.filter fun x=>!cov p x
theorem leftOf_lt {cov:Int->Int->Bool}{left ps:List Int}{p:Int}(h:bestP cov left ps=some p):(leftOf cov left p).length<left.length:=by
 obtain⟨x,h1,h2⟩:=bestP_pos h
 unfold leftOf
 rcases Nat.lt_or_ge (left.filter fun x=>!cov p x).length left.length with h3|h3
 ·exact h3
 ·exfalso
  have h4:=List.length_filter_eq_length_iff.1 (Nat.le_antisymm (List.length_filter_le _ _) h3)
  have:=h4 x h1
  simp [h2]at this
def reduceF (cov:Int->Int->Bool) (ps:List Int):Nat->List Int->List Int
 | 0,_=>[]
 | f+1,left=>match bestP cov left ps with|some p=>p::reduceF cov ps f (leftOf cov left p)|none=>[]
theorem reduceF_more {cov:Int->Int->Bool}{ps:List Int}(f g:Nat) {left:List Int}(h1:left.length<f) (h2:left.length<g):reduceF cov ps f left=reduceF cov ps g left:=by
 induction f generalizing left g with
 | zero=>omega
 | succ f ih =>
  cases g with
  | zero=>omega
  | succ g =>
   unfold reduceF
   cases hb:bestP cov left ps with
   | none=>rfl
   | some p =>
    have:=leftOf_lt hb
    simp only
    rw [ih g (by omega) (by omega)]
/-- the plans chosen -/
def reduce (cov:Int->Int->Bool) (ps left:List Int):List Int:=reduceF cov ps (left.length+1) left
theorem reduce_none {cov:Int->Int->Bool}{ps left:List Int}(h:bestP cov left ps=none):reduce cov ps left=[]:=by unfold reduce reduceF;rw [h]
theorem reduce_some {cov:Int->Int->Bool}{ps left:List Int}{p:Int}(h:bestP cov left ps=some p):reduce cov ps left=p::reduce cov ps (leftOf cov left p):=by
 have:=leftOf_lt h
 have e:reduce cov ps left=p::reduceF cov ps left.length (leftOf cov left p):=by unfold reduce;rw [reduceF,h]
 rw [e];unfold reduce
 rw [reduceF_more left.length ((leftOf cov left p).length+1) (by omega) (by omega)]
theorem bestP_nil {cov:Int->Int->Bool}{ps:List Int}:bestP cov [] ps=none:=by
 cases h:bestP cov [] ps with
 | none=>rfl
 | some p=>obtain⟨x,hx,_⟩:=bestP_pos h;cases hx
theorem bestP_perm {cov:Int->Int->Bool}{l l' ps:List Int}(h:l.Perm l'):bestP cov l ps=bestP cov l' ps:=by unfold bestP;rw [bestTo_perm h]
theorem reduce_perm {cov:Int->Int->Bool}{ps l l':List Int}(h:l.Perm l'):reduce cov ps l=reduce cov ps l':=by
 obtain⟨n,hn⟩:∃ n,l.length<=n:=⟨_,Nat.le_refl _⟩
 induction n generalizing l l' with
 | zero =>
  have e:l=[]:=List.eq_nil_of_length_eq_zero (by omega)
  subst e
  rw [List.nil_perm.1 h]
 | succ n ih =>
  have hb:=bestP_perm (cov:=cov) (ps:=ps) h
  cases hp:bestP cov l ps with
  | none=>rw [reduce_none hp,reduce_none (hb▸hp)]
  | some p =>
   have hp':bestP cov l' ps=some p:=hb▸hp
   rw [reduce_some hp,reduce_some hp']
   have:=leftOf_lt hp
   have e:=ih (l:=leftOf cov l p) (l':=leftOf cov l' p) (h.filter _) (by omega)
   rw [e]
/-- each number once, in the order of coming -/
def onceI (l:List Int):List Int:=l.foldl (fun a x=>if hasI a x then a else a++[x]) []
theorem onceI_take {l:List Int}{k:Nat}{x:Int}(h:l[k]?=some x):onceI (l.take (k+1))=if hasI (onceI (l.take k)) x then onceI (l.take k) else onceI (l.take k)++[x]:=by
 unfold onceI;rw [take_snoc h,List.foldl_append];rfl
theorem onceI_ok (l:List Int) (k:Nat) (hk:k<=l.length):(onceI (l.take k)).Nodup/\(∀ x,x∈onceI (l.take k)↔x∈l.take k)/\(onceI (l.take k)).length<=k:=by
 induction k with
 | zero=>simp [onceI]
 | succ k ih =>
  obtain⟨h1,h2,h3⟩:=ih (by omega)
  have hx:l[k]?=some (l[k]'(by omega)):=List.getElem?_eq_getElem (by omega)
  rw [onceI_take hx,take_snoc hx]
  split
  ·rename_i hm
   have hm:l[k]'(by omega)∈onceI (l.take k):=by simpa [hasI]using hm
   refine⟨h1,fun x=>?_,by omega⟩
   rw [h2,List.mem_append,List.mem_singleton]
   constructor
   ·exact .inl
   ·rintro(h|rfl)
    ·exact h
    ·exact(h2 _).1 hm
  ·rename_i hm
   have hm:¬ l[k]'(by omega)∈onceI (l.take k):=by simpa [hasI]using hm
   refine⟨List.nodup_append.2 ⟨h1,by simp,fun a ha b hb e=>by rw [List.mem_singleton]at hb;subst hb;subst e;exact hm ha⟩,fun x=>by rw [List.mem_append,List.mem_append,h2],by simp;omega⟩
theorem onceI_perm (l:List Int):(compactI (sortI l)).Perm (onceI l):=by
 obtain⟨h1,h2,_⟩:=onceI_ok l l.length (Nat.le_refl _)
 rw [List.take_length]at h1 h2
 have nd:(compactI (sortI l)).Nodup:=(compactI_pw (sortI_pw l)).imp (fun h=>by omega)
 refine(List.perm_ext_iff_of_nodup nd h1).2 fun x=>?_
 rw [compactI_mem,(sortI_perm l).mem_iff,h2]
/-- what the program hands back -/
def reducePlans (cov:Int->Int->Bool) (ps f:List Int):List Int:=reduce cov ps (onceI f)
open Go.RowKit
set_option linter.unusedVariables false
set_option linter.unusedSimpArgs false
def slLen:Value->Nat|.slice _ n _=>n|_=>0
theorem MS.bkI {B M:Nat}{e:TypeId}{w:World}{A:Option Addr}{n cap:Nat}{l:List Int}(h:MS B M e rInt w A n cap l):∀ k∈blk A,B<=k/\k<w.heap.size:=by
 obtain⟨fp,o,f⟩:=h
 have e:=(osInt.1 o).1
 subst e
 exact fun k hk=>⟨f.ge k hk,o.lt rInt_ok k hk⟩
theorem MS.heapI {B M:Nat}{e:TypeId}{w w':World}{A:Option Addr}{n cap:Nat}{l:List Int}(h:MS B M e rInt w A n cap l) (hk:∀ k∈blk A,w'.heap[k]?=w.heap[k]?):MS B M e rInt w' A n cap l:=by
 obtain⟨fp,o,f⟩:=h
 have e:=(osInt.1 o).1
 subst e
 exact⟨_,o.okeep rInt_ok hk,f⟩
/-- the walk's world: the plans so far, what is left, the frontier's plans; the first apart from the others -/
structure Rdl (wb:World) (O L ps:List Int) (AO:Option Addr) (nO cO:Nat) (AL:Option Addr) (nL cL:Nat) (AP:Option Addr) (nP cP:Nat) (wr:World):Prop where
 mo:MS wb.heap.size NB 3 rInt wr AO nO cO O
 ml:MS wb.heap.size NB 3 rInt wr AL nL cL L
 mp:MS wb.heap.size NB 3 rInt wr AP nP cP ps
 d1:∀ k∈blk AO,k∉blk AL
 d2:∀ k∈blk AO,k∉blk AP
 be:Below wb.heap.size wb wr
section
variable {wb wr w':World} {O L ps:List Int} {AO:Option Addr} {nO cO:Nat} {AL:Option Addr} {nL cL:Nat} {AP:Option Addr} {nP cP:Nat}
theorem Rdl.below (h:Rdl wb O L ps AO nO cO AL nL cL AP nP cP wr) (hb:Below wr.heap.size wr w'):Rdl wb O L ps AO nO cO AL nL cL AP nP cP w' :=
 ⟨h.mo.below rInt_ok hb,h.ml.below rInt_ok hb,h.mp.below rInt_ok hb,h.d1,h.d2,h.be.trans (hb.mono h.be.size)⟩
theorem Rdl.left {T:Nat}(h:Rdl wb O L ps AO nO cO AL nL cL AP nP cP wr) (hb:Below wr.heap.size wr w') (hT:wr.heap.size<=T) {L':List Int}{AL':Option Addr}{nL' cL':Nat}(hm:MS T NB 3 rInt w' AL' nL' cL' L'):Rdl wb O L' ps AO nO cO AL' nL' cL' AP nP cP w' :=
 ⟨h.mo.below rInt_ok hb,hm.base (Nat.le_trans h.be.size hT),h.mp.below rInt_ok hb,fun k hk hk'=>by have:=(h.mo.bkI k hk).2;have:=(hm.bkI k hk').1;omega,h.d2,h.be.trans (hb.mono h.be.size)⟩
theorem Rdl.app (h:Rdl wb O L ps AO nO cO AL nL cL AP nP cP wr) {O':List Int}{AO':Option Addr}{nO' cO':Nat}(hm:MS wb.heap.size NB 3 rInt w' AO' nO' cO' O') (hb:Below wb.heap.size wr w') (hg:wr.grownBy w' (AO.map (·.block)))
  {T:Nat} (hT:wr.heap.size<=T) (hA:AO'.map (·.block)=AO.map (·.block)\/AO'.map (·.block)=some T):Rdl wb O' L ps AO' nO' cO' AL nL cL AP nP cP w':=by
 have hd:∀ (A:Option Addr),(∀ k∈blk AO,k∉blk A)->(∀ k∈blk A,k<wr.heap.size)->∀ k∈blk AO',k∉blk A:=fun A h1 h2 k hk hk2=>by
  have e1:=mem_blk.1 hk
  rcases hA with e|e
  ·exact h1 k (mem_blk.2 (e▸e1)) hk2
  ·rw [e]at e1;injection e1 with e1;have:=h2 k hk2;omega
 exact⟨hm,h.ml.heapI (fun k hk=>hg.block k (h.ml.bkI k hk).2 (fun e=>h.d1 k (mem_blk.2 e.symm) hk)),h.mp.heapI (fun k hk=>hg.block k (h.mp.bkI k hk).2 (fun e=>h.d2 k (mem_blk.2 e.symm) hk)),
  hd _ h.d1 (fun k hk=>(h.ml.bkI k hk).2),hd _ h.d2 (fun k hk=>(h.mp.bkI k hk).2),h.be.trans hb⟩
end
/-- the best place so far, as the program bears it -/
def BestAt (cov:Int->Int->Bool) (L ps:List Int) (k:Nat) (bz:Int) (c:Nat):Prop:=(bestTo cov L ps k).2=c/\((bestTo cov L ps k).1=none/\bz=-1\/∃ j:Nat,(bestTo cov L ps k).1=some j/\bz=j)
theorem BestAt.yes {cov:Int->Int->Bool}{L ps:List Int}{k:Nat}{bz:Int}{c:Nat}{p:Int}(h:BestAt cov L ps k bz c) (hp:ps[k]?=some p) (hc:c<covN cov L p):BestAt cov L ps (k+1) k (covN cov L p):=by
 unfold BestAt;rw [bestTo_next hp];unfold bestStep;rw [h.1,if_pos hc];exact⟨rfl,.inr ⟨k,rfl,rfl⟩⟩
theorem BestAt.no {cov:Int->Int->Bool}{L ps:List Int}{k:Nat}{bz:Int}{c:Nat}{p:Int}(h:BestAt cov L ps k bz c) (hp:ps[k]?=some p) (hc:¬ c<covN cov L p):BestAt cov L ps (k+1) bz c:=by
 have h2:=h
 unfold BestAt at h2 ⊢;rw [bestTo_next hp];unfold bestStep;rw [h.1,if_neg hc];exact h2
theorem BestAt.fin {cov:Int->Int->Bool}{L ps:List Int}{n:Nat}{bz:Int}{c:Nat}(h:BestAt cov L ps n bz c) (hn:ps.length=n):(bz=-1/\reduce cov ps L=[])\/∃ (j:Nat) (p:Int),bz=j/\ps[j]?=some p/\reduce cov ps L=p::reduce cov ps (leftOf cov L p)/\(leftOf cov L p).length<L.length:=by
 subst hn
 rcases h.2 with ⟨h1,h2⟩|⟨j,h1,h2⟩
 ·exact .inl ⟨h2,reduce_none (by unfold bestP;rw [h1])⟩
 ·obtain⟨p,hp,_⟩:=(bestTo_ok (cov:=cov) (left:=L) (ps:=ps) ps.length).1 j h1
  have hb:bestP cov L ps=some p:=by unfold bestP;rw [h1];exact hp
  exact .inr ⟨j,p,h2,hp,reduce_some hb,leftOf_lt hb⟩
theorem gone_has {cov:Int->Int->Bool}{L:List Int}{k:Nat}{x p:Int}(h:L[k]?=some x):hasI (L.filter (cov p)) x=cov p x:=by
 have:=mem_of_at h
 unfold hasI
 rw [Bool.eq_iff_iff,decide_eq_true_iff,List.mem_filter]
 exact⟨fun h=>h.2,fun h=>⟨this,h⟩⟩
set_option maxRecDepth 100000 in
set_option maxHeartbeats 1600000 in
theorem sReducePlans_c (csm:List Value) (m:ModelD) (csq:List Value) (q:QueryD) (css:List Value) (s:SpaceD) (Af:Option Addr) (nf cf:Nat) (f:List Int) (b:Int) (w:World) (hm:(rModel NB).rep w csm m) (hq:(rQuery NB).rep w csq q) (hs:(rSpace NB).rep w css s) (hf:RS NB rInt w Af nf cf f) :
  Calls Tryz.prog 33 #[.agg csm.toArray,.agg csq.toArray,.agg css.toArray,.slice Af nf cf,.int .i64 b] w (RetS 3 rInt (reducePlans (fun k x=>coversL m q s k x b) (frontierPlans s f) f) w):=by
 have rm:=hm
 have lenm:=(rModel_ok NB).len hm
 clear hm
 have rq:=hq
 obtain⟨AqAtoms,nqAtoms,cqAtoms,rfl,hqVariableCount,hqAtoms⟩:=rQuery_rep.1 hq
 clear hq
 have rs:=hs
 obtain⟨AsBoxLow,nsBoxLow,csBoxLow,AsBoxHigh,nsBoxHigh,csBoxHigh,AsCosts,nsCosts,csCosts,AsChoices,nsChoices,csChoices,AsPlans,nsPlans,csPlans,rfl,hsBoxLow,hsBoxHigh,hsCosts,hsChoices,hsPlans⟩:=rSpace_rep.1 hs
 clear hs
 have hB:Below w.heap.size w w:=Below.refl _ _
 have hAm:=(Below.refl (World.heap (w)).size (w)).alloc (Nat.le_refl _) (.cells csm.toArray 50)
 replace hB:=hB.trans (hAm.mono hB.size)
 have bxm:=Bx.new (w) csm 50
 clear hAm
 have hAq:=(Below.refl (World.heap ((w).alloc (.cells csm.toArray 50))).size ((w).alloc (.cells csm.toArray 50))).alloc (Nat.le_refl _) (.cells #[.int .i64 q.fVariableCount,.slice AqAtoms nqAtoms cqAtoms] 54)
 replace hB:=hB.trans (hAq.mono hB.size)
 replace bxm:=bxm.below hAq
 have bxq:=Bx.new ((w).alloc (.cells csm.toArray 50)) [.int .i64 q.fVariableCount,.slice AqAtoms nqAtoms cqAtoms] 54
 simp only [World.size_alloc]at bxq
 clear hAq
 have hAs:=(Below.refl (World.heap (((w).alloc (.cells csm.toArray 50)).alloc (.cells #[.int .i64 q.fVariableCount,.slice AqAtoms nqAtoms cqAtoms] 54))).size (((w).alloc (.cells csm.toArray 50)).alloc (.cells #[.int .i64 q.fVariableCount,.slice AqAtoms nqAtoms cqAtoms] 54))).alloc (Nat.le_refl _) (.cells #[.slice AsBoxLow nsBoxLow csBoxLow,.slice AsBoxHigh nsBoxHigh csBoxHigh,.slice AsCosts nsCosts csCosts,.slice AsChoices nsChoices csChoices,.slice AsPlans nsPlans csPlans] 57)
 replace hB:=hB.trans (hAs.mono hB.size)
 replace bxm:=bxm.below hAs
 replace bxq:=bxq.below hAs
 have bxs:=Bx.new (((w).alloc (.cells csm.toArray 50)).alloc (.cells #[.int .i64 q.fVariableCount,.slice AqAtoms nqAtoms cqAtoms] 54)) [.slice AsBoxLow nsBoxLow csBoxLow,.slice AsBoxHigh nsBoxHigh csBoxHigh,.slice AsCosts nsCosts csCosts,.slice AsChoices nsChoices csChoices,.slice AsPlans nsPlans csPlans] 57
 simp only [World.size_alloc]at bxs
 clear hAs
 have lenm':csm.length=30:=lenm
 clear lenm
 have hnf:=hf.bound
 obtain⟨cov,HCov⟩:∃ c,Hid (c=fun k x=>coversL m q s k x b):=⟨_,rfl⟩
 obtain⟨ps,HPs⟩:∃ ps,Hid (frontierPlans s f=ps):=⟨_,rfl⟩
 have HG:Hid (reducePlans (fun k x=>coversL m q s k x b) (frontierPlans s f) f=reduce cov ps (onceI f)):=by show _=_;rw [HPs.out,HCov.out];rfl
 go_enter Tryz.func33,Tryz.ntmps33
 go_upto_region 1 with fail
 obtain⟨wb,hwb⟩:∃ W,W=((w.alloc (.cells csm.toArray 50)).alloc (.cells #[.int .i64 q.fVariableCount,.slice AqAtoms nqAtoms cqAtoms] 54)).alloc (.cells #[.slice AsBoxLow nsBoxLow csBoxLow,.slice AsBoxHigh nsBoxHigh csBoxHigh,.slice AsCosts nsCosts csCosts,.slice AsChoices nsChoices csChoices,.slice AsPlans nsPlans csPlans] 57):=⟨_,rfl⟩
 rw [<- hwb]at hB bxm bxq bxs ⊢
 clear hwb
 have K1:Hid (∀ W (A:Option Addr) (n c:Nat) (L:List Int) (p:Int),Below wb.heap.size wb W->RS NB rInt W A n c L->Calls Tryz.prog 76 #[.agg csm.toArray,.agg #[.int .i64 q.fVariableCount,.slice AqAtoms nqAtoms cqAtoms],.agg #[.slice AsBoxLow nsBoxLow csBoxLow,.slice AsBoxHigh nsBoxHigh csBoxHigh,.slice AsCosts nsCosts csCosts,.slice AsChoices nsChoices csChoices,.slice AsPlans nsPlans csPlans],.int .i64 p,.slice A n c,.int .i64 b] W (RetS 3 rInt (L.filter (cov p)) W)):=by
  show ∀ W A n c L p,_->_->_
  intro W A n c L p hW hR
  have hX:=hB.trans (hW.mono hB.size)
  have C:=sCoveredBy_c _ m _ q _ s p A n c L b W ((rModel_ok NB).keep rm (cells_below hX)) ((rQuery_ok NB).keep rq (cells_below hX)) ((rSpace_ok NB).keep rs (cells_below hX)) hR
  rw [HCov.out]
  exact C
 go_upto_region 2 with fail
 obtain⟨w1,hw1⟩:∃ W,W=wb.alloc (.cells #[] 3):=⟨_,rfl⟩
 have hE1:Below wb.heap.size wb w1:=by rw [hw1];exact(Below.refl wb.heap.size wb).alloc (Nat.le_refl _) _
 have mO:MS wb.heap.size NB 3 rInt w1 (some ⟨wb.heap.size,0,none⟩) 0 0 []:=by rw [hw1];exact MS.empty wb (Nat.le_refl _)
 have hs1:w1.heap.size=wb.heap.size+1:=by rw [hw1];simp
 rw [<- hw1]
 clear hw1
 have hB1:=hB.trans (hE1.mono hB.size)
 have ks_0:=bxs.below hE1 0 _ rfl
 have ks_1:=bxs.below hE1 1 _ rfl
 have ks_2:=bxs.below hE1 2 _ rfl
 have ks_3:=bxs.below hE1 3 _ rfl
 have ks_4:=bxs.below hE1 4 _ rfl
 go_wp2_with fail
 have C:=sFrontierPlans_c _ s _ _ _ f _ ((rSpace_ok NB).keep rs (cells_below hB1)) (hf.below rInt_ok hB1)
 rw [HPs.out]at C
 refine C.mono ?_
 clear C
 rintro e w2 ⟨AP,nP,cP,rfl,mP,hb2⟩
 clear ks_0 ks_1 ks_2 ks_3 ks_4 hB1
 have hE2:=hE1.trans (hb2.mono hE1.size)
 replace mO:=mO.below rInt_ok hb2
 clear hb2 hE1
 have hM0:=MS.empty (B:=w2.heap.size) (M:=NB) (e:=3) (r:=rInt) w2 (Nat.le_refl _)
 have hA0:=(Below.refl w2.heap.size w2).alloc (Nat.le_refl _) (.cells #[] 3)
 go_wp2
 go_loopw [13,14] (fun l i wr=>∃ (k n c:Nat) (A:Option Addr),k<=nf/\n<=k/\i=.int .i64 k/\l=.slice A n c/\MS w2.heap.size NB 3 rInt wr A n c (onceI (f.take k))/\Below w2.heap.size w2 wr) (fun _ i _=>nf - (intOf i).toNat)
 case atStart=>exact⟨0,0,0,_,Nat.zero_le _,Nat.le_refl _,rfl,rfl,hM0,hA0⟩
 case round =>
  clear hM0 hA0
  obtain⟨k,n,c,A,hk,hnk,rfl,rfl,hM,hE⟩:=hrel
  have hR:=hM.rs rInt_ok
  have hB3:=hB.trans ((hE2.trans (hE.mono hE2.size)).mono hB.size)
  by_cases hlt:k<nf
  ·obtain⟨bf,of,x,rfl,hc,hI,hx⟩:=(hf.below rInt_ok hB3).ati hlt
   have HO:=Lib.hid (onceI_take hx.out)
   cases hh:hasI (onceI (f.take k)) x
   ·have HH:=Lib.hid hh;clear hh
    go_wp2_with (first|(go_at_call 75;refine(l7Has_v HH.out hR).mono ?_;rintro e w' ⟨rfl,hww⟩;replace hww:=hww.symm;subst hww)|(at_builtin;refine wpList_app (r:=rInt) rfl _ _ 30 rfl _ 8 eiInt rInt_ok rfl hM ((Below.refl _ _).alloc (Nat.le_refl _) _) hE.size ⟨_,0,none⟩ rfl [] [.int .i64 x] x ⟨rfl,rfl,hI⟩ (Fr.nil _) (cell_one_new _ _ _) (by unfold NB at *;omega) (Nat.le_refl _) (by unfold NB at *;omega) ?_;intro A9 k9 w9 hM9 hb9 hg9))
    go_roundw
    case rel=>exact⟨k+1,n+1,k9,A9,by omega,by omega,by go_num,rfl,by rw [HO.out,HH.out];exact hM9,(hE.alloc hE.size _).trans hb9⟩
    case measure=>simp [intOf];omega
   ·have HH:=Lib.hid hh;clear hh
    go_wp2_with (go_at_call 75;refine(l7Has_v HH.out hR).mono ?_;rintro e w' ⟨rfl,hww⟩;replace hww:=hww.symm;subst hww)
    go_roundw
    case rel=>exact⟨k+1,n,c,A,by omega,by omega,by go_num,rfl,by rw [HO.out,HH.out];exact hM,hE⟩
    case measure=>simp [intOf];omega
  ·have HT:Hid (f.take k=f):=by show _=_;exact take_all hf.len hlt
   rw [HT.out]at hM
   have hN:n<=nf:=by omega
   have J0:Rdl wb [] (onceI f) ps (some ⟨wb.heap.size,0,none⟩) 0 0 A n c AP nP cP wr :=
    ⟨mO.below rInt_ok hE,hM.base hE2.size,(mP.below rInt_ok hE).base (by omega),fun k hk hk'=>by have:=(hM.bkI k hk').1;have:=(mO.bkI k hk).2;omega,fun k hk hk'=>by simp [blk]at hk;have:=(mP.bkI k hk').1;omega,hE2.trans (hE.mono hE2.size)⟩
   have HLen:=Lib.hid mP.len
   have hnP:nP<=4294967296:=mP.nb
   clear hM hR hE hB3 mO mP hE2 hs1 HT
   rename World=>wl
   go_wp2
   clear hk hnk hlt
   go_loopw [11,13] (fun o l wr=>∃ (O L:List Int) (AO:Option Addr) (nO cO:Nat) (AL:Option Addr) (nL cL:Nat),o=.slice AO nO cO/\l=.slice AL nL cL/\Rdl wb O L ps AO nO cO AL nL cL AP nP cP wr/\O++reduce cov ps L=reduce cov ps (onceI f)/\nO+nL<=nf) (fun _ l _=>slLen l)
   case atStart=>exact⟨[],onceI f,_,0,0,A,n,c,rfl,rfl,J0,rfl,by omega⟩
   case round =>
    clear J0 hN
    obtain⟨O,L,AO,nO,cO,AL,nL,cL,rfl,rfl,J,hres,hnn⟩:=hrel
    have HR:=Lib.hid hres;clear hres
    by_cases hL:(0:Int)<(nL:Int)
    ·rename World=>wo
     have hL0:0<nL:=by omega
     have hLd:decide (0<nL)=true:=by simp [hL0]
     have hnL:=J.ml.len
     have HNL:=Lib.hid hnL;clear hnL
     go_wp2
     go_loopw [15,16,17] (fun bv mv kv wr=>∃ (k c:Nat) (bz:Int),k<=nP/\bv=.int .i64 bz/\mv=.int .i64 c/\kv=.int .i64 k/\c<=nf/\Hid (BestAt cov L ps k bz c)/\Below wo.heap.size wo wr) (fun _ _ kv _=>nP - (intOf kv).toNat)
     case atStart=>exact⟨0,0,-1,Nat.zero_le _,rfl,rfl,rfl,Nat.zero_le _,⟨rfl,.inl ⟨rfl,rfl⟩⟩,Below.refl _ _⟩
     case round =>
      obtain⟨k,c1,bz,hk,rfl,rfl,rfl,hc1,hbest,hE⟩:=hrel
      have J1:=J.below hE
      have hbe:=J1.be
      by_cases hlt:k<nP
      ·obtain⟨bp,op,p,rfl,hc,hI,hp⟩:=(J1.mp.rs rInt_ok).ati hlt
       have HP:=Lib.hid hp.out;clear hp
       have HSS:Hid (∀ w',Below wr.heap.size wr w'->(w'.rangeAt w.heap.size 0 csm/\w'.cell? ⟨w.heap.size+1,0,none⟩=some (.int .i64 q.fVariableCount)/\w'.cell? ⟨w.heap.size+1,1,none⟩=some (.slice AqAtoms nqAtoms cqAtoms)/\w'.cell? ⟨w.heap.size+1+1,0,none⟩=some (.slice AsBoxLow nsBoxLow csBoxLow)/\w'.cell? ⟨w.heap.size+1+1,1,none⟩=some (.slice AsBoxHigh nsBoxHigh csBoxHigh)/\w'.cell? ⟨w.heap.size+1+1,2,none⟩=some (.slice AsCosts nsCosts csCosts)/\w'.cell? ⟨w.heap.size+1+1,3,none⟩=some (.slice AsChoices nsChoices csChoices)/\w'.cell? ⟨w.heap.size+1+1,4,none⟩=some (.slice AsPlans nsPlans csPlans)/\w'.cell? ⟨bp,op+k,none⟩=some (.int .i64 p))):=by
        show ∀ w',_->_
        intro w' hb
        have hz:=hbe.trans (hb.mono hbe.size)
        exact⟨(bxm.below hz).range,(bxq.below hz) 0 _ rfl,(bxq.below hz) 1 _ rfl,(bxs.below hz) 0 _ rfl,(bxs.below hz) 1 _ rfl,(bxs.below hz) 2 _ rfl,(bxs.below hz) 3 _ rfl,(bxs.below hz) 4 _ rfl,cells_below hb _ _ hc⟩
       go_wp2
       refine hbg HSS.out (Below.refl _ _).drew (fun hHeld=>?_)
       refine' wpAnyH_take (i:=0) (oi:=⟨some 56,_,_,_,_,_⟩) (v:=_) rfl (by kernel_rfl) (by kernel_rfl) (by kernel_rfl) (fun _ _ _ h=>h) (yieldsIf_load_mid (by rfl) _ _ rfl _ _ rfl _ _ (fun w h=>h.1) Tryz.underlying50 rfl (by rw [lenm'];exact sizeModel)) hHeld ?_
       simp only [putS]
       refine tka 1 57 hHeld ?_;simp only [putS]
       refine tka 2 58 hHeld ?_;simp only [putS]
       refine tka 3 59 hHeld ?_;simp only [putS]
       refine tka 4 60 hHeld ?_;simp only [putS]
       refine tka 5 61 hHeld ?_;simp only [putS]
       refine tka 6 62 hHeld ?_;simp only [putS]
       refine tka 7 63 hHeld ?_;simp only [putS]
       refine tka 8 64 hHeld ?_;simp only [putS]
       refine rd 9 (some 65) fun K hK=>?_
       clear hHeld
       go_simp
       refine(K1.out _ _ _ _ _ p (hbe.drew) ((J1.ml.rs rInt_ok).below rInt_ok (Below.refl _ _).drew)).mono ?_
       rintro e w4 ⟨AC,nC,cC,rfl,mC,hb4⟩
       have hC:Below wr.heap.size wr w4:=((Below.refl wr.heap.size wr).drew.trans (hb4.mono (by simp)))
       go_wp2_with fail
       refine hK.out _ _ (HSS.out _ hC) (fun hHeld=>?_)
       clear hK K
       try simp only [putS]
       refine tka 10 66 hHeld ?_;simp only [putS]
       refine tka 11 18 hHeld ?_;simp only [putS]
       refine wpAnyH_done (by kernel_rfl) ?_ _
       clear hHeld
       clear HSS
       have hnC:covN cov L p=nC:=mC.len
       have hE3:=hE.trans (hC.mono hE.size)
       have hcL:nC<=nf:=by
        have h1:nC<=L.length:=by rw [<- hnC];exact List.length_filter_le _ _
        rw [HNL.out]at h1;omega
       by_cases hlt2:(c1:Int)<(nC:Int)
       ·have HB:Hid (BestAt cov L ps (k+1) k nC):=by show BestAt _ _ _ _ _ _;have:=hbest.out.yes HP.out (by rw [hnC];omega);rw [hnC]at this;exact this
        clear hnC
        go_wp2
        go_roundw
        case rel=>exact⟨k+1,nC,k,by omega,rfl,rfl,by go_num,hcL,HB,hE3⟩
        case measure=>simp [intOf];omega
       ·have HB:Hid (BestAt cov L ps (k+1) bz c1):=by show BestAt _ _ _ _ _ _;exact hbest.out.no HP.out (by rw [hnC];omega)
        clear hnC
        go_wp2
        go_roundw
        case rel=>exact⟨k+1,c1,bz,by omega,rfl,rfl,by go_num,hc1,HB,hE3⟩
        case measure=>simp [intOf];omega
      ·have hkP:k=nP:=by omega
       subst hkP
       rcases hbest.out.fin HLen.out with ⟨hbz,hred⟩|⟨j,p,hbz,hp,hred,hlf⟩
       ·subst hbz
        have HE:Hid (O=reduce cov ps (onceI f)):=by show _=_;have:=HR.out;rw [hred,List.append_nil]at this;exact this
        clear hred
        go_wp2
        go_ret
        exact⟨_,_,_,rfl,by rw [HG.out,<- HE.out];exact J1.mo.base hB.size,hB.trans (hbe.mono hB.size)⟩
       ·subst hbz
        have hjn:j<k:=by have:=lt_of_at hp;have:=HLen.out;omega
        obtain⟨bp,op,p',rfl,hc,hI,hp'⟩:=(J1.mp.rs rInt_ok).ati hjn
        obtain rfl:p=p':=by have:=hp'.out;rw [hp]at this;injection this
        have HRed:=Lib.hid hred;clear hred hp hp'
        have HLf:=Lib.hid hlf;clear hlf
        clear hbest
        have HSS:Hid (∀ w',Below wr.heap.size wr w'->(w'.rangeAt w.heap.size 0 csm/\w'.cell? ⟨w.heap.size+1,0,none⟩=some (.int .i64 q.fVariableCount)/\w'.cell? ⟨w.heap.size+1,1,none⟩=some (.slice AqAtoms nqAtoms cqAtoms)/\w'.cell? ⟨w.heap.size+1+1,0,none⟩=some (.slice AsBoxLow nsBoxLow csBoxLow)/\w'.cell? ⟨w.heap.size+1+1,1,none⟩=some (.slice AsBoxHigh nsBoxHigh csBoxHigh)/\w'.cell? ⟨w.heap.size+1+1,2,none⟩=some (.slice AsCosts nsCosts csCosts)/\w'.cell? ⟨w.heap.size+1+1,3,none⟩=some (.slice AsChoices nsChoices csChoices)/\w'.cell? ⟨w.heap.size+1+1,4,none⟩=some (.slice AsPlans nsPlans csPlans)/\w'.cell? ⟨bp,op+j,none⟩=some (.int .i64 p))):=by
         show ∀ w',_->_
         intro w' hb
         have hz:=hbe.trans (hb.mono hbe.size)
         exact⟨(bxm.below hz).range,(bxq.below hz) 0 _ rfl,(bxq.below hz) 1 _ rfl,(bxs.below hz) 0 _ rfl,(bxs.below hz) 1 _ rfl,(bxs.below hz) 2 _ rfl,(bxs.below hz) 3 _ rfl,(bxs.below hz) 4 _ rfl,cells_below hb _ _ hc⟩
        go_wp2
        refine hbg HSS.out (Below.refl _ _).drew (fun hHeld=>?_)
        refine' wpAnyH_take (i:=0) (oi:=⟨some 75,_,_,_,_,_⟩) (v:=_) rfl (by kernel_rfl) (by kernel_rfl) (by kernel_rfl) (fun _ _ _ h=>h) (yieldsIf_load_mid (by rfl) _ _ rfl _ _ rfl _ _ (fun w h=>h.1) Tryz.underlying50 rfl (by rw [lenm'];exact sizeModel)) hHeld ?_
        simp only [putS]
        refine tka 1 76 hHeld ?_;simp only [putS]
        refine tka 2 77 hHeld ?_;simp only [putS]
        refine tka 3 78 hHeld ?_;simp only [putS]
        refine tka 4 79 hHeld ?_;simp only [putS]
        refine tka 5 80 hHeld ?_;simp only [putS]
        refine tka 6 81 hHeld ?_;simp only [putS]
        refine tka 7 82 hHeld ?_;simp only [putS]
        refine tka 8 83 hHeld ?_;simp only [putS]
        refine rd 9 (some 84) fun K hK=>?_
        clear hHeld
        go_simp
        refine(K1.out _ _ _ _ _ p (hbe.drew) ((J1.ml.rs rInt_ok).below rInt_ok (Below.refl _ _).drew)).mono ?_
        rintro e w4 ⟨AC,nC,cC,rfl,mC,hb4⟩
        have hC:Below wr.heap.size wr w4:=((Below.refl wr.heap.size wr).drew.trans (hb4.mono (by simp)))
        go_wp2_with fail
        refine hK.out _ _ (HSS.out _ hC) (fun hHeld=>?_)
        clear hK K
        try simp only [putS]
        refine tka 10 19 hHeld ?_;simp only [putS]
        refine wpAnyH_done (by kernel_rfl) ?_ _
        clear hHeld
        clear HSS
        have J4:=J1.below hC
        replace hc:=cells_below hC _ _ hc
        have hM0:=MS.empty (B:=w4.heap.size) (M:=NB) (e:=3) (r:=rInt) w4 (Nat.le_refl _)
        have hA0:=(Below.refl w4.heap.size w4).alloc (Nat.le_refl _) (.cells #[] 3)
        clear hE J1 hC hbe hb4
        go_wp2
        rename World=>wq
        go_loopw [20,21] (fun nx iv wr=>∃ (i n c:Nat) (A:Option Addr),i<=nL/\n<=i/\iv=.int .i64 i/\nx=.slice A n c/\MS wq.heap.size NB 3 rInt wr A n c ((L.take i).filter (fun x=>!cov p x))/\Below wq.heap.size wq wr) (fun _ iv _=>nL - (intOf iv).toNat)
        case atStart=>exact⟨0,0,0,_,Nat.zero_le _,Nat.le_refl _,rfl,rfl,hM0,hA0⟩
        case round =>
         clear hM0 hA0
         obtain⟨i,n3,c3,A3,hi,hn3,rfl,rfl,hM,hE⟩:=hrel
         have RG:=(mC.rs rInt_ok).below rInt_ok hE
         have RL:=(J4.ml.rs rInt_ok).below rInt_ok hE
         have hnL4:nL<=4294967296:=J4.ml.nb
         by_cases hlt:i<nL
         ·obtain⟨bl,ol,x,rfl,hc2,hI2,hx⟩:=RL.ati hlt
          have HX:=Lib.hid hx.out;clear hx
          cases hv:cov p x
          ·have HV:=Lib.hid (filter_yes (p:=fun x=>!cov p x) HX.out (by simp [hv]))
           have HH:=Lib.hid ((gone_has (cov:=cov) (p:=p) HX.out).trans hv);clear hv
           go_wp2_with (first|(go_at_call 75;refine(l7Has_v HH.out RG).mono ?_;rintro e w' ⟨rfl,hww⟩;replace hww:=hww.symm;subst hww)|(at_builtin;refine wpList_app (r:=rInt) rfl _ _ 30 rfl _ 8 eiInt rInt_ok rfl hM ((Below.refl _ _).alloc (Nat.le_refl _) _) hE.size ⟨_,0,none⟩ rfl [] [.int .i64 x] x ⟨rfl,rfl,hI2⟩ (Fr.nil _) (cell_one_new _ _ _) (by unfold NB at *;omega) (Nat.le_refl _) (by unfold NB at *;omega) ?_;intro A9 k9 w9 hM9 hb9 hg9))
           go_roundw
           case rel=>exact⟨i+1,n3+1,k9,A9,by omega,by omega,by go_num,rfl,by rw [HV.out];exact hM9,(hE.alloc hE.size _).trans hb9⟩
           case measure=>simp [intOf];omega
          ·have HV:=Lib.hid (filter_no (p:=fun x=>!cov p x) HX.out (by simp [hv]))
           have HH:=Lib.hid ((gone_has (cov:=cov) (p:=p) HX.out).trans hv);clear hv
           go_wp2_with (go_at_call 75;refine(l7Has_v HH.out RG).mono ?_;rintro e w' ⟨rfl,hww⟩;replace hww:=hww.symm;subst hww)
           go_roundw
           case rel=>exact⟨i+1,n3,c3,A3,by omega,by omega,by go_num,rfl,by rw [HV.out];exact hM,hE⟩
           case measure=>simp [intOf];omega
         ·have HT:Hid ((L.take i).filter (fun x=>!cov p x)=leftOf cov L p):=by show _=_;rw [take_all HNL.out hlt];rfl
          rw [HT.out]at hM
          have J5:=J4.left hE (Nat.le_refl _) hM
          have hnn3:n3<nL:=by have:=HLf.out;rw [HNL.out,hM.len]at this;exact this
          have hcp:=cells_below hE _ _ hc
          have hbz:=J5.be.size
          clear RG RL
          go_wp2_with (at_builtin;refine wpList_appB (r:=rInt) rfl _ _ 30 rfl _ 8 eiInt rInt_ok rfl J5.mo ((Below.refl _ _).alloc (Nat.le_refl _) _) hbz ⟨_,0,none⟩ rfl [] [.int .i64 p] p ⟨rfl,rfl,hI⟩ (Fr.nil _) (cell_one_new _ _ _) (by unfold NB at *;omega) (Nat.le_refl _) (by unfold NB at *;omega) ?_;intro A9 k9 w9 hM9 hb9 hg9 hA9)
          have hAl:=(Below.refl wr.heap.size wr).alloc (Nat.le_refl _) (.cells #[.int .i64 p] 3)
          have J6:=J5.below hAl
          have J7:=J6.app hM9 hb9 hg9 (Nat.le_refl _) hA9
          go_roundw
          case rel=>exact⟨O++[p],leftOf cov L p,A9,nO+1,k9,A3,n3,c3,rfl,rfl,J7,by rw [List.append_assoc,List.singleton_append,<- HRed.out];exact HR.out,by omega⟩
          case measure=>simp [slLen];omega
    ·have hL0:nL=0:=by omega
     subst hL0
     have hnil:L=[]:=List.eq_nil_of_length_eq_zero J.ml.len
     subst hnil
     have HE:Hid (O=reduce cov ps (onceI f)):=by show _=_;have:=HR.out;rw [reduce_none bestP_nil,List.append_nil]at this;exact this
     go_wp2
     go_ret
     exact⟨_,_,_,rfl,by rw [HG.out,<- HE.out];exact J.mo.base hB.size,hB.trans (J.be.mono hB.size)⟩
end Go.Proofs.YtcfmidbioecdcaaGreat
