/-
  Srt
-/
import Derived.Test.YtcfmidbioecdcaaGreatShelf
import Derived.Test.YtcfmidbioecdcaaGreatStrP
import Derived.Test.YtcfmidbioecdcaaGreatRdp
namespace Go.Proofs.YtcfmidbioecdcaaGreat
open Go.RowKit
set_option linter.unusedVariables false
set_option linter.unusedSimpArgs false

theorem putRow_own {w:World}{e:TypeId}{g n cap:Nat}{l l':List Int}(h:w.ownsRow 0 e 1 (.slice (some ⟨g,0,none⟩) n cap) n (l.map (Value.int .i64))) (hl:l'.length=n) (m:Nat) (os:Array Obj) :
  (Sort.grow (Sort.putRow (Value.int .i64) (Sort.ahead w m) g 0 l'.toArray) os).ownsRow 0 e 1 (.slice (some ⟨g,0,none⟩) n cap) n (l'.map (Value.int .i64)):=by
 refine⟨by simp [hl],.inr ?_⟩
 rcases h.2 with ⟨h1,_⟩|⟨g',c,cur,h1,hB,hg,hn,hm,hs,ht⟩
 ·cases h1
 injection h1 with e1 e2 e3;injection e1 with e1;injection e1 with e1
 subst e1;subst e3
 have hlt:=(Array.getElem?_eq_some_iff.1 hg).1
 refine⟨g,cap,Sort.putCells (Value.int .i64) 0 l'.toArray cur,rfl,Nat.zero_le _,?_,hn,hm,?_,?_⟩
 ·rw [Sort.heap_grow_old _ _ (by simp;exact hlt)]
  simp [Sort.putRow,Sort.mapBlock,Array.getElem?_modify,hg,Sort.onCells]
 ·simp [Sort.putCells];simpa using hs
 ·apply List.ext_getElem?
  intro i
  rw [List.getElem?_take]
  by_cases hi:i<n*1
  ·rw [if_pos hi]
   have hi2:i<cur.size:=by rw [hs];omega
   have hi3:i<l'.length:=by omega
   simp [Sort.putCells,hi2,hi3]
  ·rw [if_neg hi,List.getElem?_eq_none (by simp;omega)]
theorem putRow_below {B:Nat}{w:World}{g:Nat}(hg:g<w.heap.size) (hB:B<=g) (l:List Int) (m:Nat) (os:Array Obj):Below B w (Sort.grow (Sort.putRow (Value.int .i64) (Sort.ahead w m) g 0 l.toArray) os):=by
 refine⟨rfl,rfl,rfl,by simp,fun k hk=>?_⟩
 rw [Sort.heap_grow_old _ _ (by simp;omega)]
 simp [Sort.putRow,Sort.mapBlock,Array.getElem?_modify]
 intro e;omega
theorem MS.holds {B:Nat}{e:TypeId}{w:World}{g n cap:Nat}{l:List Int}(h:MS B NB e rInt w (some ⟨g,0,none⟩) n cap l):Sort.Holds (Value.int .i64) w g 0 l.toArray:=by
 intro j hj
 have hj':j<n:=by rw [<- h.len];simpa using hj
 obtain⟨x,h1,_,h2⟩:=h.celli hj'
 refine⟨?_,by rw [Nat.zero_add];exact h.frozen j⟩
 rw [Nat.zero_add,h1]
 have:=h2.out
 simp [getElem!_def,this]
theorem MS.puts {B:Nat}{e:TypeId}{w:World}{g n cap:Nat}{l l':List Int}(h:MS B NB e rInt w (some ⟨g,0,none⟩) n cap l) (hl:l'.length=n) (hr:∀ x∈l',I64 x) (m:Nat) (os:Array Obj) :
  MS B NB e rInt (Sort.grow (Sort.putRow (Value.int .i64) (Sort.ahead w m) g 0 l'.toArray) os) (some ⟨g,0,none⟩) n cap l':=by
 obtain⟨fp,h1,h2⟩:=h
 obtain⟨rfl,hM,hown,_⟩:=osInt.1 h1
 exact⟨_,osInt.2 ⟨rfl,hM,putRow_own hown hl m os,hr⟩,h2⟩
/-- a shorter beginning of what is owned -/
theorem MS.cut {B:Nat}{e:TypeId}{w:World}{g n cap:Nat}{l:List Int}(h:MS B NB e rInt w (some ⟨g,0,none⟩) n cap l) {k:Nat}(hk:k<=n):MS B NB e rInt w (some ⟨g,0,none⟩) k cap (l.take k):=by
 obtain⟨fp,h1,h2⟩:=h
 obtain⟨rfl,hM,hown,hr⟩:=osInt.1 h1
 refine⟨_,osInt.2 ⟨rfl,by omega,?_,fun x hx=>hr x (List.mem_of_mem_take hx)⟩,h2⟩
 have hlen:=hown.1
 rcases hown.2 with ⟨e1,_⟩|⟨g',c,cur,e1,q1,q2,q3,q4,q5,q6⟩
 ·cases e1
 injection e1 with e1 e2 e3;injection e1 with e1;injection e1 with e1
 subst e1;subst e3
 refine⟨by simp at hlen ⊢;omega,.inr ⟨g,cap,cur,rfl,Nat.zero_le _,q2,by omega,q4,q5,?_⟩⟩
 rw [List.map_take,<- q6,List.take_take]
 congr 1;omega
theorem sortInts_c {B:Nat}{A:Option Addr}{n cap:Nat}{l:List Int}{w:World}(h:MS B NB 3 rInt w A n cap l) :
  Calls Tryz.prog 90 #[.slice A n cap] w fun e w'=>e=.returned (.tuple #[])/\MS B NB 3 rInt w' A n cap (sortI l)/\Below B w w':=by
 have hlen:=h.len
 rcases Nat.eq_zero_or_pos n with h0|h0
 ·subst h0
  have hl:l=[]:=List.eq_nil_of_length_eq_zero hlen
  subst hl
  exact(Tryz.slices_Sort_int_none A cap w).mono fun e w' ⟨h1,h2⟩=>⟨h1,by rw [h2];simpa [sortI]using h,by rw [h2];exact Below.refl _ _⟩
 ·obtain⟨g,rfl,hg,hB⟩:=h.form h0
  subst hlen
  have hnb:=h.nb
  refine(Tryz.slices_Sort_int g 0 cap l w h.holds hg (by unfold NB at hnb;omega)).mono fun e w' ⟨h1,m,os,h2⟩=>?_
  subst h2
  refine⟨h1,h.puts (l':=sortI l) (sortI_perm l).length_eq (fun x hx=>?_) m os,putRow_below hg hB _ m os⟩
  exact(h.rs rInt_ok).rng x ((sortI_perm l).mem_iff.1 hx)
theorem compact_eq (l:List Int):Lib.compact l=compactI l:=by
 have:∀ m,m<=l.length->Lib.compactUpTo l.toArray m=compactI (l.take m):=by
  intro m
  induction m with
  | zero=>intro _;simp [Lib.compactUpTo,compactI]
  | succ m ih =>
   intro hm
   rw [Lib.compactUpTo_succ,ih (by omega)]
   have hx:l[m]?=some (l[m]'(by omega)):=List.getElem?_eq_getElem (by omega)
   cases m with
   | zero =>
    rw [take_snoc hx]
    have hl:0<l.length:=by omega
    simp [Lib.keeps,compactI,getElem!_pos,hl]
   | succ m =>
    have hy:l[m]?=some (l[m]'(by omega)):=List.getElem?_eq_getElem (by omega)
    rw [compactI_next hy hx]
    have h1:m+1<l.length:=by omega
    have h2:m<l.length:=by omega
    by_cases he:l[m]=l[m+1]
    ·simp [Lib.keeps,getElem!_pos,h1,h2,he]
    ·have he2:¬ l[m+1]=l[m]:=fun h=>he h.symm
     simp [Lib.keeps,getElem!_pos,h1,h2,he,he2]
 have:=this l.length (Nat.le_refl _)
 rw [List.take_of_length_le (Nat.le_refl _)]at this
 exact this
theorem compactInts_c {B:Nat}{A:Option Addr}{n cap:Nat}{l:List Int}{w:World}(h:MS B NB 3 rInt w A n cap l) :
  Calls Tryz.prog 91 #[.slice A n cap] w fun e w'=>e=.returned (.slice A (compactI l).length cap)/\MS B NB 3 rInt w' A (compactI l).length cap (compactI l)/\Below B w w':=by
 have hlen:=h.len
 rcases Nat.eq_zero_or_pos n with h0|h0
 ·subst h0
  have hl:l=[]:=List.eq_nil_of_length_eq_zero hlen
  subst hl
  exact(Tryz.slices_Compact_int_empty A cap w).mono fun e w' ⟨h1,h2⟩=>⟨by rw [h1];rfl,by rw [h2];simpa [compactI]using h,by rw [h2];exact Below.refl _ _⟩
 ·obtain⟨g,rfl,hg,hB⟩:=h.form h0
  subst hlen
  have hnb:=h.nb
  have hcl:=compactI_len l
  have hcap:l.length<=cap:=(h.rs rInt_ok).nc
  refine(Tryz.slices_Compact_int g 0 cap l w h.holds (by unfold NB at hnb;omega) hcap).mono fun e w' ⟨h1,m,h2⟩=>?_
  rw [compact_eq]at h1 h2
  have h3:=h.puts (l':=compactI l++List.replicate (l.length - (compactI l).length) 0) (by simp;omega) (fun x hx=>?_) m #[]
  ·rw [Sort.grow_empty,<- h2]at h3
   refine⟨h1,?_,?_⟩
   ·have:=h3.cut (k:=(compactI l).length) hcl
    rwa [List.take_left']at this
    rfl
   ·have:=putRow_below hg hB (compactI l++List.replicate (l.length - (compactI l).length) 0) m #[]
    rwa [Sort.grow_empty,<- h2]at this
  ·rcases List.mem_append.1 hx with hx|hx
   ·exact(h.rs rInt_ok).rng x (compactI_mem.1 hx)
   ·rw [List.eq_of_mem_replicate hx];exact I64_zero
open Go.RowKit
set_option linter.unusedVariables false
set_option linter.unusedSimpArgs false
theorem iRedFn_c (g:Nat) (A:Option Addr) (n c:Nat) (l:List Int) (x:Int) (w:World) (hc:w.cell? ⟨g,0,none⟩=some (.slice A n c)) (hr:RS NB rInt w A n c l) :
  Calls Tryz.prog 95 #[.int .i64 x,.pointer (some ⟨g,0,none⟩)] w fun e w'=>e=.returned (.bool (hasI l x))/\w'=w:=by
 go_enter Tryz.func95,Tryz.ntmps95
 go_wp2_with (go_at_call 96;refine(slicesContains_q _ _ _ _ _ _ hr).mono ?_;rintro e w' ⟨rfl,rfl⟩)
 go_ret
 exact⟨rfl,rfl⟩
theorem putRow_heap (w:World) (m g:Nat) (l:List Int) (os:Array Obj) (k:Nat) (hk:k≠g) (hl:k<w.heap.size):(Sort.grow (Sort.putRow (Value.int .i64) (Sort.ahead w m) g 0 l.toArray) os).heap[k]?=w.heap[k]?:=by
 rw [Sort.heap_grow_old _ _ (by simp;omega)]
 simp [Sort.putRow,Sort.mapBlock,Array.getElem?_modify]
 intro e;omega
/-- what is in 'most' goes out of the slice; the slice's own block alone is touched -/
theorem iRedDel_c (B B2 gM:Nat) (A AM:Option Addr) (n cap nM cM:Nat) (L ML:List Int) (w:World) (h0:0<n) (hL:MS B NB 3 rInt w A n cap L) (hM:MS B2 NB 3 rInt w AM nM cM ML) (hc:w.cell? ⟨gM,0,none⟩=some (.slice AM nM cM)) (h1:gM∉blk A) (h2:∀ k∈blk AM,k∉blk A) :
  Calls Tryz.prog 94 #[.slice A n cap,.func (.func 95) #[] #[.pointer (some ⟨gM,0,none⟩)]] w fun e w'=>∃ n',e=.returned (.slice A n' cap)/\MS B NB 3 rInt w' A n' cap (L.filter fun x=>!hasI ML x) /\
   (∀ k,k∉blk A->k<w.heap.size->w'.heap[k]?=w.heap[k]?)/\Below B w w':=by
 obtain⟨g,rfl,hg,hB⟩:=hL.form h0
 have hlen:=hL.len
 subst hlen
 have hnb:=hL.nb
 have hcap:L.length<=cap:=(hL.rs rInt_ok).nc
 have hgM:=World.block_lt_of_cell? w _ hc
 simp only [blk,List.mem_singleton]at h1 h2
 have eg:∀ args w,(callFunc 95 args).run Tryz.prog w=.ok (.enter 95 args) w:=enters_of Tryz.func95 (by kernel_rfl) rfl
 have hgive:∀ W,(∀ k,k≠g->k<w.heap.size->W.heap[k]?=w.heap[k]?)->∀ x,FnGives Tryz.prog 95 #[.pointer (some ⟨gM,0,none⟩)] #[Value.int .i64 x] (.bool (hasI ML x)) W:=by
  intro W hW x
  have hM':MS B2 NB 3 rInt W AM nM cM ML:=hM.heapI (fun k hk=>hW k (h2 k hk) (hM.bkI k hk).2)
  have hc':W.cell? ⟨gM,0,none⟩=some (.slice AM nM cM):=by rw [<- hc];unfold World.cell?;rw [hW gM h1 hgM]
  exact(iRedFn_c gM AM nM cM ML x W hc' (hM'.rs rInt_ok)).mono fun e w' ⟨q1,q2⟩=>⟨q1,0,q2⟩
 refine(Tryz.slices_DeleteFunc (Value.int .i64) (fun _=>rfl) (hasI ML) 95 #[.pointer (some ⟨gM,0,none⟩)] eg 0 Tryz.zeroValue3 g 0 cap L.toArray w (fun W x hb=>hgive W (fun k hk hl=>hb.block k hl) x) (fun m os dk x hs=>hgive _ (fun k hk hl=>?_) x) hL.holds (by simp;unfold NB at hnb;omega) (by simpa using hcap)).mono fun e w' ⟨q1,q,q2⟩=>?_
 ·have:=putRow_heap w m g dk.toList os k hk hl
  simpa [sortWorld]using this
 ·have hcl:(L.filter fun x=>!hasI ML x).length<=L.length:=List.length_filter_le _ _
  have h3:=hL.puts (l':=(L.filter fun x=>!hasI ML x)++List.replicate (L.length - (L.filter fun x=>!hasI ML x).length) 0) (by simp;omega) (fun x hx=>by
   rcases List.mem_append.1 hx with hx|hx
   ·exact(hL.rs rInt_ok).rng x (List.mem_filter.1 hx).1
   ·rw [List.eq_of_mem_replicate hx];exact I64_zero) q #[]
  have q3:w'=Sort.putRow (Value.int .i64) (Sort.ahead w q) g 0 ((L.filter fun x=>!hasI ML x)++List.replicate (L.length - (L.filter fun x=>!hasI ML x).length) 0).toArray:=by rw [q2];simp
  rw [Sort.grow_empty,<- q3]at h3
  refine⟨_,by rw [q1],?_,fun k hk hl=>?_,?_⟩
  ·have:=h3.cut (k:=(L.filter fun x=>!hasI ML x).length) hcl
   simpa using this
  ·have:=putRow_heap w q g ((L.filter fun x=>!hasI ML x)++List.replicate (L.length - (L.filter fun x=>!hasI ML x).length) 0) #[] k (by simpa [blk]using hk) hl
   rwa [Sort.grow_empty,<- q3]at this
  ·have:=putRow_below hg hB ((L.filter fun x=>!hasI ML x)++List.replicate (L.length - (L.filter fun x=>!hasI ML x).length) 0) q #[]
   rwa [Sort.grow_empty,<- q3]at this
theorem Rdl.del {wb wr w':World}{O L ps:List Int}{AO:Option Addr}{nO cO:Nat}{AL:Option Addr}{nL cL:Nat}(h:Rdl wb O L [] AO nO cO AL nL cL none 0 0 wr) (hk:∀ k,k∉blk AL->k<wr.heap.size->w'.heap[k]?=wr.heap[k]?) (hb:Below wb.heap.size wr w') {L':List Int}{nL':Nat}(hm:MS wb.heap.size NB 3 rInt w' AL nL' cL L'):Rdl wb O L' [] AO nO cO AL nL' cL none 0 0 w' :=
 ⟨h.mo.heapI (fun k hk'=>hk k (h.d1 k hk') (h.mo.bkI k hk').2),hm,MS.nil _ (Nat.zero_le _),h.d1,fun k _ hk'=>by simp [blk]at hk',h.be.trans hb⟩
/-- the best plan so far, as the program bears it: the plan, and what it covers -/
def BestI (cov:Int->Int->Bool) (L ps:List Int) (k:Nat) (bz:Int) (ML:List Int):Prop:=(bestTo cov L ps k).2=ML.length/\((bestTo cov L ps k).1=none/\bz=-1/\ML=[]\/∃ (j:Nat) (p:Int),(bestTo cov L ps k).1=some j/\ps[j]?=some p/\bz=p/\ML=L.filter (cov p))
theorem BestI.yes {cov:Int->Int->Bool}{L ps:List Int}{k:Nat}{bz:Int}{ML:List Int}{p:Int}(h:BestI cov L ps k bz ML) (hp:ps[k]?=some p) (hc:ML.length<covN cov L p):BestI cov L ps (k+1) p (L.filter (cov p)):=by
 unfold BestI;rw [bestTo_next hp];unfold bestStep;rw [h.1,if_pos hc];exact⟨rfl,.inr ⟨k,p,rfl,hp,rfl,rfl⟩⟩
theorem BestI.no {cov:Int->Int->Bool}{L ps:List Int}{k:Nat}{bz:Int}{ML:List Int}{p:Int}(h:BestI cov L ps k bz ML) (hp:ps[k]?=some p) (hc:¬ ML.length<covN cov L p):BestI cov L ps (k+1) bz ML:=by
 have h2:=h
 unfold BestI at h2 ⊢;rw [bestTo_next hp];unfold bestStep;rw [h.1,if_neg hc];exact h2
theorem BestI.fin {cov:Int->Int->Bool}{L ps:List Int}{n:Nat}{bz:Int}{ML:List Int}(h:BestI cov L ps n bz ML) (hn:ps.length=n) (hpos:∀ p x,cov p x=true->0<=p):(bz=-1/\reduce cov ps L=[])\/0<=bz/\reduce cov ps L=bz::reduce cov ps (leftOf cov L bz)/\(leftOf cov L bz).length<L.length/\(L.filter fun x=>!hasI ML x)=leftOf cov L bz:=by
 subst hn
 rcases h.2 with ⟨h1,h2,_⟩|⟨j,p,h1,hp,rfl,rfl⟩
 ·exact .inl ⟨h2,reduce_none (by unfold bestP;rw [h1])⟩
 ·have hb:bestP cov L ps=some bz:=by unfold bestP;rw [h1];exact hp
  obtain⟨x,_,hx⟩:=bestP_pos hb
  refine .inr ⟨hpos _ _ hx,reduce_some hb,leftOf_lt hb,?_⟩
  unfold leftOf
  refine List.filter_congr fun x hx=>?_
  obtain⟨k,hk,rfl⟩:=List.getElem_of_mem hx
  rw [gone_has (List.getElem?_eq_getElem hk)]
theorem coversL_pos {m:ModelD}{q:QueryD}{s:SpaceD}{k i b:Int}(h:coversL m q s k i b=true):0<=k:=by
 unfold coversL coversX at h
 simp only [Bool.and_eq_true]at h
 exact(inR_t.1 h.2.2.1).1
set_option maxRecDepth 100000 in
set_option maxHeartbeats 1600000 in
theorem iReducePlans_c (csm:List Value) (m:ModelD) (csq:List Value) (q:QueryD) (css:List Value) (s:SpaceD) (Af:Option Addr) (nf cf:Nat) (f:List Int) (b:Int) (w:World) (hm:(rModel NB).rep w csm m) (hq:(rQuery NB).rep w csq q) (hs:(rSpace NB).rep w css s) (hf:RS NB rInt w Af nf cf f) :
  Calls Tryz.prog 49 #[.agg csm.toArray,.agg csq.toArray,.agg css.toArray,.slice Af nf cf,.int .i64 b] w (RetS 3 rInt (reducePlans (fun k x=>coversL m q s k x b) (frontierPlans s f) f) w):=by
 have rm:=hm
 have lenm:=(rModel_ok NB).len hm
 clear hm
 have rq:=hq
 obtain⟨AqAtoms,nqAtoms,cqAtoms,rfl,hqVariableCount,hqAtoms⟩:=rQuery_rep.1 hq
 clear hq
 have rs:=hs
 obtain⟨AsBoxLow,nsBoxLow,csBoxLow,AsBoxHigh,nsBoxHigh,csBoxHigh,AsCosts,nsCosts,csCosts,AsChoices,nsChoices,csChoices,AsPlans,nsPlans,csPlans,rfl,hsBoxLow,hsBoxHigh,hsCosts,hsChoices,hsPlans⟩:=rSpace_rep.1 hs
 clear hs
 have hB:Below w.heap.size w w:=Below.refl _ _
 have hAm:=(Below.refl (World.heap (w)).size (w)).alloc (Nat.le_refl _) (.cells csm.toArray 50)
 replace hB:=hB.trans (hAm.mono hB.size)
 have bxm:=Bx.new (w) csm 50
 clear hAm
 have hAq:=(Below.refl (World.heap ((w).alloc (.cells csm.toArray 50))).size ((w).alloc (.cells csm.toArray 50))).alloc (Nat.le_refl _) (.cells #[.int .i64 q.fVariableCount,.slice AqAtoms nqAtoms cqAtoms] 54)
 replace hB:=hB.trans (hAq.mono hB.size)
 replace bxm:=bxm.below hAq
 have bxq:=Bx.new ((w).alloc (.cells csm.toArray 50)) [.int .i64 q.fVariableCount,.slice AqAtoms nqAtoms cqAtoms] 54
 simp only [World.size_alloc]at bxq
 clear hAq
 have hAs:=(Below.refl (World.heap (((w).alloc (.cells csm.toArray 50)).alloc (.cells #[.int .i64 q.fVariableCount,.slice AqAtoms nqAtoms cqAtoms] 54))).size (((w).alloc (.cells csm.toArray 50)).alloc (.cells #[.int .i64 q.fVariableCount,.slice AqAtoms nqAtoms cqAtoms] 54))).alloc (Nat.le_refl _) (.cells #[.slice AsBoxLow nsBoxLow csBoxLow,.slice AsBoxHigh nsBoxHigh csBoxHigh,.slice AsCosts nsCosts csCosts,.slice AsChoices nsChoices csChoices,.slice AsPlans nsPlans csPlans] 57)
 replace hB:=hB.trans (hAs.mono hB.size)
 replace bxm:=bxm.below hAs
 replace bxq:=bxq.below hAs
 have bxs:=Bx.new (((w).alloc (.cells csm.toArray 50)).alloc (.cells #[.int .i64 q.fVariableCount,.slice AqAtoms nqAtoms cqAtoms] 54)) [.slice AsBoxLow nsBoxLow csBoxLow,.slice AsBoxHigh nsBoxHigh csBoxHigh,.slice AsCosts nsCosts csCosts,.slice AsChoices nsChoices csChoices,.slice AsPlans nsPlans csPlans] 57
 simp only [World.size_alloc]at bxs
 clear hAs
 have lenm':csm.length=30:=lenm
 clear lenm
 have hnf:=hf.bound
 obtain⟨cov,HCov⟩:∃ c,Hid (c=fun k x=>coversL m q s k x b):=⟨_,rfl⟩
 obtain⟨ps,HPs⟩:∃ ps,Hid (frontierPlans s f=ps):=⟨_,rfl⟩
 have HG:Hid (reducePlans (fun k x=>coversL m q s k x b) (frontierPlans s f) f=reduce cov ps (onceI f)):=by show _=_;rw [HPs.out,HCov.out];rfl
 go_enter Tryz.func49,Tryz.ntmps49
 go_upto_region 1 with fail
 obtain⟨wb,hwb⟩:∃ W,W=((w.alloc (.cells csm.toArray 50)).alloc (.cells #[.int .i64 q.fVariableCount,.slice AqAtoms nqAtoms cqAtoms] 54)).alloc (.cells #[.slice AsBoxLow nsBoxLow csBoxLow,.slice AsBoxHigh nsBoxHigh csBoxHigh,.slice AsCosts nsCosts csCosts,.slice AsChoices nsChoices csChoices,.slice AsPlans nsPlans csPlans] 57):=⟨_,rfl⟩
 rw [<- hwb]at hB bxm bxq bxs ⊢
 clear hwb
 have K1:Hid (∀ W (A:Option Addr) (n c:Nat) (L:List Int) (p:Int),Below wb.heap.size wb W->RS NB rInt W A n c L->Calls Tryz.prog 93 #[.agg csm.toArray,.agg #[.int .i64 q.fVariableCount,.slice AqAtoms nqAtoms cqAtoms],.agg #[.slice AsBoxLow nsBoxLow csBoxLow,.slice AsBoxHigh nsBoxHigh csBoxHigh,.slice AsCosts nsCosts csCosts,.slice AsChoices nsChoices csChoices,.slice AsPlans nsPlans csPlans],.int .i64 p,.slice A n c,.int .i64 b] W (RetS 3 rInt (L.filter (cov p)) W)):=by
  show ∀ W A n c L p,_->_->_
  intro W A n c L p hW hR
  have hX:=hB.trans (hW.mono hB.size)
  have C:=iCoveredBy_c _ m _ q _ s p A n c L b W ((rModel_ok NB).keep rm (cells_below hX)) ((rQuery_ok NB).keep rq (cells_below hX)) ((rSpace_ok NB).keep rs (cells_below hX)) hR
  rw [HCov.out]
  exact C
 have HPos:Hid (∀ p x,cov p x=true->0<=p):=by show ∀ p x,_;intro p x;rw [HCov.out];exact coversL_pos
 have HGI:Hid (reduce cov ps (compactI (sortI f))=reduce cov ps (onceI f)):=by show _=_;exact reduce_perm (onceI_perm f)
 go_wp2_with fail
 refine(iCopyInts_c _ _ _ f _ (hf.below rInt_ok hB)).mono ?_
 rintro e w1 ⟨AL,nL0,cL,rfl,mL,hb1⟩
 go_wp2_with fail
 refine(sortInts_c mL).mono ?_
 rintro e w2 ⟨rfl,mL2,hb2⟩
 go_wp2_with fail
 refine(compactInts_c mL2).mono ?_
 rintro e w3 ⟨rfl,mL3,hb3⟩
 have hE3:=(hb1.trans hb2).trans hb3
 have hN0:(compactI (sortI f)).length<=nf:=by have:=compactI_len (sortI f);have:=(sortI_perm f).length_eq;have:=hf.len;omega
 clear hb1 hb2 hb3 mL mL2
 have hM0:=MS.empty (B:=w3.heap.size) (M:=NB) (e:=3) (r:=rInt) w3 (Nat.le_refl _)
 have hA0:=(Below.refl w3.heap.size w3).alloc (Nat.le_refl _) (.cells #[] 3)
 have J0:Rdl wb [] (compactI (sortI f)) [] (some ⟨w3.heap.size,0,none⟩) 0 0 AL (compactI (sortI f)).length cL none 0 0 (w3.alloc (.cells #[] 3)) :=
  ⟨hM0.base hE3.size,mL3.below rInt_ok hA0,MS.nil _ (Nat.zero_le _),fun k hk hk'=>by simp [blk]at hk;have:=(mL3.bkI k hk').2;omega,fun k _ hk'=>by simp [blk]at hk',hE3.trans (hA0.mono hE3.size)⟩
 clear hM0 hA0 mL3 hE3
 go_wp2
 go_loopw [11,12] (fun l o wr=>∃ (O L:List Int) (AO:Option Addr) (nO cO nL:Nat),o=.slice AO nO cO/\l=.slice AL nL cL/\Rdl wb O L [] AO nO cO AL nL cL none 0 0 wr/\O++reduce cov ps L=reduce cov ps (onceI f)/\nO+nL<=nf) (fun l _ _=>slLen l)
 case atStart=>exact⟨[],compactI (sortI f),_,0,0,_,rfl,rfl,J0,HGI.out,by omega⟩
 case round =>
  clear J0 hN0
  obtain⟨O,L,AO,nO,cO,nL,rfl,rfl,J,hres,hnn⟩:=hrel
  have HR:=Lib.hid hres;clear hres
  by_cases hL:(0:Int)<(nL:Int)
  ·rename World=>wo
   have hL0:0<nL:=by omega
   have hLd:decide (0<nL)=true:=by simp [hL0]
   have HNL:=Lib.hid J.ml.len
   obtain⟨wx,hwx⟩:∃ W,W=(wo.alloc (.cells #[] 3)).alloc (.cells #[.slice (some ⟨wo.heap.size,0,none⟩) 0 0] 30):=⟨_,rfl⟩
   have hAx:Below wo.heap.size wo wx:=by rw [hwx];exact((Below.refl wo.heap.size wo).alloc (Nat.le_refl _) _).alloc (by simp) _
   have kM:Bk wx (wo.heap.size+1) 30 [.slice (some ⟨wo.heap.size,0,none⟩) 0 0]:=by rw [hwx];have:=Bk.new (wo.alloc (.cells #[] 3)) [.slice (some ⟨wo.heap.size,0,none⟩) 0 0] 30;simpa using this
   have mM:MS wo.heap.size NB 3 rInt wx (some ⟨wo.heap.size,0,none⟩) 0 0 []:=by rw [hwx];exact(MS.empty (B:=wo.heap.size) wo (Nat.le_refl _)).below rInt_ok ((Below.refl _ _).alloc (Nat.le_refl _) _)
   have hsx:wx.heap.size=wo.heap.size+1+1:=by rw [hwx];simp
   have Jx:=J.below hAx
   have HWO:Hid (wb.heap.size<=wo.heap.size):=J.be.size
   have hbe:=Jx.be
   have hBx:=hB.trans (hbe.mono hB.size)
   go_upto_region 7 with fail
   rw [<- hwx]
   clear hwx
   have ks_0:=bxs.below hbe 0 _ rfl
   have ks_1:=bxs.below hbe 1 _ rfl
   have ks_2:=bxs.below hbe 2 _ rfl
   have ks_3:=bxs.below hbe 3 _ rfl
   have ks_4:=bxs.below hbe 4 _ rfl
   go_wp2_with fail
   have C:=iFrontierPlans_c _ s _ _ _ f _ ((rSpace_ok NB).keep rs (cells_below hBx)) (hf.below rInt_ok hBx)
   rw [HPs.out]at C
   refine C.mono ?_
   clear C
   rintro e w5 ⟨AP,nP,cP,rfl,mP,hb5⟩
   clear ks_0 ks_1 ks_2 ks_3 ks_4 hBx
   have J5:=Jx.below hb5
   replace kM:=kM.below hb5
   replace mM:=mM.below rInt_ok hb5
   have HLen:=Lib.hid mP.len
   have hnP:nP<=4294967296:=mP.nb
   have hz5:=hb5.size
   have HPB:Hid (∀ k∈blk AP,wo.heap.size+1<k):=by show ∀ k∈blk AP,_;exact fun k hk=>by have:=(mP.bkI k hk).1;omega
   have HLB:Hid (∀ k∈blk AL,k<wo.heap.size):=by show ∀ k∈blk AL,_;exact fun k hk=>(J.ml.bkI k hk).2
   have HOB:Hid (∀ k∈blk AO,k<wo.heap.size):=by show ∀ k∈blk AO,_;exact fun k hk=>(J.mo.bkI k hk).2
   have mP':=mP.base (B':=wb.heap.size) (by have:=J.be.size;omega)
   clear Jx hAx hbe hb5 mP
   go_wp2
   go_loopw [13,33] (fun bv kv wr=>∃ (k:Nat) (bz:Int) (AM:Option Addr) (nM cM:Nat) (ML:List Int),k<=nP/\bv=.int .i64 bz/\kv=.int .i64 k/\I64 bz/\Hid (BestI cov L ps k bz ML)/\Bk wr (wo.heap.size+1) 30 [.slice AM nM cM]/\MS wo.heap.size NB 3 rInt wr AM nM cM ML/\(∀ k∈blk AM,k≠wo.heap.size+1)/\MS wb.heap.size NB 3 rInt wr AP nP cP ps/\Rdl wb O L [] AO nO cO AL nL cL none 0 0 wr/\wo.heap.size+1<wr.heap.size) (fun _ kv _=>nP - (intOf kv).toNat)
   case atStart=>exact⟨0,-1,_,0,0,[],Nat.zero_le _,rfl,rfl,by unfold I64;omega,⟨rfl,.inl ⟨rfl,rfl,rfl⟩⟩,kM,mM,by intro k hk;simp [blk]at hk;omega,mP',J5,by omega⟩
   case round =>
    clear kM mM mP' J5 J
    obtain⟨k,bz,AM,nM,cM,ML,hk,rfl,rfl,hbI,hbest,kM,mM,hMg,mP,J,hgz⟩:=hrel
    have HMG:=Lib.hid hMg;clear hMg
    have hbe:=J.be
    have hB2:=hB.trans (hbe.mono hB.size)
    by_cases hlt:k<nP
    ·obtain⟨bp,op,p,rfl,hc,hI,hp⟩:=(mP.rs rInt_ok).ati hlt
     have HP:=Lib.hid hp.out;clear hp
     have kq_0:=bxq.below hbe 0 _ rfl
     have kq_1:=bxq.below hbe 1 _ rfl
     have ks_0:=bxs.below hbe 0 _ rfl
     have ks_1:=bxs.below hbe 1 _ rfl
     have ks_2:=bxs.below hbe 2 _ rfl
     have ks_3:=bxs.below hbe 3 _ rfl
     have ks_4:=bxs.below hbe 4 _ rfl
     go_wp2_with (refine wpList_load_mid rfl 50 _ rfl w.heap.size 0 rfl csm _ (bxm.below hbe).range Tryz.underlying50 rfl (by rw [lenm'];exact sizeModel) ?_)
     refine(K1.out _ _ _ _ _ p hbe (J.ml.rs rInt_ok)).mono ?_
     rintro e w7 ⟨AC,nC,cC,rfl,mC,hb7⟩
     clear kq_0 kq_1 ks_0 ks_1 ks_2 ks_3 ks_4 hc hB2
     have J7:=J.below hb7
     replace kM:=kM.below hb7
     replace mM:=mM.below rInt_ok hb7
     replace mP:=mP.below rInt_ok hb7
     have hz7:=hb7.size
     have hnC:covN cov L p=nC:=mC.len
     have hnM:=mM.len
     have HNM:=Lib.hid hnM;clear hnM
     have HCM:Hid (∀ k∈blk AC,wo.heap.size+1<k):=by show ∀ k∈blk AC,_;exact fun k hk=>by have:=(mC.bkI k hk).1;omega
     have cM0:=kM.bx 0 _ rfl
     have fM0:=kM.frozen 0
     by_cases hlt2:(nM:Int)<(nC:Int)
     ·have HB:Hid (BestI cov L ps (k+1) p (L.filter (cov p))):=by show BestI _ _ _ _ _ _;exact hbest.out.yes HP.out (by rw [hnC,HNM.out];omega)
      clear hnC
      go_wp2
      have hs9:∀ k,k≠wo.heap.size+1->(w7.setCell ⟨wo.heap.size+1,0,none⟩ (.slice AC nC cC)).heap[k]?=w7.heap[k]?:=fun k hk=>heap_setCell_other _ ⟨wo.heap.size+1,0,none⟩ k _ (fun e=>hk e)
      have k9:=kM.set 0 (.slice AC nC cC)
      have J9:Rdl wb O L [] AO nO cO AL nL cL none 0 0 (w7.setCell ⟨wo.heap.size+1,0,none⟩ (.slice AC nC cC)) :=
       ⟨J7.mo.heapI (fun k hk=>hs9 k (by have:=HOB.out k hk;omega)),J7.ml.heapI (fun k hk=>hs9 k (by have:=HLB.out k hk;omega)),MS.nil _ (Nat.zero_le _),J7.d1,J7.d2,J7.be.setCell (p:=⟨wo.heap.size+1,0,none⟩) (Nat.le_succ_of_le HWO.out) _⟩
      go_roundw
      case rel=>exact⟨k+1,p,AC,nC,cC,_,by omega,rfl,by go_num,hI,HB,k9,(mC.heapI (fun k hk=>hs9 k (by have:=HCM.out k hk;omega))).base (by omega),fun k hk=>by have:=HCM.out k hk;omega,mP.heapI (fun k hk=>hs9 k (by have:=HPB.out k hk;omega)),J9,by simp;omega⟩
      case measure=>simp [intOf];omega
     ·have HB:Hid (BestI cov L ps (k+1) bz ML):=by show BestI _ _ _ _ _ _;exact hbest.out.no HP.out (by rw [hnC,HNM.out];omega)
      clear hnC
      go_wp2
      go_roundw
      case rel=>exact⟨k+1,bz,AM,nM,cM,ML,by omega,rfl,by go_num,hbI,HB,kM,mM,HMG.out,mP,J7,by omega⟩
      case measure=>simp [intOf];omega
    ·have hkP:k=nP:=by omega
     subst hkP
     rcases hbest.out.fin HLen.out HPos.out with ⟨hbz,hred⟩|⟨hbz,hred,hlf,hfl⟩
     ·subst hbz
      have HE:Hid (O=reduce cov ps (onceI f)):=by show _=_;have:=HR.out;rw [hred,List.append_nil]at this;exact this
      clear hred
      go_wp2
      go_ret
      exact⟨_,_,_,rfl,by rw [HG.out,<- HE.out];exact J.mo.base hB.size,hB2⟩
     ·have HRed:=Lib.hid hred;clear hred
      have HLf:=Lib.hid hlf;clear hlf
      have HFl:=Lib.hid hfl;clear hfl
      have hbez:=hbe.size
      have hnOf:nO<=nf:=by omega
      go_wp2_with (at_builtin;refine wpList_appB (r:=rInt) rfl _ _ 30 rfl _ 8 eiInt rInt_ok rfl J.mo ((Below.refl _ _).alloc (Nat.le_refl _) _) hbez ⟨_,0,none⟩ rfl [] [.int .i64 bz] bz ⟨rfl,rfl,hbI⟩ (Fr.nil _) (cell_one_new _ _ _) (by unfold NB at *;omega) (Nat.le_refl _) (by unfold NB at *;omega) ?_;intro A9 k9 w9 hM9 hb9 hg9 hA9)
      have hAl:=(Below.refl wr.heap.size wr).alloc (Nat.le_refl _) (.cells #[.int .i64 bz] 3)
      have J6:=J.below hAl
      have J7:=J6.app hM9 hb9 hg9 (Nat.le_refl _) hA9
      have hMO:∀ k∈blk AM,k∉blk AO:=fun k hk hk'=>by have:=(mM.bkI k hk).1;have:=HOB.out k hk';omega
      have mM9:MS wo.heap.size NB 3 rInt w9 AM nM cM ML:=(mM.below rInt_ok hAl).heapI (fun k hk=>hg9.block k ((mM.below rInt_ok hAl).bkI k hk).2 (fun e=>hMO k hk (mem_blk.2 e.symm)))
      have kM9:Bk w9 (wo.heap.size+1) 30 [.slice AM nM cM]:=(hg9.block _ (kM.below hAl).lt (fun e=>by have:=HOB.out _ (mem_blk.2 e.symm);omega)).trans (kM.below hAl)
      clear hM9 hb9 hA9 hAl J6 J
      go_wp2_with fail
      refine(iRedDel_c wb.heap.size wo.heap.size (wo.heap.size+1) AL AM nL cL nM cM L ML w9 hL0 J7.ml mM9 (kM9.bx 0 _ rfl) (fun h=>by have:=HLB.out _ h;omega) (fun k hk hk'=>by have:=(mM9.bkI k hk).1;have:=HLB.out k hk';omega)).mono ?_
      rintro e w10 ⟨n',rfl,mL',hk10,hb10⟩
      rw [HFl.out]at mL'
      have J10:=J7.del (ps:=ps) hk10 hb10 mL'
      have hnn3:n'<nL:=by have:=HLf.out;rw [HNL.out,mL'.len]at this;exact this
      clear mM9 kM9 mM kM mP hk10 hb10 J7 hg9
      go_wp2
      go_roundw
      case rel=>exact⟨O++[bz],leftOf cov L bz,A9,nO+1,k9,n',rfl,rfl,J10,by rw [List.append_assoc,List.singleton_append,<- HRed.out];exact HR.out,by omega⟩
      case measure=>simp [slLen];omega
  ·have hL0:nL=0:=by omega
   subst hL0
   have hnil:L=[]:=List.eq_nil_of_length_eq_zero J.ml.len
   subst hnil
   have HE:Hid (O=reduce cov ps (onceI f)):=by show _=_;have:=HR.out;rw [reduce_none bestP_nil,List.append_nil]at this;exact this
   go_wp2
   go_ret
   exact⟨_,_,_,rfl,by rw [HG.out,<- HE.out];exact J.mo.base hB.size,hB.trans (J.be.mono hB.size)⟩
end Go.Proofs.YtcfmidbioecdcaaGreat
