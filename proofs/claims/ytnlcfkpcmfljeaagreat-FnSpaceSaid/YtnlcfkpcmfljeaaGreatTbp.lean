/-
  Tbp
-/
import Derived.Test.YtnlcfkpcmfljeaaGreatPcp
import Derived.Test.YtnlcfkpcmfljeaaGreatJnS
set_option linter.unusedSimpArgs false
set_option linter.unusedVariables false
namespace Go.Proofs.YtnlcfkpcmfljeaaGreat
open Go.RowKit
def better (b:Option PlanEntryD) (x:PlanEntryD):Option PlanEntryD:=match b with
 | none=>some x
 | some y=>if x.fCost<y.fCost then some x else some y
def bestL (l:List PlanEntryD):Option PlanEntryD:=l.foldl better none
def onMask (m:Int) (x:PlanEntryD):Bool:=decide (x.fMask=m)
def bestE (l:List PlanEntryD) (m:Int):Option PlanEntryD:=bestL (l.filter (onMask m))
def isAt (m o:Int) (x:PlanEntryD):Bool:=decide (x.fMask=m)&&decide (x.fOrder=o)
def findE (l:List PlanEntryD) (m o:Int):Option PlanEntryD:=l.find? (isAt m o)
def IxOf (l:List PlanEntryD) (o:Option PlanEntryD) (i:Int):Prop:=match o with
 | none=>i=-1
 | some x=>∃ k:Nat,i=k/\l[k]?=some x
theorem bestE_snoc (l:List PlanEntryD) (x:PlanEntryD) (m:Int):bestE (l++[x]) m=if x.fMask=m then better (bestE l m) x else bestE l m:=by
 unfold bestE bestL;rw [List.filter_append];by_cases h:x.fMask=m
 ·rw [if_pos h]
  have:[x].filter (onMask m)=[x]:=by simp [onMask,h]
  rw [this,List.foldl_append];rfl
 ·rw [if_neg h]
  have:[x].filter (onMask m)=[]:=by simp [onMask,h]
  rw [this,List.append_nil]
theorem bestL_snoc (l:List PlanEntryD) (x:PlanEntryD):bestL (l++[x])=better (bestL l) x:=by unfold bestL;rw [List.foldl_append];rfl
theorem bestL_some {l:List PlanEntryD}(h:l≠[]):∃ x,bestL l=some x:=by
 induction l using snocInd with
 | h0=>exact absurd rfl h
 | h1 l x _ =>
  rw [bestL_snoc];unfold better;split
  ·exact⟨_,rfl⟩
  ·split
   ·exact⟨_,rfl⟩
   ·exact⟨_,rfl⟩
theorem bestL_mem {l:List PlanEntryD}{x:PlanEntryD}(h:bestL l=some x):x∈l:=by
 induction l using snocInd generalizing x with
 | h0=>cases h
 | h1 l y ih =>
  rw [bestL_snoc]at h;unfold better at h;split at h
  ·injection h with h;subst h;simp
  ·rename_i z hz
   split at h
   ·injection h with h;subst h;simp
   ·injection h with h;subst h;exact List.mem_append_left _ (ih hz)
theorem bestE_mem {l:List PlanEntryD}{m:Int}{x:PlanEntryD}(h:bestE l m=some x):x∈l/\x.fMask=m:=by
 have:=bestL_mem h;rw [List.mem_filter]at this;exact⟨this.1,by simpa [onMask]using this.2⟩
theorem bestE_some {l:List PlanEntryD}{m:Int}{x:PlanEntryD}(h:x∈l) (hm:x.fMask=m):∃ y,bestE l m=some y :=
 bestL_some (fun e=>by
  have:x∈l.filter (onMask m):=List.mem_filter.2 ⟨h,by simp [onMask,hm]⟩;rw [e]at this;cases this)
theorem findE_mem {l:List PlanEntryD}{m o:Int}{x:PlanEntryD}(h:findE l m o=some x):x∈l/\x.fMask=m/\x.fOrder=o:=by
 have h1:=List.mem_of_find?_eq_some h;have h2:=List.find?_some h;simp [isAt]at h2;exact⟨h1,h2.1,h2.2⟩
theorem findE_snoc (l:List PlanEntryD) (x:PlanEntryD) (m o:Int):findE (l++[x]) m o=match findE l m o with|some y=>some y|none=>if x.fMask=m/\x.fOrder=o then some x else none:=by
 unfold findE;rw [List.find?_append];cases h:l.find? (isAt m o) with
 | some y=>rfl
 | none =>
  simp only [Option.none_or];by_cases hx:x.fMask=m/\x.fOrder=o
  ·rw [if_pos hx];simp [isAt,hx.1,hx.2]
  ·rw [if_neg hx]
   have:isAt m o x=false:=by
    unfold isAt;by_cases h1:x.fMask=m
    ·have h2:¬ x.fOrder=o:=fun e=>hx ⟨h1,e⟩
     simp [h2]
    ·simp [h1]
   simp [this]
def sortedP (p:PlanD) (v:Int):PlanD:=⟨p.fSteps++[⟨2,0,v⟩]⟩
def joinedP (a b:PlanD) (kd v:Int):PlanD:=⟨a.fSteps++b.fSteps++[⟨kd,0,v⟩]⟩
def sortE (md:ModelD) (s:List Int) (low:PlanEntryD) (mk v:Int):PlanEntryD:=⟨mk,v,low.fCost+opCostV md.fSort (sizeAt s mk) 0 (sizeAt s mk),sortedP low.fPlan v⟩
def inputE (md:ModelD) (s:List Int) (l:List PlanEntryD) (mk v:Int):PlanEntryD:=match bestE l mk with
 | none=>zPlanEntry
 | some low=>match findE l mk v with
  | some x=>if x.fCost<=(sortE md s low mk v).fCost then x else sortE md s low mk v
  | none=>sortE md s low mk v
def joinCost (md:ModelD) (s:List Int) (a b:PlanEntryD) (kd:Int):Int:=a.fCost+b.fCost+opCostV (opOf md kd) (sizeAt s a.fMask) (sizeAt s b.fMask) (sizeAt s (orI a.fMask b.fMask))
def offerE (md:ModelD) (s:List Int) (mine:List PlanEntryD) (a b:PlanEntryD) (kd v:Int) (k:Nat):List PlanEntryD:=match mine[k]? with
 | some x=>if x.fMask=0\/joinCost md s a b kd<x.fCost then mine.set k ⟨orI a.fMask b.fMask,(k:Int) - 1,joinCost md s a b kd,joinedP a.fPlan b.fPlan kd v⟩ else mine
 | none=>mine
def nestE (md:ModelD) (s:List Int) (l:List PlanEntryD) (left:Int) (b:PlanEntryD):Nat->List PlanEntryD->List PlanEntryD
 | 0,mine=>mine
 | n+1,mine=>match findE l left ((n:Int) - 1) with
  | some x=>offerE md s (nestE md s l left b n mine) x b 5 0 n
  | none=>nestE md s l left b n mine
def mergeE (md:ModelD) (s:List Int) (l:List PlanEntryD) (left right:Int) (vs:List Int) (mine:List PlanEntryD):List PlanEntryD :=
 vs.foldl (fun mn v=>offerE md s mn (inputE md s l left v) (inputE md s l right v) 4 v (v+1).toNat) mine
def splitE (md:ModelD) (s:List Int) (l:List PlanEntryD) (mk:Int) (mine:List PlanEntryD) (x:Int × List Int):List PlanEntryD:=match bestE l x.1,bestE l (mk - x.1) with
 | some a,some b=>mergeE md s l x.1 (mk - x.1) x.2 (nestE md s l x.1 b 5 (offerE md s mine a b 3 0 0))
 | _,_=>mine
def mineE (md:ModelD) (s:List Int) (l:List PlanEntryD) (mk:Int) (sp:List (Int × List Int)):List PlanEntryD:=sp.foldl (splitE md s l mk) (List.replicate 5 zPlanEntry)
def joinE (md:ModelD) (s:List Int) (l:List PlanEntryD) (mk:Int) (sp:List (Int × List Int)):List PlanEntryD:=(mineE md s l mk sp).filter (fun x=>decide (0<x.fMask))
def upTo (n:Nat):List Int:=(List.range n).map (fun k:Nat=>(k:Int)+1)
def connMasks (q:QueryD):List Int:=(upTo (fullMask q).toNat).filter (joinedQ q.fAtoms)
def shapeOf (q:QueryD) (m:Int):List (Int × List Int):=(splits q m).map (fun x=>(x,sharedL q x (m - x)))
def single (m:Int):Bool:=decide (andI m (m - 1)=0)
def atom0 (m:Int):Int:=(listV m 4)[0]?.getD 0
def scanE (md:ModelD) (q:QueryD) (s:List Int) (m:Int):PlanEntryD:=⟨m,firstVar q (atom0 m),opCostV md.fScan (sizeAt s m) 0 (sizeAt s m),⟨[⟨1,atom0 m,0⟩]⟩⟩
def tabStep (md:ModelD) (q:QueryD) (s:List Int) (l:List PlanEntryD) (m:Int):List PlanEntryD:=if single m then l++[scanE md q s m] else l++joinE md s l m (shapeOf q m)
def tabOf (md:ModelD) (q:QueryD) (s:List Int) (ms:List Int):List PlanEntryD:=ms.foldl (tabStep md q s) []
def tableE (md:ModelD) (q:QueryD) (s:List Int):List PlanEntryD:=tabOf md q s (connMasks q)
theorem tabOf_snoc {md:ModelD}{q:QueryD}{s ms:List Int}{k:Nat}{m:Int}(h:ms[k]?=some m):tabOf md q s (ms.take (k+1))=tabStep md q s (tabOf md q s (ms.take k)) m:=by
 unfold tabOf;rw [take_snoc h,List.foldl_append];rfl
def adjG (G i j:Nat):Bool:=if i<j then G.testBit (i*(5 - i) / 2+j - 1) else if j<i then G.testBit (j*(5 - j) / 2+i - 1) else false
def nearG (G m:Nat):Nat->Nat
 | 0=>0
 | k+1=>if !m.testBit k&&(List.range 4).any (fun i=>m.testBit i&&adjG G i k) then nearG G m k ||| 2 ^ k else nearG G m k
def bfsG (G n mask:Nat):Nat->Nat
 | 0=>mask &&& (16 - mask)
 | t+1=>bfsG G n mask t ||| (nearG G (bfsG G n mask t) n &&& mask)
def joinedG (G n mask:Nat):Bool:=bfsG G n mask n==mask
theorem g_split:(List.range 64).all (fun G=>(List.range 5).all fun n=>(List.range (2 ^ n)).all fun m=>!joinedG G n m||(m &&& (m - 1)==0)||(List.range m).any fun x=>x != 0&&(x &&& m==x)&&joinedG G n x&&joinedG G n (m - x))=true:=by decide +kernel
def adjQ (l:List AtomD) (i j:Nat):Bool:=match l[i]?,l[j]? with
 | some a,some b=>a.fVars.any (fun v=>b.fVars.contains v)
 | _,_=>false
theorem adjQ_symm (l:List AtomD) (i j:Nat):adjQ l i j=adjQ l j i:=by
 unfold adjQ;cases l[i]?<;>cases l[j]?<;>try rfl
 rw [Bool.eq_iff_iff];simp only [List.any_eq_true,List.contains_iff_mem];exact⟨fun ⟨v,a,b⟩=>⟨v,b,a⟩,fun ⟨v,a,b⟩=>⟨v,b,a⟩⟩
theorem nearAt_adj {q:QueryD}(hq:validQ q=true) {m:Int}{k:Nat}(hk:k<q.fAtoms.length):nearAt q.fAtoms m k=(!mbit m k&&(List.range 4).any (fun i=>mbit m i&&adjQ q.fAtoms i k)):=by
 obtain⟨_,_,_,hl4,_⟩:=validQ_parts hq;unfold nearAt;congr 1;rw [Bool.eq_iff_iff,decide_eq_true_eq,andI_zero];simp only [Classical.not_forall,Decidable.not_not,List.any_eq_true,List.mem_range,Bool.and_eq_true];constructor
 ·rintro⟨v,h1,h2⟩
  rw [mbit_bitsQ hq]at h1 h2;obtain⟨j,b,e1,e2,e3⟩:=hasV_iff.1 h1;obtain⟨i,a,f1,f2,f3⟩:=hasV_iff.1 h2;rw [mbit_pow,Int.toNat_natCast,decide_eq_true_eq]at e2;subst e2;refine⟨i,by have:=lt_of_at f1;omega,f2,?_⟩;unfold adjQ;rw [f1,e1];exact List.any_eq_true.2 ⟨_,f3,List.contains_iff_mem.2 e3⟩
 ·rintro⟨i,hi,h1,h2⟩
  unfold adjQ at h2;cases ha:q.fAtoms[i]? with
  | none=>rw [ha]at h2;cases h2
  | some a =>
   cases hb:q.fAtoms[k]? with
   | none=>rw [ha,hb]at h2;cases h2
   | some b =>
    rw [ha,hb]at h2;obtain⟨v,v1,v2⟩:=List.any_eq_true.1 h2;have v2:=List.contains_iff_mem.1 v2;have hv:=validQ_var hq (mem_of_at ha) v1;refine⟨v.toNat,?_,?_⟩
    ·rw [mbit_bitsQ hq,show((v.toNat:Nat):Int)=v by omega]
     exact hasV_iff.2 ⟨k,b,hb,by rw [mbit_pow];simp,v2⟩
    ·rw [mbit_bitsQ hq,show((v.toNat:Nat):Int)=v by omega]
     exact hasV_iff.2 ⟨i,a,ha,h1,v1⟩
def graphQ (l:List AtomD):Nat:=(if adjQ l 0 1 then 1 else 0)+(if adjQ l 0 2 then 2 else 0)+(if adjQ l 0 3 then 4 else 0)+(if adjQ l 1 2 then 8 else 0)+(if adjQ l 1 3 then 16 else 0)+(if adjQ l 2 3 then 32 else 0)
theorem graphQ_lt (l:List AtomD):graphQ l<64:=by
 unfold graphQ;repeat' split
 all_goals omega
theorem six_bits:∀ a b c d e f:Bool,∀ k:Fin 6,((if a then 1 else 0)+(if b then 2 else 0)+(if c then 4 else 0)+(if d then 8 else 0)+(if e then 16 else 0)+(if f then 32 else 0):Nat).testBit k.val=[a,b,c,d,e,f][k.val]'(k.isLt):=by decide
theorem graphQ_adj (l:List AtomD) {i j:Nat}(hi:i<4) (hj:j<4) (hne:i≠j):adjG (graphQ l) i j=adjQ l i j:=by
 have b:=six_bits (adjQ l 0 1) (adjQ l 0 2) (adjQ l 0 3) (adjQ l 1 2) (adjQ l 1 3) (adjQ l 2 3);have hi4:i=0\/i=1\/i=2\/i=3:=by omega
 have hj4:j=0\/j=1\/j=2\/j=3:=by omega
 unfold adjG graphQ;rcases hi4 with rfl|rfl|rfl|rfl<;>rcases hj4 with rfl|rfl|rfl|rfl
 ·exact absurd rfl hne
 ·exact b 0
 ·exact b 1
 ·exact b 2
 ·rw [adjQ_symm l 1 0];exact b 0
 ·exact absurd rfl hne
 ·exact b 3
 ·exact b 4
 ·rw [adjQ_symm l 2 0];exact b 1
 ·rw [adjQ_symm l 2 1];exact b 3
 ·exact absurd rfl hne
 ·exact b 5
 ·rw [adjQ_symm l 3 0];exact b 2
 ·rw [adjQ_symm l 3 1];exact b 4
 ·rw [adjQ_symm l 3 2];exact b 5
 ·exact absurd rfl hne
theorem nearTo_g {q:QueryD}(hq:validQ q=true) (m:Nat) {k:Nat}(hk:k<=q.fAtoms.length):nearTo q.fAtoms (m:Int) k=((nearG (graphQ q.fAtoms) m k:Nat):Int):=by
 obtain⟨_,_,_,hl4,_⟩:=validQ_parts hq
 induction k with
 | zero=>rfl
 | succ k ih =>
  have ih:=ih (by omega)
  have e:nearAt q.fAtoms (m:Int) k=(!m.testBit k&&(List.range 4).any (fun i=>m.testBit i&&adjG (graphQ q.fAtoms) i k)):=by
   rw [nearAt_adj hq (by omega)];have mb:∀ i,mbit (m:Int) i=m.testBit i:=fun i=>by unfold mbit;rw [Int.toNat_natCast]
   rw [mb];cases hm:m.testBit k with
   | true=>rfl
   | false =>
    simp only [Bool.not_false,Bool.true_and];rw [Bool.eq_iff_iff];simp only [List.any_eq_true,List.mem_range,Bool.and_eq_true,mb];constructor
    ·rintro⟨i,h4,h1,h2⟩
     have hne:i≠k:=by rintro rfl;rw [hm]at h1;cases h1
     exact⟨i,h4,h1,by rw [graphQ_adj _ h4 (by omega) hne];exact h2⟩
    ·rintro⟨i,h4,h1,h2⟩
     have hne:i≠k:=by rintro rfl;rw [hm]at h1;cases h1
     exact⟨i,h4,h1,by rw [graphQ_adj _ h4 (by omega) hne]at h2;exact h2⟩
  unfold nearTo nearG;rw [e];split
  ·rw [ih]
   unfold orI pow2;simp only [Int.toNat_natCast]
  ·exact ih
theorem bfs_g {q:QueryD}(hq:validQ q=true) {m:Nat}(hm:m<16) (t:Nat):bfs q.fAtoms (m:Int) t=((bfsG (graphQ q.fAtoms) q.fAtoms.length m t:Nat):Int):=by
 induction t with
 | zero =>
  unfold bfs bfsG lowB andI;rw [show((16:Int) - (m:Int))=((16 - m:Nat):Int) by omega];simp only [Int.toNat_natCast]
 | succ t ih =>
  unfold bfs bfsG;rw [ih];unfold nearQ;rw [nearTo_g hq _ (Nat.le_refl _)];unfold orI andI;simp only [Int.toNat_natCast]
theorem joined_g {q:QueryD}(hq:validQ q=true) {m:Nat}(hm:m<16):joinedQ q.fAtoms (m:Int)=joinedG (graphQ q.fAtoms) q.fAtoms.length m:=by
 unfold joinedQ joinedG;rw [bfs_g hq hm,Bool.eq_iff_iff,decide_eq_true_eq,beq_iff_eq];omega
theorem splits_some {q:QueryD}{m:Int}(hc:isConn q m=true) (hs:¬ andI m (m - 1)=0):splits q m≠[]:=by
 have hc':=hc;unfold isConn at hc';simp only [Bool.and_eq_true,decide_eq_true_eq]at hc';obtain⟨hk,h0,hj⟩:=hc';have hk':=hk;unfold maskOk at hk';simp only [Bool.and_eq_true]at hk';obtain⟨hq,hr⟩:=hk';have hr:=inR_t.1 hr;obtain⟨_,_,_,hl4,_⟩:=validQ_parts hq;have h2:(2:Nat) ^ q.fAtoms.length<=2 ^ 4:=Nat.pow_le_pow_right (by omega) hl4;unfold pow2 at hr;rw [Int.toNat_natCast]at hr;obtain⟨k,rfl⟩:∃ k:Nat,m=k:=⟨m.toNat,by omega⟩;have g:=List.all_eq_true.1 (List.all_eq_true.1 (List.all_eq_true.1 g_split (graphQ q.fAtoms) (List.mem_range.2 (graphQ_lt _))) q.fAtoms.length (List.mem_range.2 (by omega))) k (List.mem_range.2 (by omega))
 rw [<- joined_g hq (by omega),hj]at g
 have hs':(k &&& (k - 1)==0)=false:=by
  rw [beq_eq_false_iff_ne];intro e;apply hs;unfold andI;rw [show((k:Int) - 1).toNat=k - 1 by omega,Int.toNat_natCast,e];rfl
 rw [hs']at g;simp only [Bool.not_true,Bool.false_or]at g;obtain⟨x,hx,g⟩:=List.any_eq_true.1 g;have hx:=List.mem_range.1 hx;simp only [Bool.and_eq_true,bne_iff_ne,beq_iff_eq]at g;obtain⟨⟨⟨g1,g2⟩,g3⟩,g4⟩:=g;rw [<- joined_g hq (by omega)]at g3 g4;unfold splits;rw [if_pos hc];intro e
 have:(x:Int)∈splitsTo q.fAtoms (k:Int) ((k:Int).toNat - 1):=by
  refine splitsTo_mem.2 ⟨by omega,by rw [Int.toNat_natCast];omega,?_⟩;unfold splitOk;rw [g3,show((k:Int) - (x:Int))=((k - x:Nat):Int) by omega,g4];simp only [Bool.and_true,decide_eq_true_eq];unfold andI;simp only [Int.toNat_natCast];rw [g2]
 rw [e]at this;cases this
structure InOk (x:PlanEntryD):Prop where
 m1:1<=x.fMask
 m2:x.fMask<16
 c1:-2000000000*(x.fPlan.fSteps.length:Int)<=x.fCost
 c2:x.fCost<=2000000000*(x.fPlan.fSteps.length:Int)
 s1:1<=x.fPlan.fSteps.length
 s2:x.fPlan.fSteps.length+2<=4*x.fMask.toNat
structure EntOk (x:PlanEntryD):Prop extends InOk x where
 o1:-1<=x.fOrder
 o2:x.fOrder<=3
 s3:x.fPlan.fSteps.length+3<=4*x.fMask.toNat
theorem InOk.bd {x:PlanEntryD}(h:InOk x):-200000000000<=x.fCost/\x.fCost<=200000000000/\x.fPlan.fSteps.length<=60:=by
 obtain⟨m1,m2,c1,c2,s1,s2⟩:=h;omega
theorem sortE_ok {md:ModelD}{s:List Int}{low:PlanEntryD}{v:Int}(h:EntOk low):InOk (sortE md s low low.fMask v):=by
 obtain⟨⟨m1,m2,c1,c2,s1,s2⟩,_,_,s3⟩:=h;have b:=opCostV_bd (o:=md.fSort) (l:=sizeAt s low.fMask) (r:=0) (t:=sizeAt s low.fMask);unfold sortE sortedP;refine⟨m1,m2,?_,?_,?_,?_⟩<;>simp<;>omega
theorem inputE_ok {md:ModelD}{s:List Int}{l:List PlanEntryD}{mk v:Int}{low:PlanEntryD}(ht:∀ x∈l,EntOk x) (h:bestE l mk=some low):InOk (inputE md s l mk v)/\(inputE md s l mk v).fMask=mk:=by
 have hl:=bestE_mem h;have h2:=hl.2;subst h2;unfold inputE;rw [h];show InOk (match findE l low.fMask v with|some x=>if x.fCost<=(sortE md s low low.fMask v).fCost then x else sortE md s low low.fMask v|none=>sortE md s low low.fMask v)/\PlanEntryD.fMask (match findE l low.fMask v with|some x=>if x.fCost<=(sortE md s low low.fMask v).fCost then x else sortE md s low low.fMask v|none=>sortE md s low low.fMask v)=low.fMask;cases hf:findE l low.fMask v with
 | none=>exact⟨sortE_ok (ht _ hl.1),rfl⟩
 | some x =>
  have hx:=findE_mem hf;show InOk (if x.fCost<=(sortE md s low low.fMask v).fCost then x else sortE md s low low.fMask v)/\PlanEntryD.fMask (if x.fCost<=(sortE md s low low.fMask v).fCost then x else sortE md s low low.fMask v)=low.fMask;split
  ·exact⟨(ht _ hx.1).toInOk,hx.2.1⟩
  ·exact⟨sortE_ok (ht _ hl.1),rfl⟩
structure MineOk (mk:Int) (L:List PlanEntryD):Prop where
 len:L.length=5
 ok:∀ x∈L,x=zPlanEntry\/(EntOk x/\x.fMask=mk)
theorem MineOk.new (mk:Int):MineOk mk (List.replicate 5 zPlanEntry):=⟨by simp,fun x hx=>.inl (List.eq_of_mem_replicate hx)⟩
structure Sides (mk:Int) (lf rt:Nat):Prop where
 p1:1<=lf
 p2:1<=rt
 sum:(lf:Int)+(rt:Int)=mk
 or:((lf ||| rt:Nat):Int)=mk
 lt:mk<16
theorem offerE_ok {md:ModelD}{s:List Int}{mk:Int}{L:List PlanEntryD}{a b:PlanEntryD}{kd v:Int}{k lf rt:Nat}(h:MineOk mk L) (ha:InOk a) (hb:InOk b) (ea:a.fMask=lf) (eb:b.fMask=rt) (hS:Sides mk lf rt) (hk:k<5) :
  MineOk mk (offerE md s L a b kd v k):=by
 unfold offerE;split
 ·rename_i x hx
  split
  ·refine⟨by simp [h.len],fun y hy=>?_⟩
   rcases List.mem_or_eq_of_mem_set hy with hy|rfl
   ·exact h.ok y hy
   ·right
    obtain⟨m1,m2,c1,c2,s1,s2⟩:=ha;obtain⟨n1,n2,d1,d2,t1,t2⟩:=hb;have hor:orI a.fMask b.fMask=mk:=by rw [ea,eb];unfold orI;simp only [Int.toNat_natCast];exact hS.or
    have bc:=opCostV_bd (o:=opOf md kd) (l:=sizeAt s a.fMask) (r:=sizeAt s b.fMask) (t:=sizeAt s (orI a.fMask b.fMask));obtain⟨p1,p2,hs,_,hlt⟩:=hS;refine⟨⟨⟨?_,?_,?_,?_,?_,?_⟩,?_,?_,?_⟩,hor⟩
    all_goals simp only [hor,joinCost,joinedP,List.length_append,List.length_cons,List.length_nil]at *
    all_goals omega
  ·exact h
 ·exact h
def has0 (mk:Int) (L:List PlanEntryD):Prop:=∃ x,L[0]?=some x/\x.fMask=mk
theorem offerE_has {md:ModelD}{s:List Int}{mk:Int}{L:List PlanEntryD}{a b:PlanEntryD}{kd v:Int}{k lf rt:Nat}(h:MineOk mk L) (ea:a.fMask=lf) (eb:b.fMask=rt) (hS:Sides mk lf rt) (hk:k<5) (h0:has0 mk L\/k=0) :
  has0 mk (offerE md s L a b kd v k):=by
 have hor:orI a.fMask b.fMask=mk:=by rw [ea,eb];unfold orI;simp only [Int.toNat_natCast];exact hS.or
 have hlen:=h.len;have hx:L[k]?=some (L[k]'(by omega)):=List.getElem?_eq_getElem _;unfold offerE;rw [hx];show has0 mk (if (L[k]'(by omega)).fMask=0\/joinCost md s a b kd<(L[k]'(by omega)).fCost then _ else L);split
 ·by_cases e:k=0
  ·subst e
   exact⟨_,List.getElem?_set_self (by omega),hor⟩
  ·rcases h0 with ⟨x,h1,h2⟩|h0
   ·exact⟨x,by rw [List.getElem?_set_ne e];exact h1,h2⟩
   ·exact absurd h0 e
 ·rename_i hn
  rcases h0 with h0|rfl
  ·exact h0
  ·refine⟨_,hx,?_⟩
   rcases h.ok _ (mem_of_at hx) with e|e
   ·exact absurd (.inl (by rw [e];rfl)) hn
   ·exact e.2
section
variable {md:ModelD} {s:List Int} {l:List PlanEntryD} {mk:Int} {lf rt:Nat} {b:PlanEntryD}
theorem nestE_ok (ht:∀ x∈l,EntOk x) (hb:InOk b) (eb:b.fMask=rt) (hS:Sides mk lf rt) {n:Nat}(hn:n<=5) {L:List PlanEntryD}(h:MineOk mk L):MineOk mk (nestE md s l lf b n L):=by
 induction n with
 | zero=>exact h
 | succ n ih =>
  unfold nestE;split
  ·rename_i x hx
   have:=findE_mem hx;exact offerE_ok (ih (by omega)) (ht _ this.1).toInOk hb this.2.1 eb hS (by omega)
  ·exact ih (by omega)
theorem nestE_has (ht:∀ x∈l,EntOk x) (hb:InOk b) (eb:b.fMask=rt) (hS:Sides mk lf rt) {n:Nat}(hn:n<=5) {L:List PlanEntryD}(h:MineOk mk L) (h0:has0 mk L):has0 mk (nestE md s l lf b n L):=by
 induction n with
 | zero=>exact h0
 | succ n ih =>
  unfold nestE;split
  ·rename_i x hx
   have:=findE_mem hx;exact offerE_has (nestE_ok ht hb eb hS (by omega) h) this.2.1 eb hS (by omega) (.inl (ih (by omega)))
  ·exact ih (by omega)
theorem mergeE_ok (ht:∀ x∈l,EntOk x) {a:PlanEntryD}(hla:bestE l lf=some a) (hlb:bestE l rt=some b) (hS:Sides mk lf rt) {vs:List Int}(hv:∀ v∈vs,0<=v/\v<=3) {L:List PlanEntryD}(h:MineOk mk L):MineOk mk (mergeE md s l lf rt vs L)/\(has0 mk L->has0 mk (mergeE md s l lf rt vs L)):=by
 induction vs using snocInd with
 | h0=>exact⟨h,id⟩
 | h1 vs v ih =>
  have ih:=ih (fun x hx=>hv x (List.mem_append_left _ hx));have hv:=hv v (by simp);have e:mergeE md s l lf rt (vs++[v]) L=offerE md s (mergeE md s l lf rt vs L) (inputE md s l lf v) (inputE md s l rt v) 4 v (v+1).toNat:=by unfold mergeE;rw [List.foldl_append];rfl
  have i1:=inputE_ok (md:=md) (s:=s) (v:=v) ht hla;have i2:=inputE_ok (md:=md) (s:=s) (v:=v) ht hlb;rw [e];exact⟨offerE_ok ih.1 i1.1 i2.1 i1.2 i2.2 hS (by omega),fun h0=>offerE_has ih.1 i1.2 i2.2 hS (by omega) (.inl (ih.2 h0))⟩
end
structure SplOk (l:List PlanEntryD) (mk:Int) (x:Int × List Int) (lf rt:Nat):Prop where
 e1:x.1=lf
 e2:mk - x.1=rt
 sd:Sides mk lf rt
 b1:∃ a,bestE l lf=some a
 b2:∃ a,bestE l rt=some a
 vs:∀ v∈x.2,0<=v/\v<=3
theorem splitE_ok {md:ModelD}{s:List Int}{l:List PlanEntryD}{mk:Int}{x:Int × List Int}{lf rt:Nat}(ht:∀ x∈l,EntOk x) (hx:SplOk l mk x lf rt) {L:List PlanEntryD}(h:MineOk mk L):MineOk mk (splitE md s l mk L x)/\has0 mk (splitE md s l mk L x):=by
 obtain⟨e1,e2,sd,⟨a,b1⟩,⟨b,b2⟩,vs⟩:=hx;unfold splitE;rw [e2,e1,b1,b2];show MineOk mk (mergeE md s l lf rt x.2 (nestE md s l lf b 5 (offerE md s L a b 3 0 0)))/\has0 mk (mergeE md s l lf rt x.2 (nestE md s l lf b 5 (offerE md s L a b 3 0 0)));have ma:=bestE_mem b1;have mb:=bestE_mem b2;have o1:=offerE_ok (md:=md) (s:=s) (kd:=3) (v:=0) (k:=0) h (ht _ ma.1).toInOk (ht _ mb.1).toInOk ma.2 mb.2 sd (by omega);have o2:=offerE_has (md:=md) (s:=s) (kd:=3) (v:=0) (k:=0) h ma.2 mb.2 sd (by omega) (.inr rfl);have n1:=nestE_ok (md:=md) (s:=s) ht (ht _ mb.1).toInOk mb.2 sd (n:=5) (by omega) o1;have n2:=nestE_has (md:=md) (s:=s) ht (ht _ mb.1).toInOk mb.2 sd (n:=5) (by omega) o1 o2
 have m:=mergeE_ok (md:=md) (s:=s) ht b1 b2 sd vs n1;exact⟨m.1,m.2 n2⟩
def SplsOk (l:List PlanEntryD) (mk:Int) (sp:List (Int × List Int)):Prop:=∀ x∈sp,∃ lf rt,SplOk l mk x lf rt
theorem mineE_ok {md:ModelD}{s:List Int}{l:List PlanEntryD}{mk:Int}{sp:List (Int × List Int)}(ht:∀ x∈l,EntOk x) (hx:SplsOk l mk sp):MineOk mk (mineE md s l mk sp)/\(sp≠[]->has0 mk (mineE md s l mk sp)):=by
 induction sp using snocInd with
 | h0=>exact⟨MineOk.new mk,fun h=>absurd rfl h⟩
 | h1 sp x ih =>
  have ih:=ih (fun y hy=>hx y (List.mem_append_left _ hy));obtain⟨lf,rt,h⟩:=hx x (by simp);have e:mineE md s l mk (sp++[x])=splitE md s l mk (mineE md s l mk sp) x:=by unfold mineE;rw [List.foldl_append];rfl
  rw [e];have:=splitE_ok (md:=md) (s:=s) ht h ih.1;exact⟨this.1,fun _=>this.2⟩
theorem joinE_ok {md:ModelD}{s:List Int}{l:List PlanEntryD}{mk:Int}{sp:List (Int × List Int)}(ht:∀ x∈l,EntOk x) (hx:SplsOk l mk sp):(∀ x∈joinE md s l mk sp,EntOk x/\x.fMask=mk)/\(sp≠[]->1<=mk->∃ x∈joinE md s l mk sp,x.fMask=mk):=by
 have h:=mineE_ok (md:=md) (s:=s) ht hx;unfold joinE;refine⟨fun x hx=>?_,fun hn h1=>?_⟩
 ·rw [List.mem_filter,decide_eq_true_eq]at hx
  rcases h.1.ok x hx.1 with e|e
  ·rw [e]at hx;exact absurd hx.2 (by decide)
  ·exact e
 ·obtain⟨x,h0,hm⟩:=h.2 hn
  exact⟨x,List.mem_filter.2 ⟨mem_of_at h0,decide_eq_true (by omega)⟩,hm⟩
theorem pairwise_before {l:List Int}(h:l.Pairwise (·<·)) {k:Nat}{m x:Int}(hm:l[k]?=some m) (hx:x∈l) (hlt:x<m):x∈l.take k:=by
 obtain⟨i,hi,rfl⟩:=List.getElem_of_mem hx;obtain⟨hk,rfl⟩:=List.getElem?_eq_some_iff.1 hm;have hp:=List.pairwise_iff_getElem.1 h
 have hik:i<k:=by
  rcases Nat.lt_or_ge i k with h1|h1
  ·exact h1
  ·rcases Nat.eq_or_lt_of_le h1 with e|h2
   ·subst e;exact absurd hlt (Int.lt_irrefl _)
   ·have:=hp k i hk hi h2;omega
 exact List.mem_of_getElem? (i:=i) (by rw [List.getElem?_take,if_pos hik,List.getElem?_eq_getElem hi])
theorem upTo_pw (n:Nat):(upTo n).Pairwise (·<·):=by
 unfold upTo;rw [List.pairwise_map];exact List.Pairwise.imp (fun h=>by omega) List.pairwise_lt_range
theorem upTo_mem {n:Nat}{x:Int}:x∈upTo n↔1<=x/\x<=n:=by
 unfold upTo;simp only [List.mem_map,List.mem_range];constructor
 ·rintro⟨k,hk,rfl⟩;omega
 ·rintro⟨h1,h2⟩;exact⟨x.toNat - 1,by omega,by omega⟩
theorem connMasks_mem {q:QueryD}{m:Int}:m∈connMasks q↔(1<=m/\m<=fullMask q)/\joinedQ q.fAtoms m=true:=by
 unfold connMasks;rw [List.mem_filter,upTo_mem];constructor
 ·rintro⟨⟨a,b⟩,c⟩;exact⟨⟨a,by omega⟩,c⟩
 ·rintro⟨⟨a,b⟩,c⟩;exact⟨⟨a,by omega⟩,c⟩
theorem connMasks_pw (q:QueryD):(connMasks q).Pairwise (·<·):=(upTo_pw _).filter _
theorem conn_of {q:QueryD}(hq:validQ q=true) {m:Int}(h:m∈connMasks q):isConn q m=true:=by
 obtain⟨⟨h1,h2⟩,h3⟩:=connMasks_mem.1 h;unfold fullMask at h2;rw [if_pos hq]at h2;unfold isConn maskOk;rw [hq,h3,inR_t.2 ⟨by omega,by unfold pow2;rw [Int.toNat_natCast];omega⟩];simp;omega
theorem fm15 (q:QueryD):fullMask q<=15:=by
 unfold fullMask;split
 ·rename_i h
  have:(2:Nat) ^ q.fAtoms.length<=2 ^ 4:=Nat.pow_le_pow_right (by omega) (validQ_parts h).2.2.2.1;omega
 ·omega
theorem splits_sides {q:QueryD}{m x:Int}(hc:isConn q m=true) (hm:m<=fullMask q) (hx:x∈splits q m):∃ lf rt:Nat,x=lf/\m - x=rt/\Sides m lf rt/\(lf:Int)∈connMasks q/\(rt:Int)∈connMasks q/\(lf:Int)<m/\(rt:Int)<m:=by
 unfold splits at hx;rw [if_pos hc]at hx;obtain⟨h1,h2,h3⟩:=splitsTo_mem.1 hx;unfold splitOk at h3;simp only [Bool.and_eq_true,decide_eq_true_eq]at h3;obtain⟨g1,g2,g3⟩:=h3;have h15:=fm15 q;have hm0:1<m:=by omega
 refine⟨x.toNat,(m - x).toNat,by omega,by omega,⟨by omega,by omega,by omega,?_,by omega⟩,?_,?_,by omega,by omega⟩
 ·have hb:=sub_bits ⟨m.toNat,by omega⟩ ⟨x.toNat,by omega⟩ (by simp only;rw [show((x.toNat:Nat):Int)=x by omega,show((m.toNat:Nat):Int)=m by omega];exact g1)
  have hor:orI x (m - x)=m:=mbit_ext (by unfold orI;omega) (by omega) fun i=>by
   rw [mbit_or];by_cases hi:i<4
   ·have hb:=hb ⟨i,hi⟩
    simp only [show((x.toNat:Nat):Int)=x by omega,show((m.toNat:Nat):Int)=m by omega]at hb;rw [hb];have ha:=mbit_and x m i;rw [g1]at ha;revert ha;generalize mbit m i=a;generalize mbit x i=b;cases a<;>cases b<;>decide
   ·rw [mbit_hi (by omega) (by omega) (by omega),mbit_hi (m:=m - x) (by omega) (by omega) (by omega),mbit_hi (m:=m) (by omega) (by omega) (by omega)];rfl
  unfold orI at hor;exact hor
 ·rw [show((x.toNat:Nat):Int)=x by omega];exact connMasks_mem.2 ⟨⟨by omega,by omega⟩,g2⟩
 ·rw [show(((m - x).toNat:Nat):Int)=m - x by omega];exact connMasks_mem.2 ⟨⟨by omega,by omega⟩,g3⟩
structure TabOk (l:List PlanEntryD) (ms:List Int):Prop where
 ok:∀ x∈l,EntOk x
 all:∀ m∈ms,∃ x∈l,x.fMask=m
theorem shape_ok {q:QueryD}(hq:validQ q=true) {l:List PlanEntryD}{k:Nat}{m:Int}(hm:(connMasks q)[k]?=some m) (h:TabOk l ((connMasks q).take k)):SplsOk l m (shapeOf q m):=by
 intro x hx;unfold shapeOf at hx;obtain⟨y,hy,rfl⟩:=List.mem_map.1 hx;have hmm:=mem_of_at hm;obtain⟨lf,rt,e1,e2,sd,c1,c2,l1,l2⟩:=splits_sides (conn_of hq hmm) (connMasks_mem.1 hmm).1.2 hy;obtain⟨a,ha,hae⟩:=h.all _ (pairwise_before (connMasks_pw q) hm c1 l1);obtain⟨b,hb,hbe⟩:=h.all _ (pairwise_before (connMasks_pw q) hm c2 l2);exact⟨lf,rt,e1,e2,sd,bestE_some ha hae,bestE_some hb hbe,fun v hv=>sharedL_bd hv⟩
theorem firstVar_bd {q:QueryD}(hq:validQ q=true) {i:Int}(h0:0<=i) (h1:i<q.fAtoms.length):0<=firstVar q i/\firstVar q i<=3:=by
 obtain⟨_,_,_,_,h5,_⟩:=validQ_parts hq;have hx:q.fAtoms[i.toNat]?=some (q.fAtoms[i.toNat]'(by omega)):=List.getElem?_eq_getElem _;have ha:=atomOk_parts (h5 _ (mem_of_at hx));have hv:(q.fAtoms[i.toNat]'(by omega)).fVars[0]?=some ((q.fAtoms[i.toNat]'(by omega)).fVars[0]'(by omega)):=List.getElem?_eq_getElem _;unfold firstVar;rw [hx];simp only;rw [hv];have:=validQ_var hq (mem_of_at hx) (mem_of_at hv);simp only [Option.getD_some];omega
theorem single_atom:∀ m:Fin 16,m.val≠0->single (m.val:Int)=true->∃ i:Fin 4,listV (m.val:Int) 4=[(i.val:Int)]/\(m.val:Int)=pow2 ((i.val:Nat):Int):=by decide +kernel
theorem atom0_ok {q:QueryD}(hq:validQ q=true) {m:Int}(h1:1<=m) (h2:m<=fullMask q) (hs:single m=true):∃ i:Nat,listV m 4=[(i:Int)]/\atom0 m=i/\i<q.fAtoms.length/\m=pow2 (i:Int):=by
 have h15:=fm15 q;obtain⟨i,e1,e2⟩:=single_atom ⟨m.toNat,by omega⟩ (fun e=>by have e2:m.toNat=0:=e;omega) (by show single ((m.toNat:Nat):Int)=true;rw [show((m.toNat:Nat):Int)=m by omega];exact hs);have em:((m.toNat:Nat):Int)=m:=by omega
 replace e1:listV m 4=[(i.val:Int)]:=by rw [<- em];exact e1
 replace e2:m=pow2 ((i.val:Nat):Int):=by rw [<- em];exact e2
 refine⟨i.val,e1,by unfold atom0;rw [e1];rfl,?_,e2⟩;unfold fullMask at h2;rw [if_pos hq]at h2;unfold pow2 at e2;rw [Int.toNat_natCast]at e2;refine Classical.byContradiction fun hn=>?_;have:(2:Nat) ^ q.fAtoms.length<=2 ^ i.val:=Nat.pow_le_pow_right (by omega) (by omega);omega
theorem scanE_ok {q:QueryD}(hq:validQ q=true) {md:ModelD}{s:List Int}{m:Int}(h1:1<=m) (h2:m<=fullMask q) (hs:single m=true):EntOk (scanE md q s m):=by
 obtain⟨i,_,e2,h3,_⟩:=atom0_ok hq h1 h2 hs;have h15:=fm15 q;have b:=opCostV_bd (o:=md.fScan) (l:=sizeAt s m) (r:=0) (t:=sizeAt s m);have f:=firstVar_bd hq (i:=atom0 m) (by omega) (by omega);unfold scanE;refine⟨⟨h1,?_,?_,?_,?_,?_⟩,?_,?_,?_⟩<;>simp<;>omega
theorem tab_ok {q:QueryD}(hq:validQ q=true) (md:ModelD) (s:List Int) {k:Nat}(hk:k<=(connMasks q).length):TabOk (tabOf md q s ((connMasks q).take k)) ((connMasks q).take k):=by
 induction k with
 | zero=>exact⟨by simp [tabOf],by simp⟩
 | succ k ih =>
  have ih:=ih (by omega);have hm:(connMasks q)[k]?=some ((connMasks q)[k]'(by omega)):=List.getElem?_eq_getElem _;generalize (connMasks q)[k]'(by omega)=m at hm;have hmm:=mem_of_at hm;obtain⟨⟨h1,h2⟩,_⟩:=connMasks_mem.1 hmm;rw [tabOf_snoc hm,take_snoc hm];unfold tabStep;split
  ·rename_i hs
   have hsc:=scanE_ok hq (md:=md) (s:=s) h1 h2 hs;refine⟨fun x hx=>?_,fun y hy=>?_⟩
   ·rcases List.mem_append.1 hx with hx|hx
    ·exact ih.ok x hx
    ·rw [List.mem_singleton]at hx;subst hx;exact hsc
   ·rcases List.mem_append.1 hy with hy|hy
    ·obtain⟨x,a,b⟩:=ih.all y hy;exact⟨x,List.mem_append_left _ a,b⟩
    ·rw [List.mem_singleton]at hy;subst hy;exact⟨_,List.mem_append_right _ (List.mem_singleton.2 rfl),rfl⟩
  ·rename_i hs
   have hsp:=shape_ok hq hm ih;have hj:=joinE_ok (md:=md) (s:=s) ih.ok hsp
   have hne:shapeOf q m≠[]:=by
    have h3:¬ andI m (m - 1)=0:=fun e=>hs (by unfold single;rw [e];rfl);have:=splits_some (conn_of hq hmm) h3;unfold shapeOf;exact fun e=>this (List.map_eq_nil_iff.1 e)
   refine⟨fun x hx=>?_,fun y hy=>?_⟩
   ·rcases List.mem_append.1 hx with hx|hx
    ·exact ih.ok x hx
    ·exact(hj.1 x hx).1
   ·rcases List.mem_append.1 hy with hy|hy
    ·obtain⟨x,a,b⟩:=ih.all y hy;exact⟨x,List.mem_append_left _ a,b⟩
    ·rw [List.mem_singleton]at hy;subst hy
     obtain⟨x,a,b⟩:=hj.2 hne h1;exact⟨x,List.mem_append_right _ a,b⟩
theorem tableE_ok {q:QueryD}(hq:validQ q=true) (md:ModelD) (s:List Int):TabOk (tableE md q s) (connMasks q):=by
 have:=tab_ok hq md s (k:=(connMasks q).length) (Nat.le_refl _)
 rwa [List.take_length]at this
end Go.Proofs.YtnlcfkpcmfljeaaGreat
