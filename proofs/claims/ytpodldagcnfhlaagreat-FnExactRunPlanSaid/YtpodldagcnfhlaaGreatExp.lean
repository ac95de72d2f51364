/-
  Exp
-/
import Derived.Test.YtpodldagcnfhlaaGreatScp
import Derived.Test.YtpodldagcnfhlaaGreatSrs
import Derived.Test.YtpodldagcnfhlaaGreatJlw
namespace Go.Proofs.YtpodldagcnfhlaaGreat
open Go.RowKit
set_option linter.unusedVariables false
set_option linter.unusedSimpArgs false
theorem colsOk_of {l:List Int}(hp:l.Pairwise (·<·)) (hb:∀ x∈l,0<=x/\x<=3):colsOk l 4=true:=by
 unfold colsOk
 rw [List.all_eq_true]
 intro i hi
 rw [List.mem_range]at hi
 have hm:=hb _ (List.getElem_mem hi)
 unfold colAt
 rw [List.getElem?_eq_getElem hi]
 simp only [Bool.and_eq_true]
 refine⟨inR_t.2 (by omega),?_⟩
 cases i with
 | zero=>rfl
 | succ j =>
  show(match l[j]? with|some p=>decide (p<_)|none=>true)=true
  rw [List.getElem?_eq_getElem (by omega:j<l.length)]
  simp only [decide_eq_true_eq]
  exact List.pairwise_iff_getElem.1 hp j (j+1) (by omega) hi (by omega)
theorem asc_key {l:List (List Int)}(h:ascRows l=true) (hc:∀ r∈l,r≠[]):l.Pairwise (fun p q=>keyAt 0 p<=keyAt 0 q):=by
 refine adj_pw (fun a b c h1 h2=>Int.le_trans h1 h2) fun j p q hp hq=>?_
 have h1:=range_all_at h (lt_of_at hq)
 rw [ascAt_s hp hq,decide_eq_true_eq,cmpR_lt]at h1
 cases p with
 | nil=>exact absurd rfl (hc _ (mem_of_at hp))
 | cons a ta=>cases q with
  | nil=>exact absurd h1 (List.not_lt_nil _)
  | cons b tb =>
   show a<=b
   rcases List.cons_lt_cons_iff.1 h1 with h|⟨h,_⟩<;>omega
/-! ### how many atoms a mask has -/
def cntB (m:Int):Nat:=((List.range 4).filter (mbit m)).length
theorem cntB_le (m:Int):cntB m<=4:=by unfold cntB;exact Nat.le_trans (List.length_filter_le _ _) (by simp)
theorem filter_or {α:Type}{p q:α->Bool}:∀ {l:List α},(∀ i∈l,¬ (p i=true/\q i=true))->(l.filter fun i=>p i||q i).length=(l.filter p).length+(l.filter q).length
 | [],_=>rfl
 | x::l,h=>by
  have ih:=filter_or (l:=l) (fun i hi=>h i (List.mem_cons_of_mem _ hi))
  have hx:=h x List.mem_cons_self
  cases hp:p x<;>cases hq:q x<;>simp [hp,hq]at hx ⊢<;>simp only [ih]<;>omega
theorem cntB_or {a b:Int}(h:andI a b=0):cntB (orI a b)=cntB a+cntB b:=by
 have e:mbit (orI a b)=fun i=>mbit a i||mbit b i:=funext fun i=>mbit_or a b i
 unfold cntB
 rw [e];exact filter_or fun i _=>andI_zero.1 h i
theorem cntB_pow {k:Nat}(h:k<4):1<=cntB (pow2 (k:Int)):=by
 unfold cntB
 exact List.length_pos_of_mem (a:=k) (List.mem_filter.2 ⟨List.mem_range.2 h,by rw [mbit_pow];simp⟩)
theorem hasV_or (l:List AtomD) (a b v:Int):hasV l (orI a b) v=true↔hasV l a v=true\/hasV l b v=true:=by
 rw [hasV_iff,hasV_iff,hasV_iff]
 constructor
 ·rintro⟨i,x,h1,h2,h3⟩
  rw [mbit_or,Bool.or_eq_true]at h2
  rcases h2 with h2|h2
  ·exact .inl ⟨i,x,h1,h2,h3⟩
  ·exact .inr ⟨i,x,h1,h2,h3⟩
 ·rintro(⟨i,x,h1,h2,h3⟩|⟨i,x,h1,h2,h3⟩)
  ·exact⟨i,x,h1,by rw [mbit_or,h2];rfl,h3⟩
  ·exact⟨i,x,h1,by rw [mbit_or,h2,Bool.or_true],h3⟩
theorem hasV_pow {l:List AtomD}{k:Nat}{a:AtomD}(h:l[k]?=some a) (v:Int):hasV l (pow2 (k:Int)) v=true↔v∈a.fVars:=by
 rw [hasV_iff]
 constructor
 ·rintro⟨i,x,h1,h2,h3⟩
  rw [mbit_pow,decide_eq_true_eq,Int.toNat_natCast]at h2
  subst h2;rw [h]at h1;injection h1 with h1;subst h1;exact h3
 ·intro hv;exact⟨k,a,h,by rw [mbit_pow];simp,hv⟩
theorem nest_len {α β γ:Type}(f:α->β->Option γ) (xs:List α) (ys:List β):(nestRows f xs ys).length<=xs.length*ys.length:=by
 unfold nestRows
 induction xs with
 | nil=>simp
 | cons x xs ih =>
  rw [List.flatMap_cons,List.length_append,List.length_cons,Nat.add_mul,Nat.one_mul]
  have:=List.length_filterMap_le (f x) ys
  omega
/-! ### sorting by values -/
theorem fm_one {α:Type}(r:α) {a:Nat}:∀ {K:Nat},a<K->(List.range K).flatMap (fun v=>if v=a then [r] else [])=[r]
 | 0,h=>by omega
 | K+1,h=>by
  rw [List.range_succ,List.flatMap_append]
  by_cases hK:a<K
  ·rw [fm_one r hK];simp;omega
  ·have:a=K:=by omega
   have h0:(List.range K).flatMap (fun v=>if v=a then [r] else [])=[]:=by
    rw [List.flatMap_eq_nil_iff];intro v hv;rw [List.mem_range]at hv;rw [if_neg (by omega)]
   rw [h0];simp [this]
theorem bkt_perm {t:Nat}:∀ {l:List (List Int)}{K:Nat},(∀ r∈l,∃ a:Int,r[t]?=some a/\0<=a/\a<K)->(bkt t l K).Perm l:=by
 intro l K h
 unfold bkt
 induction l with
 | nil=>simp [atV]
 | cons r l ih =>
  obtain⟨a,ha,h0,h1⟩:=h r List.mem_cons_self
  have ih:=ih fun r hr=>h r (List.mem_cons_of_mem _ hr)
  have e:∀ v:Nat,atV t v (r::l)=(if v=a.toNat then [r] else [])++atV t v l:=fun v=>by
   unfold atV
   rw [List.filter_cons,ha]
   by_cases hv:v=a.toNat
   ·subst hv;rw [if_pos rfl,if_pos (by simp;omega)];rfl
   ·rw [if_neg hv,if_neg (by simp;omega)];rfl
  have e2:(List.range K).flatMap (fun v=>atV t v (r::l))=(List.range K).flatMap (fun v=>(if v=a.toNat then [r] else [])++atV t v l):=by
   congr 1;exact funext e
  rw [e2]
  refine(fm_swap _ _ _).trans ?_
  have e3:=fm_one r (a:=a.toNat) (K:=K) (by omega)
  rw [e3]
  exact List.Perm.cons _ ih
theorem bkt_sorted {t:Nat}{l:List (List Int)}{K:Nat}:(bkt t l K).Pairwise (fun p q=>keyAt t p<=keyAt t q):=by
 unfold bkt
 refine flatMap_pw (k:=fun v:Nat=>(v:Int)) (k2:=keyAt t) ?_ ?_
 ·exact(List.pairwise_lt_range (n:=K)).imp (fun h=>by omega)
 ·intro v _ r hr
  have:=(List.mem_filter.1 hr).2
  unfold keyAt;rw [of_decide_eq_true this];rfl
def strAt (L:List StreamD) (i:Int):StreamD:=(L[i.toNat]?).getD ⟨[],[]⟩
/-- what a step hands back: x the step, y its info, L the streams so far -/
def stepRun (d:DatabaseD) (q:QueryD) (x:PlanStepD) (y:StepInfoD) (L:List StreamD):StreamD × Bool :=
 if x.fKind=1 then scan d q x.fAtom
 else if x.fKind=2 then sortStream (strAt L y.fLeft) x.fOrder
 else if x.fKind=3 then hashJoin (strAt L y.fLeft) (strAt L y.fRight)
 else if x.fKind=4 then mergeJoin (strAt L y.fLeft) (strAt L y.fRight) x.fOrder
 else nestedJoin (strAt L y.fLeft) (strAt L y.fRight)
def runSteps (d:DatabaseD) (q:QueryD) (z:List (PlanStepD × StepInfoD)):List StreamD:=z.foldl (fun L p=>L++[(stepRun d q p.1 p.2 L).1]) []
theorem runSteps_snoc (d:DatabaseD) (q:QueryD) (z:List (PlanStepD × StepInfoD)) (p:PlanStepD × StepInfoD):runSteps d q (z++[p])=runSteps d q z++[(stepRun d q p.1 p.2 (runSteps d q z)).1]:=by unfold runSteps;rw [List.foldl_append];rfl
/-- the infos and the streams of a plan that is carried out -/
def execD (d:DatabaseD) (q:QueryD) (p:PlanD):Option (List StepInfoD × List StreamD):=match planInfo q p with
 | some l=>if queryFor d q then some (l,runSteps d q (p.fSteps.zip l)) else none
 | none=>none
/-- a step's kind and its inputs -/
inductive Shape (q:QueryD) (x:PlanStepD) (l:List StepInfoD) (y:StepInfoD):Prop
 | scan (h:x.fKind=1) (j:Nat) (a:AtomD) (hj:x.fAtom=j) (ha:q.fAtoms[j]?=some a) (hy:y=⟨pow2 (j:Int),(a.fVars[0]?).getD 0,-1,-1⟩)
 | sort (h:x.fKind=2) (j:Nat) (z:StepInfoD) (hz:l[j]?=some z) (hv:hasV q.fAtoms z.fMask x.fOrder=true) (hy:y=⟨z.fMask,x.fOrder,j,-1⟩)
 | join (h:3<=x.fKind/\x.fKind<=5) (i j:Nat) (a b:StepInfoD) (ha:l[i]?=some a) (hb:l[j]?=some b) (h0:andI a.fMask b.fMask=0) (hm:y.fMask=orI a.fMask b.fMask) (hi:y.fLeft=i) (hj:y.fRight=j)
   (h3:x.fKind=3->y.fOrder=-1) (h5:x.fKind=5->y.fOrder=a.fOrder) (h4:x.fKind=4->y.fOrder=x.fOrder/\a.fOrder=x.fOrder/\b.fOrder=x.fOrder/\hasV q.fAtoms a.fMask x.fOrder=true)
theorem stepInfo_shape {q:QueryD}{x:PlanStepD}{l:List StepInfoD}{st:List Int}{y:StepInfoD}{k:Nat}(h:Run q.fAtoms.length l st) (hs:stepInfo q x l st=some (y,k)):Shape q x l y:=by
 unfold stepInfo at hs
 split at hs
 ·rename_i hk
  split at hs
  ·rename_i hc
   injection hs with hs;injection hs with h1 h2;subst h1
   simp only [Bool.and_eq_true]at hc
   have ha:=inR_t.1 hc.1
   obtain⟨j,hj⟩:∃ j:Nat,x.fAtom=j:=⟨x.fAtom.toNat,by omega⟩
   have hjl:j<q.fAtoms.length:=by omega
   refine .scan hk j q.fAtoms[j] hj (List.getElem?_eq_getElem hjl) ?_
   unfold firstVar
   rw [hj,Int.toNat_natCast,List.getElem?_eq_getElem hjl]
  ·cases hs
 split at hs
 ·cases hs
 split at hs
 ·split at hs
  ·rename_i _ hk hc
   injection hs with hs;injection hs with h1 h2;subst h1
   simp only [Bool.and_eq_true,decide_eq_true_eq]at hc
   obtain⟨j,e1,e2,e3⟩:=h.top (k:=1) (by omega) hc.1.1
   exact .sort hk j _ e3 hc.1.2 (by rw [<- e1])
  ·cases hs
 split at hs
 ·rename_i hc
  simp only [Bool.and_eq_true,decide_eq_true_eq,joinOk]at hc
  have hk:=inR_t.1 hc.1.1
  obtain⟨j,e1,e2,e3⟩:=h.top (k:=1) (by omega) (by omega)
  obtain⟨i,f1,f2,f3⟩:=h.top (k:=2) (by omega) (by omega)
  simp only at hs
  split at hs
  ·rename_i k4
   split at hs
   ·rename_i hc2
    simp only [Bool.and_eq_true,decide_eq_true_eq]at hc2
    injection hs with hs;injection hs with h1 h2;subst h1
    exact .join ⟨by omega,by omega⟩ i j _ _ f3 e3 hc.2.1 rfl f1 e1 (by omega) (by omega) (fun _=>⟨rfl,hc2.1.2,hc2.2,hc2.1.1.1⟩)
   ·cases hs
  ·rename_i k4
   split at hs
   ·injection hs with hs;injection hs with h1 h2;subst h1
    exact .join ⟨by omega,by omega⟩ i j _ _ f3 e3 hc.2.1 rfl f1 e1 (fun h=>by simp [h]) (fun h=>by simp [h]) (fun h=>absurd h k4)
   ·cases hs
 ·cases hs
/-- what holds of a step's stream -/
structure Good (q:QueryD) (y:StepInfoD) (s:StreamD):Prop where
 vars:∀ v,v∈s.fVars↔hasV q.fAtoms y.fMask v=true
 val:validStream s=true
 len:s.fRows.length<=8 ^ cntB y.fMask
 ord:y.fOrder=-1\/isSorted s y.fOrder=true
theorem scan_good {d:DatabaseD}{q:QueryD}(hd:queryFor d q=true) {j:Nat}{a:AtomD}(ha:q.fAtoms[j]?=some a):(scan d q (j:Int)).2=true/\Good q ⟨pow2 (j:Int),(a.fVars[0]?).getD 0,-1,-1⟩ (scan d q (j:Int)).1:=by
 obtain⟨hq,hall⟩:=queryFor_parts hd
 have hqp:=validQ_parts hq
 have ham:=mem_of_at ha
 obtain⟨t,ht,harity,hrows⟩:=hall a ham
 have hap:=atomOk_parts (hqp.2.2.2.2.1 a ham)
 have hnd:=atom_nodup (hqp.2.2.2.2.1 a ham)
 rw [scan_yes hd ha ht]
 refine⟨rfl,?_⟩
 have hvt:=lookup_valid ht
 unfold validTable at hvt
 simp only [Bool.and_eq_true,decide_eq_true_eq]at hvt
 have hval:validStream ⟨sortI a.fVars,t.fRows.map (scanRow a.fVars (sortI a.fVars))⟩=true:=by
  unfold validStream
  simp only [Bool.and_eq_true,decide_eq_true_eq,List.all_eq_true,List.length_map,List.mem_map]
  refine⟨colsOk_of (sortI_lt hnd) (fun x hx=>?_),?_,by omega⟩
  ·have:=validQ_var hq ham (sortI_mem.1 hx);omega
  ·rintro _ ⟨r,hr,rfl⟩
   obtain⟨g1,g2⟩:=hrows r hr
   unfold rowOk scanRow
   simp only [Bool.and_eq_true,decide_eq_true_eq,List.all_eq_true,List.length_map,List.mem_map,and_true]
   rintro _ ⟨v,hv,rfl⟩
   obtain⟨i,p,_,h2,h3⟩:=lk_mem (x:=r) (sortI_mem.1 hv) g1
   rw [h3];exact inR_t.2 (g2 p (List.mem_of_getElem? h2))
 refine⟨fun v=>?_,hval,?_,.inr ?_⟩
 ·rw [hasV_pow ha];exact sortI_mem
 ·show(t.fRows.map _).length<=_
  rw [List.length_map]
  have h1:=cntB_pow (k:=j) (by have:=lt_of_at ha;omega)
  have h2:8 ^ 1<=8 ^ cntB (pow2 (j:Int)):=Nat.pow_le_pow_right (by omega) h1
  show _<=8 ^ cntB (pow2 (j:Int))
  omega
 ·show isSorted _ ((a.fVars[0]?).getD 0)=true
  have h0:0<a.fVars.length:=by omega
  rw [List.getElem?_eq_getElem h0,Option.getD_some]
  have hm:a.fVars[0]∈sortI a.fVars:=sortI_mem.2 (List.getElem_mem h0)
  obtain⟨u,hu1,hu2⟩:=find_some hm
  unfold isSorted
  rw [hval,Bool.true_and]
  show(match (sortI a.fVars).findIdx? (fun c=>c==a.fVars[0]) with|none=>false|some t=>sortedAt t _)=true
  rw [hu1]
  refine sortedAt_of ?_
  rw [List.pairwise_map]
  refine(asc_key hvt.2.2.2.2 (fun r hr e=>by have:=(hrows r hr).1;rw [e]at this;simp at this;omega)).imp ?_
  have hk:∀ r,keyAt u (scanRow a.fVars (sortI a.fVars) r)=keyAt 0 r:=fun r=>by
   unfold keyAt scanRow
   rw [List.getElem?_map,hu2]
   show(lk a.fVars r a.fVars[0]).getD 0=_
   unfold lk
   have:a.fVars.findIdx? (fun b=>b==a.fVars[0])=some 0:=by
    rw [List.findIdx?_eq_some_iff_getElem];exact⟨h0,by simp,fun j hj=>by omega⟩
   rw [this]
  intro p r h
  rw [hk,hk];exact h
theorem sort_good {q:QueryD}{z:StepInfoD}{s:StreamD}(g:Good q z s) {v:Int}(hv:hasV q.fAtoms z.fMask v=true) (j:Int):(sortStream s v).2=true/\Good q ⟨z.fMask,v,j,-1⟩ (sortStream s v).1:=by
 obtain⟨t,ht,ht2⟩:=find_some ((g.vars v).2 hv)
 rw [sortStream_yes g.val ht]
 have hp:=bkt_perm (K:=10) (l:=s.fRows) (t:=t) fun r hr=>by obtain⟨a,h1,h2,h3⟩:=col_of g.val (find_lt ht) r hr;exact⟨a,h1,h2,by omega⟩
 have hval:validStream ⟨s.fVars,bkt t s.fRows 10⟩=true:=by rw [valid_perm hp];exact g.val
 refine⟨rfl,g.vars,hval,?_,.inr ?_⟩
 ·rw [hp.length_eq];exact g.len
 ·unfold isSorted
  rw [hval,Bool.true_and]
  show(match s.fVars.findIdx? (fun c=>c==v) with|none=>false|some t=>sortedAt t _)=true
  rw [ht];exact sortedAt_of bkt_sorted
theorem join_good {q:QueryD}(hq:validQ q=true) {a b y:StepInfoD}{s t:StreamD}(ga:Good q a s) (gb:Good q b t) (h0:andI a.fMask b.fMask=0) (hm:y.fMask=orI a.fMask b.fMask) :
  (hashJoin s t).2=true/\(nestedJoin s t).2=true/\(y.fOrder=-1->Good q y (hashJoin s t).1)/\((y.fOrder=-1\/isSorted s y.fOrder=true)->Good q y (nestedJoin s t).1):=by
 have hl:(nestRows (fun x y=>joinBy s t x y) s.fRows t.fRows).length<=8 ^ cntB y.fMask:=by
  rw [hm,cntB_or h0,Nat.pow_add]
  exact Nat.le_trans (nest_len _ _ _) (Nat.mul_le_mul ga.len gb.len)
 have h4:8 ^ cntB y.fMask<=8 ^ 4:=Nat.pow_le_pow_right (by omega) (cntB_le _)
 have hn:(nestedJoin s t).2=true:=by
  unfold nestedJoin
  rw [ga.val,gb.val]
  unfold capS
  rw [if_pos (by decide),if_pos (by omega)]
 have hh:(hashJoin s t).2=true:=by rw [hash_nested_ok];exact hn
 obtain⟨v1,v2,hle,e1,e2⟩:=hash_yes hh
 have hv:=nest_valid v1 v2 hle
 have hvars:∀ v,v∈unionI s.fVars t.fVars↔hasV q.fAtoms y.fMask v=true:=fun v=>by
  rw [hm,hasV_or,unionI_mem,ga.vars,gb.vars]
  constructor
  ·exact fun h=>h.2
  ·intro h
   refine⟨?_,h⟩
   rcases h with h|h<;>(have:=hasV_bd hq h;omega)
 refine⟨hh,hn,fun ho=>?_,fun ho=>?_⟩
 ·rw [e1]
  exact⟨hvars,by rw [valid_perm (hash_perm s t).symm];exact hv,by rw [(hash_perm s t).length_eq]at hl;exact hl,.inl ho⟩
 ·have hs:y.fOrder=-1\/isSorted (nestedJoin s t).1 y.fOrder=true:=ho.imp id (fun h=>nested_sorted hh h)
  rw [e2]at hs ⊢
  exact⟨hvars,hv,hl,hs⟩
theorem strAt_at {L:List StreamD}{i:Nat}{s:StreamD}(h:L[i]?=some s):strAt L (i:Int)=s:=by unfold strAt;rw [Int.toNat_natCast,h];rfl
theorem step_good {d:DatabaseD}{q:QueryD}{x:PlanStepD}{l:List StepInfoD}{y:StepInfoD}{L:List StreamD}(hd:queryFor d q=true) (hs:Shape q x l y) (hL:L.length=l.length)
  (hg:∀ (i:Nat) z s,l[i]?=some z->L[i]?=some s->Good q z s):(stepRun d q x y L).2=true/\Good q y (stepRun d q x y L).1:=by
 have hq:=(queryFor_parts hd).1
 have get:∀ {i:Nat} {z:StepInfoD},l[i]?=some z->∃ s,L[i]?=some s/\Good q z s:=fun {i z} h=>by
  have hi:i<L.length:=by rw [hL];exact lt_of_at h
  exact⟨L[i],List.getElem?_eq_getElem hi,hg i z _ h (List.getElem?_eq_getElem hi)⟩
 unfold stepRun
 cases hs with
 | scan h j a hj ha hy =>
  rw [if_pos h,hj,hy];exact scan_good hd ha
 | sort h j z hz hv hy =>
  obtain⟨s,h1,g⟩:=get hz
  rw [if_neg (by omega),if_pos h,hy]
  show(sortStream (strAt L (j:Int)) x.fOrder).2=true/\Good q _ (sortStream (strAt L (j:Int)) x.fOrder).1
  rw [strAt_at h1];exact sort_good g hv _
 | join h i j a b ha hb h0 hm hi hj h3 h5 h4 =>
  obtain⟨s,e1,ga⟩:=get ha
  obtain⟨t,e2,gb⟩:=get hb
  have hj':=join_good hq ga gb h0 hm
  rw [if_neg (by omega),if_neg (by omega),hi,hj,strAt_at e1,strAt_at e2]
  by_cases k3:x.fKind=3
  ·rw [if_pos k3];exact⟨hj'.1,hj'.2.2.1 (h3 k3)⟩
  rw [if_neg k3]
  by_cases k4:x.fKind=4
  ·rw [if_pos k4]
   obtain⟨o1,o2,o3,o4⟩:=h4 k4
   have hv0:=(hasV_bd hq o4).1
   have sa:isSorted s x.fOrder=true:=by rcases ga.ord with h|h;omega;rw [<- o2];exact h
   have sb:isSorted t x.fOrder=true:=by rcases gb.ord with h|h;omega;rw [<- o3];exact h
   have e:mergeJoin s t x.fOrder=nestedJoin s t:=by unfold mergeJoin;rw [sa,sb];rfl
   rw [e];exact⟨hj'.2.1,hj'.2.2.2 (.inr (by rw [o1];exact sa))⟩
  ·rw [if_neg k4]
   have o:=h5 (by omega)
   exact⟨hj'.2.1,hj'.2.2.2 (by rw [o];exact ga.ord)⟩
/-- all that a walk needs of a plan's steps -/
structure Exec (d:DatabaseD) (q:QueryD) (p:List PlanStepD) (l:List StepInfoD) (L:List StreamD):Prop where
 li:l.length=p.length
 lL:L.length=p.length
 good:∀ (i:Nat) z s,l[i]?=some z->L[i]?=some s->Good q z s
 step:∀ (i:Nat) x y,p[i]?=some x->l[i]?=some y->Shape q x (l.take i) y/\∃ s,stepRun d q x y (L.take i)=(s,true)/\L[i]?=some s
theorem exec_ok {d:DatabaseD}{q:QueryD}(hd:queryFor d q=true) {p:List PlanStepD}{l:List StepInfoD}{st:List Int}(h:planRun q p=some (l,st)):Exec d q p l (runSteps d q (p.zip l)):=by
 have hq:=(queryFor_parts hd).1
 induction p using snocInd generalizing l st with
 | h0 =>
  simp [planRun]at h
  obtain⟨rfl,rfl⟩:=h
  exact⟨rfl,rfl,by simp,by simp⟩
 | h1 p x ih =>
  have e:planRun q (p++[x])=planStep q (planRun q p) x:=by unfold planRun;rw [List.foldl_append];rfl
  rw [e]at h
  cases hp:planRun q p with
  | none=>rw [hp]at h;cases h
  | some s =>
   obtain⟨l0,st0⟩:=s
   have E:=ih hp
   obtain⟨i1,i2,i3⟩:=planRun_ok hq hp
   rw [hp]at h
   simp only [planStep]at h
   cases hs:stepInfo q x l0 st0 with
   | none=>rw [hs]at h;cases h
   | some s =>
    obtain⟨y,k⟩:=s
    rw [hs]at h
    simp only at h
    injection h with h;injection h with e1 e2;subst e1;subst e2
    have hsh:=stepInfo_shape i1 hs
    have hz:(p++[x]).zip (l0++[y])=p.zip l0++[(x,y)]:=by rw [List.zip_append i2.symm];rfl
    rw [hz,runSteps_snoc]
    generalize runSteps d q (p.zip l0)=L at E
    have hL:L.length=l0.length:=by rw [E.lL,E.li]
    have hgd:=step_good hd hsh hL E.good
    refine⟨by simp [i2],by simp [E.lL],fun i z s h1 h2=>?_,fun i x' y' h1 h2=>?_⟩
    ·by_cases hi:i<l0.length
     ·rw [List.getElem?_append_left hi]at h1
      rw [List.getElem?_append_left (by omega)]at h2
      exact E.good i z s h1 h2
     ·have:=lt_of_at h1
      have e:i=l0.length:=by simp at this;omega
      subst e
      rw [List.getElem?_append_right (Nat.le_refl _)]at h1
      rw [<- hL,List.getElem?_append_right (Nat.le_refl _)]at h2
      simp at h1 h2
      subst h1;subst h2
      exact hgd.2
    ·by_cases hi:i<l0.length
     ·rw [List.getElem?_append_left (by omega)]at h1
      rw [List.getElem?_append_left hi]at h2
      obtain⟨q1,s,q2,q3⟩:=E.step i x' y' h1 h2
      rw [List.take_append_of_le_length (by omega),List.take_append_of_le_length (by omega)]
      exact⟨q1,s,q2,by rw [List.getElem?_append_left (by omega)];exact q3⟩
     ·have:=lt_of_at h2
      have e:i=l0.length:=by simp at this;omega
      subst e
      rw [i2,List.getElem?_append_right (Nat.le_refl _)]at h1
      rw [List.getElem?_append_right (Nat.le_refl _)]at h2
      simp at h1 h2
      subst h1;subst h2
      rw [List.take_left',List.take_left' (by omega)]
      ·refine⟨hsh,(stepRun d q x y L).1,?_,?_⟩
       ·rw [<- hgd.1]
       ·rw [<- hL,List.getElem?_append_right (Nat.le_refl _)];simp
      ·rfl
theorem exec_parts {d:DatabaseD}{q:QueryD}{p:PlanD}{l:List StepInfoD}(hd:queryFor d q=true) (h:planInfo q p=some l):Exec d q p.fSteps l (runSteps d q (p.fSteps.zip l))/\1<=p.fSteps.length/\p.fSteps.length<=14:=by
 obtain⟨_,h1,h2,_⟩:=planInfo_parts h
 unfold planInfo at h
 split at h
 ·cases hr:planRun q p.fSteps with
  | none=>rw [hr]at h;cases h
  | some s =>
   obtain⟨l',st⟩:=s
   rw [hr]at h
   simp only at h
   split at h
   ·injection h with h;subst h
    exact⟨exec_ok hd hr,h1,h2⟩
   ·cases h
 ·cases h
end Go.Proofs.YtpodldagcnfhlaaGreat
