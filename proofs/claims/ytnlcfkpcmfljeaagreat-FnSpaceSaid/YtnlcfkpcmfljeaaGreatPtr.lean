/-
  Ptr
-/
import Derived.Test.YtnlcfkpcmfljeaaGreatTbp
import Derived.Test.YtnlcfkpcmfljeaaGreatTrip
set_option linter.unusedSimpArgs false
set_option linter.unusedVariables false
namespace Go.Proofs.YtnlcfkpcmfljeaaGreat
open Go.RowKit
theorem infoAt_app {l e:List StepInfoD}{i:Nat}{y:StepInfoD}(h:l[i]?=some y):infoAt (l++e) (i:Int)=y:=by
 unfold infoAt;rw [Int.toNat_natCast,List.getElem?_append_left (lt_of_at h),h];rfl
theorem topAt_1 (st:List Int) (i:Int):topAt (st++[i]) 1=i:=by
 unfold topAt;simp
theorem topAt_2 (st:List Int) (i j:Int):topAt (st++[i]++[j]) 2=i:=by
 unfold topAt;have e:(st++[i]++[j]).length - 2=st.length:=by simp
 rw [e,List.append_assoc,List.getElem?_append_right (Nat.le_refl _)];simp
def Runs (md:ModelD) (q:QueryD) (s:List Int) (p:List PlanStepD) (mk o c:Int):Prop:=∀ (l0:List StepInfoD) (st0:List Int),∃ (L:List StepInfoD) (y:StepInfoD),L.length=p.length/\0<p.length /\
 p.foldl (planStep q) (some (l0,st0))=some (l0++L,st0++[((l0.length+p.length - 1:Nat):Int)])/\(l0++L)[l0.length+p.length - 1]?=some y/\y.fMask=mk/\y.fOrder=o /\
 ∀ ext,((p.zip L).map (stepCost md s (l0++L++ext))).sum=c
section
variable {md:ModelD} {q:QueryD} {s:List Int}
theorem runs_snoc {p:List PlanStepD}{x:PlanStepD}{l0:List StepInfoD}{st0 st1:List Int}{L:List StepInfoD}{y:StepInfoD}{k:Nat}(hl:L.length=p.length)
  (h:p.foldl (planStep q) (some (l0,st0))=some (l0++L,st1)) (hs:stepInfo q x (l0++L) st1=some (y,k)) (hk:st1.take (st1.length - k)=st0) :
  (p++[x]).foldl (planStep q) (some (l0,st0))=some (l0++(L++[y]),st0++[((l0.length+(p++[x]).length - 1:Nat):Int)]):=by
 rw [List.foldl_append,h];show planStep q (some (l0++L,st1)) x=_;unfold planStep;simp only [hs,hk];congr 2
 ·simp
 ·congr 2
  simp [hl]
theorem runs_scan {a:Int}(h:inR a 0 ((q.fAtoms.length:Int) - 1)=true):Runs md q s [⟨1,a,0⟩] (pow2 a) (firstVar q a) (opCostV md.fScan (sizeAt s (pow2 a)) 0 (sizeAt s (pow2 a))):=by
 intro l0 st0
 have hs:stepInfo q ⟨1,a,0⟩ (l0++[]) st0=some (⟨pow2 a,firstVar q a,-1,-1⟩,0):=by
  unfold stepInfo;rw [if_pos rfl];simp only [h,Bool.true_and];rfl
 refine⟨[⟨pow2 a,firstVar q a,-1,-1⟩],⟨pow2 a,firstVar q a,-1,-1⟩,rfl,by simp,?_,by simp,rfl,rfl,fun ext=>?_⟩
 ·have:=runs_snoc (p:=[]) (x:=⟨1,a,0⟩) (l0:=l0) (st0:=st0) (st1:=st0) (L:=[]) (q:=q) rfl (by simp) hs (by simp)
  simpa using this
 ·simp only [List.zip_cons_cons,List.zip_nil_right,List.map_cons,List.map_nil,List.sum_cons,List.sum_nil,Int.add_zero]
  rfl
theorem runs_sort {p:List PlanStepD}{mk o c v:Int}(hp:Runs md q s p mk o c) (hv:hasV q.fAtoms mk v=true) (ho:¬ o=v):Runs md q s (p++[⟨2,0,v⟩]) mk v (c+opCostV md.fSort (sizeAt s mk) 0 (sizeAt s mk)):=by
 intro l0 st0;obtain⟨L,y,hl,h0,hf,hy,hm,hoo,hc⟩:=hp l0 st0;obtain⟨j,hj⟩:∃ j:Nat,j=l0.length+p.length - 1:=⟨_,rfl⟩;rw [<- hj]at hf hy;have hi:infoAt (l0++L) (j:Int)=y:=by have:=infoAt_app (e:=[]) hy;rwa [List.append_nil]at this
 have hs:stepInfo q ⟨2,0,v⟩ (l0++L) (st0++[(j:Int)])=some (⟨mk,v,j,-1⟩,1):=by
  unfold stepInfo;rw [if_neg (show ¬ (2:Int)=1 by decide),if_neg (by simp),if_pos rfl,topAt_1,hi,hm,hoo];simp [hv,ho]
 have hr:=runs_snoc hl hf hs (by simp);refine⟨L++[⟨mk,v,j,-1⟩],⟨mk,v,j,-1⟩,by simp [hl],by simp,hr,?_,rfl,rfl,fun ext=>?_⟩
 ·rw [<- List.append_assoc,List.getElem?_append_right (by simp;omega)]
  simp [hl]
 ·rw [List.zip_append hl.symm,List.map_append,List.sum_append]
  have e1:=hc ([⟨mk,v,j,-1⟩]++ext);have e2:l0++(L++[⟨mk,v,(j:Int),-1⟩])++ext=l0++L++([⟨mk,v,(j:Int),-1⟩]++ext):=by simp
  rw [e2,e1];have e3:infoAt (l0++L++([⟨mk,v,(j:Int),-1⟩]++ext)) (j:Int)=y:=infoAt_app hy;simp only [List.zip_cons_cons,List.zip_nil_right,List.map_cons,List.map_nil,List.sum_cons,List.sum_nil,Int.add_zero];congr 1;unfold stepCost leftSize rightSize;simp only [e3,hm];rw [if_pos (by omega),if_neg (by decide)];rfl
theorem runs_join {p1 p2:List PlanStepD}{m1 o1 c1 m2 o2 c2 kd v:Int}(h1:Runs md q s p1 m1 o1 c1) (h2:Runs md q s p2 m2 o2 c2) (hd:andI m1 m2=0) (hsh:¬ andI (bitsQ q.fAtoms m1) (bitsQ q.fAtoms m2)=0)
  (hk:(kd=3/\v=0)\/(kd=5/\v=0)\/(kd=4/\hasV q.fAtoms m1 v=true/\hasV q.fAtoms m2 v=true/\o1=v/\o2=v)) :
  Runs md q s (p1++p2++[⟨kd,0,v⟩]) (orI m1 m2) (if kd=4 then v else if kd=5 then o1 else -1) (c1+c2+opCostV (opOf md kd) (sizeAt s m1) (sizeAt s m2) (sizeAt s (orI m1 m2))):=by
 intro l0 st0;obtain⟨L1,y1,hl1,h01,hf1,hy1,hm1,ho1,hc1⟩:=h1 l0 st0;obtain⟨j1,hj1⟩:∃ j:Nat,j=l0.length+p1.length - 1:=⟨_,rfl⟩;rw [<- hj1]at hf1 hy1;obtain⟨L2,y2,hl2,h02,hf2,hy2,hm2,ho2,hc2⟩:=h2 (l0++L1) (st0++[(j1:Int)]);obtain⟨j2,hj2⟩:∃ j:Nat,j=(l0++L1).length+p2.length - 1:=⟨_,rfl⟩;rw [<- hj2]at hf2 hy2
 have hf:(p1++p2).foldl (planStep q) (some (l0,st0))=some (l0++(L1++L2),st0++[(j1:Int)]++[(j2:Int)]):=by
  rw [List.foldl_append,hf1,hf2,List.append_assoc]
 have i1:infoAt (l0++(L1++L2)) (j1:Int)=y1:=by rw [<- List.append_assoc];exact infoAt_app hy1
 have i2:infoAt (l0++(L1++L2)) (j2:Int)=y2:=by have:=infoAt_app (e:=[]) hy2;rwa [List.append_nil,List.append_assoc]at this
 have hjo:joinOk q y1 y2=true:=by
  unfold joinOk;rw [hm1,hm2,decide_eq_true hd,decide_eq_true hsh];rfl
 have hkr:inR kd 3 5=true:=inR_t.2 (by omega)
 have hs:stepInfo q ⟨kd,0,v⟩ (l0++(L1++L2)) (st0++[(j1:Int)]++[(j2:Int)])=some (⟨orI m1 m2,if kd=4 then v else if kd=5 then o1 else -1,j1,j2⟩,2):=by
  unfold stepInfo;rw [if_neg (show ¬ kd=1 by omega),if_neg (show ¬ ¬ (0:Int)=0 by simp),if_neg (show ¬ kd=2 by omega),topAt_1,topAt_2,i1,i2,hkr,hjo];rw [if_pos (by simp)];simp only [hm1,hm2,ho1,ho2];rcases hk with ⟨rfl,rfl⟩|⟨rfl,rfl⟩|⟨rfl,a,b,c,d⟩
  ·simp
  ·simp
  ·simp [a,b,c,d]
 have hl:(L1++L2).length=(p1++p2).length:=by simp [hl1,hl2]
 have hr:=runs_snoc hl hf hs (by simp);refine⟨L1++L2++[⟨orI m1 m2,if kd=4 then v else if kd=5 then o1 else -1,j1,j2⟩],⟨orI m1 m2,if kd=4 then v else if kd=5 then o1 else -1,j1,j2⟩,by simp [hl1,hl2],by simp;omega,hr,?_,rfl,rfl,fun ext=>?_⟩
 ·have e:l0.length+(p1++p2++[(⟨kd,0,v⟩:PlanStepD)]).length - 1=(l0++(L1++L2)).length:=by simp [hl1,hl2];omega
  rw [<- List.append_assoc,e,List.getElem?_append_right (Nat.le_refl _)];simp
 ·obtain⟨z,hz⟩:∃ z,z=(⟨orI m1 m2,if kd=4 then v else if kd=5 then o1 else -1,(j1:Int),(j2:Int)⟩:StepInfoD):=⟨_,rfl⟩
  rw [<- hz,List.zip_append hl.symm,List.map_append,List.sum_append,List.zip_append hl1.symm,List.map_append,List.sum_append];have e2:l0++(L1++L2++[z])++ext=l0++L1++(L2++[z]++ext):=by simp
  have e3:l0++L1++(L2++[z]++ext)=l0++L1++L2++([z]++ext):=by simp
  have a1:=hc1 (L2++[z]++ext);have a2:=hc2 ([z]++ext);rw [e2,a1];rw [e3,a2];have b1:infoAt (l0++L1++L2++([z]++ext)) (j1:Int)=y1:=by rw [<- e3];exact infoAt_app hy1
  have b2:infoAt (l0++L1++L2++([z]++ext)) (j2:Int)=y2:=infoAt_app hy2;simp only [List.zip_cons_cons,List.zip_nil_right,List.map_cons,List.map_nil,List.sum_cons,List.sum_nil,Int.add_zero];congr 1;unfold stepCost leftSize rightSize;rw [hz];simp only;rw [<- hz,b1,b2,hm1,hm2,if_pos (by omega),if_pos (by omega)]
theorem runs_cost {p:List PlanStepD}{mk o c:Int}(h:Runs md q s p mk o c) (hs:isSizes q s=true) (hl:p.length<=14):planCost md q ⟨p⟩ s=c:=by
 obtain⟨L,y,h1,h2,h3,_,_,_,h4⟩:=h [] [];have hq:=(isSizes_parts hs).1
 have hi:planInfo q ⟨p⟩=some L:=by
  unfold planInfo planRun;rw [hq,inR_t.2 (show 1<=((⟨p⟩:PlanD).fSteps.length:Int)/\((⟨p⟩:PlanD).fSteps.length:Int)<=14 from ⟨by show 1<=(p.length:Int);omega,by show(p.length:Int)<=14;omega⟩)];show(match p.foldl (planStep q) (some ([],[])) with|some (l,st)=>if st.length=1 then some l else none|none=>none)=_;rw [h3];simp
 have h4:=h4 [];simp only [List.nil_append,List.append_nil]at h4;unfold planCost stepCosts;rw [hi];simp only [hs,if_true];have hz:((p.zip L).map (stepCost md s L)).length=p.length:=by simp [h1]
 rw [if_neg (by rw [hz];omega)];exact h4
end
def cntM (m:Int):Nat:=((List.range 4).filter (fun i=>mbit m i)).length
theorem cnt_or:∀ a b:Fin 16,andI (a.val:Int) (b.val:Int)=0->cntM (orI (a.val:Int) (b.val:Int))=cntM (a.val:Int)+cntM (b.val:Int):=by decide +kernel
theorem cnt_le:∀ a:Fin 16,cntM (a.val:Int)<=4:=by decide +kernel
theorem cnt_pos:∀ a:Fin 16,a.val≠0->1<=cntM (a.val:Int):=by decide +kernel
structure InR (md:ModelD) (q:QueryD) (s:List Int) (x:PlanEntryD):Prop where
 m1:1<=x.fMask
 m2:x.fMask<16
 run:Runs md q s x.fPlan.fSteps x.fMask x.fOrder x.fCost
 len:x.fPlan.fSteps.length+2<=4*cntM x.fMask
structure EntR (md:ModelD) (q:QueryD) (s:List Int) (x:PlanEntryD):Prop extends InR md q s x where
 lens:x.fPlan.fSteps.length+3<=4*cntM x.fMask
 ord:x.fOrder=-1\/hasV q.fAtoms x.fMask x.fOrder=true
section
variable {md:ModelD} {q:QueryD} {s:List Int}
theorem EntR.cost {x:PlanEntryD}(h:InR md q s x) (hs:isSizes q s=true):planCost md q x.fPlan s=x.fCost:=by
 have h1:=cnt_le ⟨x.fMask.toNat,by have:=h.m1;have:=h.m2;omega⟩;rw [show((x.fMask.toNat:Nat):Int)=x.fMask by have:=h.m1;omega]at h1;have hl:x.fPlan.fSteps.length<=14:=by have:=h.len;omega
 exact runs_cost h.run hs hl
theorem sortE_run {low:PlanEntryD}{v:Int}(h:EntR md q s low) (hv:hasV q.fAtoms low.fMask v=true) (ho:¬ low.fOrder=v):InR md q s (sortE md s low low.fMask v) :=
 ⟨h.m1,h.m2,runs_sort h.run hv ho,by have:=h.lens;show(low.fPlan.fSteps++[(⟨2,0,v⟩:PlanStepD)]).length+2<=4*cntM low.fMask;rw [List.length_append];show low.fPlan.fSteps.length+1+2<=_;omega⟩
structure SideR (q:QueryD) (a b:Int):Prop where
 dis:andI a b=0
 sh:¬ andI (bitsQ q.fAtoms a) (bitsQ q.fAtoms b)=0
theorem cnt_join {a b:Int}(ha0:1<=a) (ha:a<16) (hb0:1<=b) (hb:b<16) (h:andI a b=0):cntM (orI a b)=cntM a+cntM b/\1<=orI a b/\orI a b<16:=by
 have h1:=cnt_or ⟨a.toNat,by omega⟩ ⟨b.toNat,by omega⟩;simp only at h1;rw [show((a.toNat:Nat):Int)=a by omega,show((b.toNat:Nat):Int)=b by omega]at h1;have h2:=orI_bd (n:=4) (a:=a) (b:=b) (by omega) ha (by omega) hb;have h3:=h1 h;refine⟨h3,?_,h2.2⟩;have h4:=cnt_pos ⟨a.toNat,by omega⟩ (by simp;omega);simp only at h4;rw [show((a.toNat:Nat):Int)=a by omega]at h4;rcases Int.lt_or_le 0 (orI a b) with h5|h5
 ·omega
 ·have:orI a b=0:=by omega
  rw [this]at h3;have:cntM 0=0:=by decide +kernel
  omega
theorem join_run {a b:PlanEntryD}{kd v:Int}{k:Nat}(ha:InR md q s a) (hb:InR md q s b) (hS:SideR q a.fMask b.fMask)
  (hk:(kd=3/\v=0/\(k:Int) - 1=-1)\/(kd=5/\v=0/\(k:Int) - 1=a.fOrder/\(a.fOrder=-1\/hasV q.fAtoms a.fMask a.fOrder=true))\/(kd=4/\(k:Int) - 1=v/\hasV q.fAtoms a.fMask v=true/\hasV q.fAtoms b.fMask v=true/\a.fOrder=v/\b.fOrder=v)) :
  EntR md q s ⟨orI a.fMask b.fMask,(k:Int) - 1,joinCost md s a b kd,joinedP a.fPlan b.fPlan kd v⟩:=by
 obtain⟨hc,h1,h2⟩:=cnt_join ha.m1 ha.m2 hb.m1 hb.m2 hS.dis
 have hr:=runs_join (kd:=kd) (v:=v) ha.run hb.run hS.dis hS.sh (by
  rcases hk with ⟨a,b,_⟩|⟨a,b,_⟩|⟨a,_,c,d,e,f⟩
  ·exact .inl ⟨a,b⟩
  ·exact .inr (.inl ⟨a,b⟩)
  ·exact .inr (.inr ⟨a,c,d,e,f⟩))
 have ho:(if kd=4 then v else if kd=5 then a.fOrder else -1)=(k:Int) - 1:=by
  rcases hk with ⟨e1,e2,e3⟩|⟨e1,e2,e3,_⟩|⟨e1,e3,_⟩
  ·rw [if_neg (by omega),if_neg (by omega),e3]
  ·rw [if_neg (by omega),if_pos e1,e3]
  ·rw [if_pos e1,e3]
 rw [ho]at hr;have hl:(joinedP a.fPlan b.fPlan kd v).fSteps.length=a.fPlan.fSteps.length+b.fPlan.fSteps.length+1:=by unfold joinedP;simp;omega
 have l1:=ha.len;have l2:=hb.len;refine⟨⟨h1,h2,hr,?_⟩,?_,?_⟩
 ·show(joinedP a.fPlan b.fPlan kd v).fSteps.length+2<=4*cntM (orI a.fMask b.fMask);omega
 ·show(joinedP a.fPlan b.fPlan kd v).fSteps.length+3<=4*cntM (orI a.fMask b.fMask);omega
 ·show(k:Int) - 1=-1\/hasV q.fAtoms (orI a.fMask b.fMask) ((k:Int) - 1)=true
  have hor:∀ u,hasV q.fAtoms a.fMask u=true->hasV q.fAtoms (orI a.fMask b.fMask) u=true:=fun u hu=>by
   obtain⟨i,x,e1,e2,e3⟩:=hasV_iff.1 hu;exact hasV_iff.2 ⟨i,x,e1,by rw [mbit_or,e2];rfl,e3⟩
  rcases hk with ⟨_,_,e⟩|⟨_,_,e,e4⟩|⟨_,e,e4,_⟩
  ·exact .inl e
  ·rw [e];exact e4.imp id (hor _)
  ·rw [e];exact .inr (hor _ e4)
end
theorem sharedL_has {q:QueryD}{a b v:Int}(h:v∈sharedL q a b):hasV q.fAtoms a v=true/\hasV q.fAtoms b v=true:=by
 have key:∀ m,v∈maskVarsL q m->hasV q.fAtoms m v=true:=fun m hm=>by
  by_cases hk:maskOk q m=true
  ·exact(maskVarsL_mem (maskOk_bd hk).1 hk).1 hm
  ·unfold maskVarsL at hm;rw [if_neg hk]at hm;cases hm
 unfold sharedL at h;rw [List.mem_filter]at h;unfold hasI at h;exact⟨key a h.1,key b (of_decide_eq_true h.2)⟩
theorem and_of_sum:∀ a b:Fin 16,a.val+b.val=(a.val ||| b.val)->a.val &&& b.val=0:=by decide +kernel
theorem Sides.side {q:QueryD}{mk:Int}{lf rt:Nat}(hq:validQ q=true) (hS:Sides mk lf rt) {v:Int}(hv:v∈sharedL q lf rt):SideR q (lf:Int) (rt:Int):=by
 constructor
 ·have h1:=hS.sum
  have h2:=hS.or;have h3:=hS.lt;have h:=and_of_sum ⟨lf,by omega⟩ ⟨rt,by omega⟩ (by simp only;omega);simp only at h;unfold andI;rw [Int.toNat_natCast,Int.toNat_natCast,h];rfl
 ·intro e
  obtain⟨h1,h2⟩:=sharedL_has hv;rw [andI_zero]at e;have hb:=hasV_bd hq h1;refine e v.toNat ⟨?_,?_⟩
  ·rw [mbit_bitsQ hq,show((v.toNat:Nat):Int)=v by omega];exact h1
  ·rw [mbit_bitsQ hq,show((v.toNat:Nat):Int)=v by omega];exact h2
theorem foldl_same {α β:Type}{f g:α->β->α}{l:List β}(h:∀ x∈l,∀ a,f a x=g a x) (a:α):l.foldl f a=l.foldl g a:=by
 induction l generalizing a with
 | nil=>rfl
 | cons x l ih=>rw [List.foldl_cons,List.foldl_cons,h x (by simp)];exact ih (fun y hy=>h y (by simp [hy])) _
def Asc (G:List PlanEntryD):Prop:=G.Pairwise (fun a b=>a.fOrder<b.fOrder)
def byO (o:Int) (x:PlanEntryD):Bool:=decide (x.fOrder=o)
theorem findE_grp (l:List PlanEntryD) (m o:Int):findE l m o=(l.filter (onMask m)).find? (byO o):=by
 unfold findE
 induction l with
 | nil=>rfl
 | cons x l ih =>
  by_cases h:x.fMask=m
  ·have e:onMask m x=true:=decide_eq_true h
   rw [List.filter_cons_of_pos e];by_cases h2:x.fOrder=o
   ·rw [List.find?_cons_of_pos (by simp [isAt,h,h2]),List.find?_cons_of_pos (by simp [byO,h2])]
   ·rw [List.find?_cons_of_neg (by simp [isAt,h2]),List.find?_cons_of_neg (by simp [byO,h2])];exact ih
  ·rw [List.filter_cons_of_neg (by simp [onMask,h]),List.find?_cons_of_neg (by simp [isAt,h])];exact ih
def lowO (n:Int) (x:PlanEntryD):Bool:=decide (x.fOrder+1<n)
theorem find_none {G:List PlanEntryD}{o:Int}(h:∀ y∈G,¬ y.fOrder=o):G.find? (byO o)=none:=List.find?_eq_none.2 (fun y hy=>by simp [byO,h y hy])
theorem low_none {G:List PlanEntryD}{n:Int}(h:∀ y∈G,n<=y.fOrder+1):G.filter (lowO n)=[]:=List.filter_eq_nil_iff.2 (fun y hy=>by have:=h y hy;simp [lowO];omega)
theorem low_snoc {G:List PlanEntryD}(h:Asc G) (n:Int):G.filter (lowO (n+1))=G.filter (lowO n)++(match G.find? (byO (n - 1)) with|some x=>[x]|none=>[]):=by
 induction G with
 | nil=>rfl
 | cons x t ih =>
  obtain⟨h1,h2⟩:=List.pairwise_cons.1 h;rcases Int.lt_trichotomy (x.fOrder+1) n with c|c|c
  ·rw [List.filter_cons_of_pos (by simp [lowO];omega),List.filter_cons_of_pos (by simp [lowO];omega),List.find?_cons_of_neg (by simp [byO];omega),ih h2];rfl
  ·rw [List.filter_cons_of_pos (by simp [lowO];omega),List.filter_cons_of_neg (by simp [lowO];omega),List.find?_cons_of_pos (by simp [byO];omega),low_none (fun y hy=>by have:=h1 y hy;omega),low_none (fun y hy=>by have:=h1 y hy;omega)];rfl
  ·rw [List.filter_cons_of_neg (by simp [lowO];omega),List.filter_cons_of_neg (by simp [lowO];omega),List.find?_cons_of_neg (by simp [byO];omega),low_none (fun y hy=>by have:=h1 y hy;omega),low_none (fun y hy=>by have:=h1 y hy;omega),find_none (fun y hy=>by have:=h1 y hy;omega)];rfl
theorem find_uniq {G:List PlanEntryD}(h:Asc G) {x:PlanEntryD}(hx:x∈G):G.find? (byO x.fOrder)=some x:=by
 induction G with
 | nil=>cases hx
 | cons y t ih =>
  obtain⟨h1,h2⟩:=List.pairwise_cons.1 h;rcases List.mem_cons.1 hx with rfl|hx
  ·rw [List.find?_cons_of_pos (by simp [byO])]
  ·rw [List.find?_cons_of_neg (by have:=h1 x hx;simp [byO];omega)];exact ih h2 hx
theorem find_and {G:List PlanEntryD}(h:Asc G) (v c:Int):G.find? (fun e=>decide (e.fOrder=v)&&decide (e.fCost<=c))=match G.find? (byO v) with|some x=>if x.fCost<=c then some x else none|none=>none:=by
 induction G with
 | nil=>rfl
 | cons y t ih =>
  obtain⟨h1,h2⟩:=List.pairwise_cons.1 h;by_cases e:y.fOrder=v
  ·rw [List.find?_cons_of_pos (p:=byO v) (by simp [byO,e])]
   by_cases hc:y.fCost<=c
   ·rw [List.find?_cons_of_pos (by simp [e,hc])]
    show _=if y.fCost<=c then some y else none
    rw [if_pos hc]
   ·rw [List.find?_cons_of_neg (by simp [hc]),ih h2,find_none (fun z hz=>by have:=h1 z hz;omega)]
    show _=if y.fCost<=c then some y else none
    rw [if_neg hc]
  ·rw [List.find?_cons_of_neg (p:=byO v) (by simp [byO,e]),List.find?_cons_of_neg (by simp [e])];exact ih h2
section
variable {md:ModelD} {q:QueryD} {s:List Int}
def offerI (md:ModelD) (q:QueryD) (s:List Int) (mk:Int) (mine:List PlanEntryD) (p:PlanD) (k:Nat):List PlanEntryD:=match mine[k]? with
 | some x=>if x.fMask=0\/planCost md q p s<x.fCost then mine.set k ⟨mk,(k:Int) - 1,planCost md q p s,p⟩ else mine
 | none=>mine
def JoinK (q:QueryD) (a b:PlanEntryD) (kd v:Int) (k:Nat):Prop:=(kd=3/\v=0/\(k:Int) - 1=-1)\/(kd=5/\v=0/\(k:Int) - 1=a.fOrder/\(a.fOrder=-1\/hasV q.fAtoms a.fMask a.fOrder=true))\/(kd=4/\(k:Int) - 1=v/\hasV q.fAtoms a.fMask v=true/\hasV q.fAtoms b.fMask v=true/\a.fOrder=v/\b.fOrder=v)
theorem offerI_eq (hs:isSizes q s=true) {a b:PlanEntryD}{kd v mk:Int}{k:Nat}{L:List PlanEntryD}(ha:InR md q s a) (hb:InR md q s b) (hS:SideR q a.fMask b.fMask) (hm:orI a.fMask b.fMask=mk) (hk:JoinK q a b kd v k) :
  offerI md q s mk L (joinedP a.fPlan b.fPlan kd v) k=offerE md s L a b kd v k:=by
 have hc:planCost md q (joinedP a.fPlan b.fPlan kd v) s=joinCost md s a b kd:=EntR.cost (join_run ha hb hS hk).toInR hs;unfold offerI offerE;rw [hc,hm];cases L[k]?<;>rfl
structure MineR (md:ModelD) (q:QueryD) (s:List Int) (mk:Int) (L:List PlanEntryD):Prop where
 len:L.length=5
 ok:∀ (k:Nat) (x:PlanEntryD),L[k]?=some x->x=zPlanEntry\/(EntR md q s x/\x.fMask=mk/\x.fOrder=(k:Int) - 1)
theorem MineR.new (mk:Int):MineR md q s mk (List.replicate 5 zPlanEntry):=⟨by simp,fun k x hx=>.inl (List.eq_of_mem_replicate (mem_of_at hx))⟩
theorem offerE_R {a b:PlanEntryD}{kd v mk:Int}{k:Nat}{L:List PlanEntryD}(h:MineR md q s mk L) (ha:InR md q s a) (hb:InR md q s b) (hS:SideR q a.fMask b.fMask) (hm:orI a.fMask b.fMask=mk) (hk:JoinK q a b kd v k):MineR md q s mk (offerE md s L a b kd v k):=by
 unfold offerE;split
 ·rename_i x hx
  split
  ·refine⟨by simp [h.len],fun j y hy=>?_⟩
   by_cases e:k=j
   ·subst e
    rw [List.getElem?_set_self (lt_of_at hx)]at hy;injection hy with hy;subst hy;exact .inr ⟨join_run ha hb hS hk,hm,rfl⟩
   ·rw [List.getElem?_set_ne e]at hy
    exact h.ok j y hy
  ·exact h
 ·exact h
structure TabR (md:ModelD) (q:QueryD) (s:List Int) (l:List PlanEntryD):Prop where
 ent:∀ x∈l,EntR md q s x/\-1<=x.fOrder/\x.fOrder<=3
 grp:∀ m,Asc (l.filter (onMask m))
variable {l:List PlanEntryD}
theorem nest_fold (hT:TabR md q s l) (left:Int) (b:PlanEntryD) (mine:List PlanEntryD) (n:Nat) :
  nestE md s l left b n mine=((l.filter (onMask left)).filter (lowO (n:Int))).foldl (fun mn e=>offerE md s mn e b 5 0 (e.fOrder+1).toNat) mine:=by
 induction n with
 | zero =>
  rw [low_none (fun y hy=>by have:=(hT.ent y (List.mem_filter.1 hy).1).2.1;simp;omega)];rfl
 | succ n ih =>
  have e:((n+1:Nat):Int)=(n:Int)+1:=by omega
  rw [e,low_snoc (hT.grp left),List.foldl_append,<- ih,<- findE_grp];have e2:nestE md s l left b (n+1) mine=match findE l left ((n:Int) - 1) with|some x=>offerE md s (nestE md s l left b n mine) x b 5 0 n|none=>nestE md s l left b n mine:=rfl;rw [e2];cases hf:findE l left ((n:Int) - 1) with
  | none=>rfl
  | some x =>
   have h3:=(findE_mem hf).2.2;show offerE md s (nestE md s l left b n mine) x b 5 0 n=offerE md s (nestE md s l left b n mine) x b 5 0 (x.fOrder+1).toNat;rw [h3,show((n:Int) - 1+1).toNat=n by omega]
end
section
variable {md:ModelD} {q:QueryD} {s:List Int} {l:List PlanEntryD}
def SortUp (md:ModelD) (s:List Int):Prop:=∀ m,0<=opCostV md.fSort (sizeAt s m) 0 (sizeAt s m)
def inputI (md:ModelD) (q:QueryD) (s:List Int) (G:List PlanEntryD) (v:Int):PlanD:=match bestL G with
 | none=>⟨[]⟩
 | some y=>if y.fOrder=v then y.fPlan else match G.find? (fun e=>decide (e.fOrder=v)&&decide (e.fCost<=planCost md q (sortedP y.fPlan v) s)) with
  | some e=>e.fPlan
  | none=>sortedP y.fPlan v
theorem inputI_eq (hs:isSizes q s=true) (hu:SortUp md s) (hT:TabR md q s l) {low:PlanEntryD}{mk v:Int}(hb:bestE l mk=some low) (hv:hasV q.fAtoms mk v=true) :
  inputI md q s (l.filter (onMask mk)) v=(inputE md s l mk v).fPlan/\InR md q s (inputE md s l mk v)/\(inputE md s l mk v).fMask=mk/\(inputE md s l mk v).fOrder=v:=by
 obtain⟨hl,hm⟩:=bestE_mem hb;subst hm;have hE:=(hT.ent _ hl).1;have hG:low∈l.filter (onMask low.fMask):=List.mem_filter.2 ⟨hl,decide_eq_true rfl⟩;have hbL:bestL (l.filter (onMask low.fMask))=some low:=hb;have hI:inputE md s l low.fMask v=match findE l low.fMask v with|some x=>if x.fCost<=(sortE md s low low.fMask v).fCost then x else sortE md s low low.fMask v|none=>sortE md s low low.fMask v:=by unfold inputE;rw [hb]<;>rfl
 have hIi:inputI md q s (l.filter (onMask low.fMask)) v=if low.fOrder=v then low.fPlan else match (l.filter (onMask low.fMask)).find? (fun e=>decide (e.fOrder=v)&&decide (e.fCost<=planCost md q (sortedP low.fPlan v) s)) with|some e=>e.fPlan|none=>sortedP low.fPlan v:=by unfold inputI;rw [hbL]
 by_cases ho:low.fOrder=v
 ·have hf:findE l low.fMask v=some low:=by rw [findE_grp,<- ho];exact find_uniq (hT.grp _) hG
  have hc:low.fCost<=(sortE md s low low.fMask v).fCost:=by show low.fCost<=low.fCost+_;have:=hu low.fMask;omega
  rw [hI,hf];simp only [if_pos hc];rw [hIi,if_pos ho];exact⟨by first|rfl|trivial,hE.toInR,by first|rfl|trivial,ho⟩
 ·have hS:=sortE_run hE hv ho
  have hpc:planCost md q (sortedP low.fPlan v) s=(sortE md s low low.fMask v).fCost:=EntR.cost hS hs;rw [hI,hIi,if_neg ho,hpc,find_and (hT.grp _),<- findE_grp];cases hf:findE l low.fMask v with
  | none=>exact⟨rfl,hS,rfl,rfl⟩
  | some x =>
   have hx:=findE_mem hf;by_cases hc:x.fCost<=(sortE md s low low.fMask v).fCost
   ·simp only [if_pos hc]
    exact⟨by first|rfl|trivial,(hT.ent _ hx.1).1.toInR,hx.2.1,hx.2.2⟩
   ·simp only [if_neg hc]
    exact⟨by first|rfl|trivial,hS,by first|rfl|trivial,by first|rfl|trivial⟩
def nestI (md:ModelD) (q:QueryD) (s:List Int) (mk:Int) (G:List PlanEntryD) (y:PlanD) (mine:List PlanEntryD):List PlanEntryD:=G.foldl (fun mn e=>offerI md q s mk mn (joinedP e.fPlan y 5 0) (e.fOrder+1).toNat) mine
def mergeI (md:ModelD) (q:QueryD) (s:List Int) (mk:Int) (G H:List PlanEntryD) (vs:List Int) (mine:List PlanEntryD):List PlanEntryD:=vs.foldl (fun mn v=>offerI md q s mk mn (joinedP (inputI md q s G v) (inputI md q s H v) 4 v) (v+1).toNat) mine
def splitI (md:ModelD) (q:QueryD) (s:List Int) (mk:Int) (G H:List PlanEntryD) (vs:List Int) (mine:List PlanEntryD):List PlanEntryD:=match bestL G,bestL H with
 | some a,some b=>mergeI md q s mk G H vs (nestI md q s mk G b.fPlan (offerI md q s mk mine (joinedP a.fPlan b.fPlan 3 0) 0))
 | _,_=>mine
theorem foldl_inv {α β:Type}{P:α->Prop}{f:α->β->α}{l:List β}(h:∀ x∈l,∀ a,P a->P (f a x)) {a:α}(ha:P a):P (l.foldl f a):=by
 induction l generalizing a with
 | nil=>exact ha
 | cons x l ih=>exact ih (fun y hy=>h y (by simp [hy])) (h x (by simp) a ha)
structure SplR (q:QueryD) (l:List PlanEntryD) (mk:Int) (x:Int × List Int) (lf rt:Nat):Prop extends SplOk l mk x lf rt where
 sh:x.2=sharedL q lf rt
 ne:x.2≠[]
theorem split_same (hs:isSizes q s=true) (hq:validQ q=true) (hu:SortUp md s) (hT:TabR md q s l) {mk:Int}{x:Int × List Int}{lf rt:Nat}(hx:SplR q l mk x lf rt) {L:List PlanEntryD} :
  splitI md q s mk (l.filter (onMask x.1)) (l.filter (onMask (mk - x.1))) x.2 L=splitE md s l mk L x/\(MineR md q s mk L->MineR md q s mk (splitE md s l mk L x)):=by
 obtain⟨⟨e1,e2,sd,⟨a,b1⟩,⟨b,b2⟩,_⟩,hsh,hne⟩:=hx;obtain⟨v0,hv0⟩:=List.exists_mem_of_ne_nil _ hne;have S:=sd.side hq (hsh▸hv0);have ma:=bestE_mem b1;have mb:=bestE_mem b2;have A:=(hT.ent _ ma.1).1;have B:=(hT.ent _ mb.1).1;have hor:∀ x y:PlanEntryD,x.fMask=lf->y.fMask=rt->orI x.fMask y.fMask=mk:=fun x y h1 h2=>by rw [h1,h2];unfold orI;simp only [Int.toNat_natCast];exact sd.or
 have hss:∀ x y:PlanEntryD,x.fMask=lf->y.fMask=rt->SideR q x.fMask y.fMask:=fun x y h1 h2=>by rw [h1,h2];exact S
 have jh:JoinK q a b 3 0 0:=.inl ⟨rfl,rfl,by simp⟩
 have jn:∀ e∈l.filter (onMask lf),InR md q s e/\e.fMask=lf/\JoinK q e b 5 0 (e.fOrder+1).toNat:=fun e he=>by
  obtain⟨h1,h2⟩:=List.mem_filter.1 he;have h3:=hT.ent _ h1;exact⟨h3.1.toInR,of_decide_eq_true h2,.inr (.inl ⟨rfl,rfl,by omega,h3.1.ord⟩)⟩
 have jm:∀ v∈x.2,∀ (lv:0<=v),inputI md q s (l.filter (onMask lf)) v=(inputE md s l lf v).fPlan/\inputI md q s (l.filter (onMask rt)) v=(inputE md s l rt v).fPlan/\InR md q s (inputE md s l lf v)/\InR md q s (inputE md s l rt v)/\(inputE md s l lf v).fMask=lf/\(inputE md s l rt v).fMask=rt/\JoinK q (inputE md s l lf v) (inputE md s l rt v) 4 v (v+1).toNat:=fun v hv lv=>by
  obtain⟨h1,h2⟩:=sharedL_has (hsh▸hv);obtain⟨f1,f2,f3,f4⟩:=inputI_eq hs hu hT b1 h1;obtain⟨g1,g2,g3,g4⟩:=inputI_eq hs hu hT b2 h2;exact⟨f1,g1,f2,g2,f3,g3,.inr (.inr ⟨rfl,by omega,by rw [f3];exact h1,by rw [g3];exact h2,f4,g4⟩)⟩
 have hv3:∀ v∈x.2,0<=v:=fun v hv=>(sharedL_bd (hsh▸hv)).1;have hlow:(l.filter (onMask lf)).filter (lowO ((5:Nat):Int))=l.filter (onMask lf):=List.filter_eq_self.2 (fun e he=>by have:=(hT.ent _ (List.mem_filter.1 he).1).2.2;simp [lowO];omega);have hE:splitE md s l mk L x=mergeE md s l lf rt x.2 (nestE md s l lf b 5 (offerE md s L a b 3 0 0)):=by unfold splitE;rw [e2,e1,b1,b2]
 have hI:splitI md q s mk (l.filter (onMask x.1)) (l.filter (onMask (mk - x.1))) x.2 L=mergeI md q s mk (l.filter (onMask lf)) (l.filter (onMask rt)) x.2 (nestI md q s mk (l.filter (onMask lf)) b.fPlan (offerI md q s mk L (joinedP a.fPlan b.fPlan 3 0) 0)):=by
  have c1:bestL (l.filter (onMask lf))=some a:=b1;have c2:bestL (l.filter (onMask rt))=some b:=b2;unfold splitI;rw [e2,e1,c1,c2]
 rw [hE,hI,nest_fold hT,hlow];constructor
 ·rw [offerI_eq hs A.toInR B.toInR (hss a b ma.2 mb.2) (hor a b ma.2 mb.2) jh]
  have n1:nestI md q s mk (l.filter (onMask lf)) b.fPlan (offerE md s L a b 3 0 0)=(l.filter (onMask lf)).foldl (fun mn e=>offerE md s mn e b 5 0 (e.fOrder+1).toNat) (offerE md s L a b 3 0 0):=by
   unfold nestI;refine foldl_same (fun e he mn=>?_) _;obtain⟨i1,i2,i3⟩:=jn e he;exact offerI_eq hs i1 B.toInR (hss e b i2 mb.2) (hor e b i2 mb.2) i3
  rw [n1];unfold mergeI mergeE;refine foldl_same (fun v hv mn=>?_) _;obtain⟨k1,k2,k3,k4,k5,k6,k7⟩:=jm v hv (hv3 v hv);rw [k1,k2];exact offerI_eq hs k3 k4 (hss _ _ k5 k6) (hor _ _ k5 k6) k7
 ·intro hL
  unfold mergeE;refine foldl_inv (fun v hv mn hm=>?_) ?_
  ·obtain⟨k1,k2,k3,k4,k5,k6,k7⟩:=jm v hv (hv3 v hv)
   exact offerE_R hm k3 k4 (hss _ _ k5 k6) (hor _ _ k5 k6) k7
  ·refine foldl_inv (fun e he mn hm=>?_) ?_
   ·obtain⟨i1,i2,i3⟩:=jn e he
    exact offerE_R hm i1 B.toInR (hss e b i2 mb.2) (hor e b i2 mb.2) i3
   ·exact offerE_R hL A.toInR B.toInR (hss a b ma.2 mb.2) (hor a b ma.2 mb.2) jh
def mineI (md:ModelD) (q:QueryD) (s:List Int) (T:Int->List PlanEntryD) (mk:Int) (sp:List (Int × List Int)) (L:List PlanEntryD):List PlanEntryD:=sp.foldl (fun mn x=>splitI md q s mk (T x.1) (T (mk - x.1)) x.2 mn) L
theorem mine_same (hs:isSizes q s=true) (hq:validQ q=true) (hu:SortUp md s) (hT:TabR md q s l) {mk:Int}{sp:List (Int × List Int)}(hx:∀ x∈sp,∃ lf rt,SplR q l mk x lf rt) :
  mineI md q s (fun m=>l.filter (onMask m)) mk sp (List.replicate 5 zPlanEntry)=mineE md s l mk sp/\MineR md q s mk (mineE md s l mk sp):=by
 unfold mineI mineE;constructor
 ·refine foldl_same (fun x h mn=>?_) _
  obtain⟨lf,rt,h⟩:=hx x h;exact(split_same hs hq hu hT h).1
 ·refine foldl_inv (fun x h mn hm=>?_) (MineR.new mk)
  obtain⟨lf,rt,h⟩:=hx x h;exact(split_same hs hq hu hT h).2 hm
def some0 (x:PlanEntryD):Bool:=decide (0<x.fMask)
theorem mine_ent {mk:Int}{L:List PlanEntryD}(h:MineR md q s mk L):(∀ x∈L.filter some0,EntR md q s x/\(-1<=x.fOrder/\x.fOrder<=3)/\x.fMask=mk)/\Asc (L.filter some0):=by
 have key:∀ (k:Nat) (x:PlanEntryD),L[k]?=some x->some0 x=true->EntR md q s x/\x.fMask=mk/\x.fOrder=(k:Int) - 1:=fun k x hk h0=>by
  rcases h.ok k x hk with e|e
  ·rw [e]at h0;exact absurd h0 (by decide)
  ·exact e
 constructor
 ·intro x hx
  obtain⟨h1,h2⟩:=List.mem_filter.1 hx;obtain⟨k,hk⟩:=List.getElem?_of_mem h1;obtain⟨a,b,c⟩:=key k x hk h2;have:=lt_of_at hk;have:=h.len;exact⟨a,⟨by omega,by omega⟩,b⟩
 ·unfold Asc
  rw [List.pairwise_filter,List.pairwise_iff_getElem];intro i j hi hj hij h1 h2;have a:=(key i _ (List.getElem?_eq_getElem hi) h1).2.2;have b:=(key j _ (List.getElem?_eq_getElem hj) h2).2.2;omega
theorem TabR.step (hT:TabR md q s l) {m:Int}(hm:∀ x∈l,x.fMask≠m) {g:List PlanEntryD}(hg:∀ x∈g,EntR md q s x/\(-1<=x.fOrder/\x.fOrder<=3)/\x.fMask=m) (ha:Asc g):TabR md q s (l++g)/\∀ x,(l++g).filter (onMask x)=if x=m then g else l.filter (onMask x):=by
 have key:∀ x,(l++g).filter (onMask x)=if x=m then g else l.filter (onMask x):=fun x=>by
  rw [List.filter_append];split
  ·rename_i e
   subst e;rw [List.filter_eq_nil_iff.2 (fun y hy=>by simp [onMask,hm y hy]),List.filter_eq_self.2 (fun y hy=>by simp [onMask,(hg y hy).2.2])];rfl
  ·rename_i e
   have hn:g.filter (onMask x)=[]:=List.filter_eq_nil_iff.2 (fun y hy=>by have h2:=(hg y hy).2.2;unfold onMask;rw [h2];simp;exact fun h=>e h.symm);rw [hn,List.append_nil]
 refine⟨⟨fun x hx=>?_,fun x=>?_⟩,key⟩
 ·rcases List.mem_append.1 hx with h|h
  ·exact hT.ent x h
  ·exact⟨(hg x h).1,(hg x h).2.1⟩
 ·rw [key]
  split
  ·exact ha
  ·exact hT.grp x
end
section
variable {md:ModelD} {q:QueryD} {s:List Int} {l:List PlanEntryD}
theorem firstVar_has (hq:validQ q=true) {i:Nat}(hi:i<q.fAtoms.length):hasV q.fAtoms (pow2 (i:Int)) (firstVar q (i:Int))=true:=by
 obtain⟨_,_,_,_,h5,_⟩:=validQ_parts hq;have hx:q.fAtoms[i]?=some (q.fAtoms[i]'hi):=List.getElem?_eq_getElem _;have ha:=atomOk_parts (h5 _ (mem_of_at hx));have hv:(q.fAtoms[i]'hi).fVars[0]?=some ((q.fAtoms[i]'hi).fVars[0]'(by omega)):=List.getElem?_eq_getElem _;refine hasV_iff.2 ⟨i,_,hx,by rw [mbit_pow];simp,?_⟩;unfold firstVar;rw [Int.toNat_natCast,hx];simp only;rw [hv];exact mem_of_at hv
theorem scan_R (hq:validQ q=true) {m:Int}(h1:1<=m) (h2:m<=fullMask q) (hs1:single m=true):EntR md q s (scanE md q s m)/\(-1<=(scanE md q s m).fOrder/\(scanE md q s m).fOrder<=3)/\(scanE md q s m).fMask=m:=by
 obtain⟨i,e1,e2,h3,e4⟩:=atom0_ok hq h1 h2 hs1;have f:=firstVar_bd hq (i:=atom0 m) (by omega) (by omega);have h15:=fm15 q;have e5:pow2 (atom0 m)=m:=by rw [e2];exact e4.symm
 have hr:=runs_scan (md:=md) (q:=q) (s:=s) (a:=atom0 m) (inR_t.2 (by omega));rw [e5]at hr;have hc:=cnt_pos ⟨m.toNat,by omega⟩ (by simp;omega);simp only at hc;rw [show((m.toNat:Nat):Int)=m by omega]at hc;have hv:=firstVar_has hq h3;rw [<- e2,e5]at hv;exact⟨⟨⟨h1,by show m<16;omega,hr,by show 1+2<=4*cntM m;omega⟩,by show 1+3<=4*cntM m;omega,.inr hv⟩,⟨by show -1<=firstVar q (atom0 m);omega,f.2⟩,rfl⟩
theorem single_sub:∀ m x:Fin 16,single (m.val:Int)=true->andI (x.val:Int) (m.val:Int)=(x.val:Int)->x.val=0\/x.val=m.val:=by decide +kernel
theorem single_shape {m:Int}(hs1:single m=true):shapeOf q m=[]:=by
 unfold shapeOf;rw [List.map_eq_nil_iff,List.eq_nil_iff_forall_not_mem];intro x hx;obtain⟨hq,h0,h16,h1,hlt,_⟩:=splits_ok hx;unfold splits at hx;split at hx
 ·obtain⟨_,_,g⟩:=splitsTo_mem.1 hx
  unfold splitOk at g;simp only [Bool.and_eq_true,decide_eq_true_eq]at g;have h:=single_sub ⟨m.toNat,by omega⟩ ⟨x.toNat,by omega⟩;simp only [show((m.toNat:Nat):Int)=m by omega,show((x.toNat:Nat):Int)=x by omega]at h;have:=h hs1 g.1;omega
 ·cases hx
theorem set_some {x:PlanEntryD}(hx:some0 x=true) {k:Nat}(hk:k<5):((List.replicate 5 zPlanEntry).set k x).filter some0=[x]:=by
 have hz:some0 zPlanEntry=false:=by decide
 have hk5:k=0\/k=1\/k=2\/k=3\/k=4:=by omega
 rcases hk5 with rfl|rfl|rfl|rfl|rfl<;>simp [List.replicate,List.filter,hx,hz]
def startI (md:ModelD) (q:QueryD) (s:List Int) (m:Int):List PlanEntryD:=if single m then offerI md q s m (List.replicate 5 zPlanEntry) ⟨[⟨1,atom0 m,0⟩]⟩ (firstVar q (atom0 m)+1).toNat else List.replicate 5 zPlanEntry
def entI (md:ModelD) (q:QueryD) (s:List Int) (T:Int->List PlanEntryD) (m:Int):List PlanEntryD:=(mineI md q s T m (shapeOf q m) (startI md q s m)).filter some0
theorem ent_step (hs:isSizes q s=true) (hq:validQ q=true) (hu:SortUp md s) (hT:TabR md q s l) {m:Int}(h1:1<=m) (h2:m<=fullMask q) (hx:∀ x∈shapeOf q m,∃ lf rt,SplR q l m x lf rt) :
  tabStep md q s l m=l++entI md q s (fun x=>l.filter (onMask x)) m/\(∀ x∈entI md q s (fun x=>l.filter (onMask x)) m,EntR md q s x/\(-1<=x.fOrder/\x.fOrder<=3)/\x.fMask=m)/\Asc (entI md q s (fun x=>l.filter (onMask x)) m):=by
 cases hs1:single m with
 | true =>
  have hR:=scan_R (md:=md) (s:=s) hq h1 h2 hs1;have hc:planCost md q ⟨[⟨1,atom0 m,0⟩]⟩ s=(scanE md q s m).fCost:=EntR.cost hR.1.toInR hs;have hf:firstVar q (atom0 m)=(scanE md q s m).fOrder:=rfl
  have hst:startI md q s m=(List.replicate 5 zPlanEntry).set (firstVar q (atom0 m)+1).toNat (scanE md q s m):=by
   unfold startI;rw [if_pos hs1];unfold offerI;have hz:(List.replicate 5 zPlanEntry)[(firstVar q (atom0 m)+1).toNat]?=some zPlanEntry:=by rw [List.getElem?_replicate,if_pos (by omega)]
   rw [hz];show(if zPlanEntry.fMask=0\/_ then _ else _)=_;rw [if_pos (.inl rfl),hc]
   have he:(⟨m,(((firstVar q (atom0 m)+1).toNat:Nat):Int) - 1,(scanE md q s m).fCost,⟨[⟨1,atom0 m,0⟩]⟩⟩:PlanEntryD)=scanE md q s m:=by
    have e:(((firstVar q (atom0 m)+1).toNat:Nat):Int) - 1=firstVar q (atom0 m):=by omega
    rw [e];rfl
   rw [he]
  have hE:entI md q s (fun x=>l.filter (onMask x)) m=[scanE md q s m]:=by
   unfold entI mineI;rw [single_shape hs1,hst];exact set_some (decide_eq_true (by show 0<m;omega)) (by omega)
  rw [hE];refine⟨by unfold tabStep;rw [if_pos hs1],fun x hx=>?_,List.pairwise_singleton _ _⟩;rw [List.mem_singleton]at hx;subst hx;exact hR
 | false =>
  obtain⟨g1,g2⟩:=mine_same hs hq hu hT hx
  have hE:entI md q s (fun x=>l.filter (onMask x)) m=(mineE md s l m (shapeOf q m)).filter some0:=by
   unfold entI startI;rw [if_neg (by simp [hs1]),g1]
  rw [hE];obtain⟨a,b⟩:=mine_ent g2;exact⟨by unfold tabStep;rw [if_neg (by simp [hs1])];rfl,a,b⟩
theorem shape_R (hq:validQ q=true) {k:Nat}{m:Int}(hm:(connMasks q)[k]?=some m) (hk:k<=(connMasks q).length):∀ x∈shapeOf q m,∃ lf rt,SplR q (tabOf md q s ((connMasks q).take k)) m x lf rt:=by
 intro x hx;obtain⟨lf,rt,h⟩:=shape_ok hq hm (tab_ok hq md s hk) x hx;unfold shapeOf at hx;obtain⟨y,hy,rfl⟩:=List.mem_map.1 hx;have e1:y=lf:=h.e1;have e2:m - y=rt:=h.e2;exact⟨lf,rt,h,by show sharedL q y (m - y)=sharedL q lf rt;rw [e2,e1],(splits_ok hy).2.2.2.2.2⟩
theorem take_lt {k:Nat}{m x:Int}(hm:(connMasks q)[k]?=some m) (hx:x∈(connMasks q).take k):x<m:=by
 have hpw:=(connMasks_pw q).sublist (List.take_sublist (k+1) _);rw [take_snoc hm,List.pairwise_append]at hpw;exact hpw.2.2 x hx m (List.mem_singleton.2 rfl)
theorem tab_R (hs:isSizes q s=true) (hq:validQ q=true) (hu:SortUp md s) {k:Nat}(hk:k<=(connMasks q).length):TabR md q s (tabOf md q s ((connMasks q).take k))/\∀ x∈tabOf md q s ((connMasks q).take k),x.fMask∈(connMasks q).take k:=by
 induction k with
 | zero=>exact⟨⟨by simp [tabOf],fun m=>List.Pairwise.nil⟩,by simp [tabOf]⟩
 | succ k ih =>
  obtain⟨ih,ihm⟩:=ih (by omega);have hm:(connMasks q)[k]?=some ((connMasks q)[k]'(by omega)):=List.getElem?_eq_getElem _;generalize (connMasks q)[k]'(by omega)=m at hm;obtain⟨⟨h1,h2⟩,_⟩:=connMasks_mem.1 (mem_of_at hm);obtain⟨a,b,c⟩:=ent_step hs hq hu ih h1 h2 (shape_R hq hm (by omega));rw [tabOf_snoc hm,a,take_snoc hm];refine⟨(ih.step (fun x hx e=>?_) b c).1,fun x hx=>?_⟩
  ·have:=take_lt hm (ihm x hx);omega
  ·rcases List.mem_append.1 hx with h|h
   ·exact List.mem_append_left _ (ihm x h)
   ·exact List.mem_append_right _ (List.mem_singleton.2 (b x h).2.2)
theorem tab_grp (hs:isSizes q s=true) (hq:validQ q=true) (hu:SortUp md s) {k:Nat}{m:Int}(hm:(connMasks q)[k]?=some m) :
  tabOf md q s ((connMasks q).take (k+1))=tabOf md q s ((connMasks q).take k)++entI md q s (fun x=>(tabOf md q s ((connMasks q).take k)).filter (onMask x)) m /\
  ∀ x,(tabOf md q s ((connMasks q).take (k+1))).filter (onMask x)=if x=m then entI md q s (fun x=>(tabOf md q s ((connMasks q).take k)).filter (onMask x)) m else (tabOf md q s ((connMasks q).take k)).filter (onMask x):=by
 have hk:=lt_of_at hm;obtain⟨ih,ihm⟩:=tab_R (md:=md) hs hq hu (k:=k) (by omega);obtain⟨⟨h1,h2⟩,_⟩:=connMasks_mem.1 (mem_of_at hm);obtain⟨a,b,c⟩:=ent_step hs hq hu ih h1 h2 (shape_R hq hm (by omega));have e:=tabOf_snoc (md:=md) (q:=q) (s:=s) hm;rw [a]at e;exact⟨e,fun x=>by rw [e];exact(ih.step (fun x hx h=>by have:=take_lt hm (ihm x hx);omega) b c).2 x⟩
end
theorem loc_cls {lc:List Int}(hl:isLoc lc=true) (m:Int):∃ a:Nat,a<8/\sizeAt (locSizes lc) m=clsSize (a:Int):=by
 unfold locSizes sizeAt;rw [if_pos hl,List.getElem?_map];cases h:lc[m.toNat]? with
 | none=>exact⟨0,by omega,rfl⟩
 | some x =>
  have hl2:=hl;unfold isLoc at hl2;rw [Bool.and_eq_true,List.all_eq_true]at hl2;have hx:=inR_t.1 (hl2.1 x (mem_of_at h));exact⟨x.toNat,by omega,by show clsSize x=_;rw [show((x.toNat:Nat):Int)=x by omega]⟩
theorem sortUp {md:ModelD}(h:admitted md=true) {lc:List Int}(hl:isLoc lc=true):SortUp md (locSizes lc):=by
 intro m;obtain⟨a,ha,e⟩:=loc_cls hl m;rw [e];have ho:opOk md.fSort=true:=List.all_eq_true.1 h _ (by simp [modelOps]);unfold opOk at ho;simp only [Bool.and_eq_true,Bool.not_eq_true']at ho;have hc:=ho.2;unfold hasCheap at hc;simp only [Bool.not_eq_false']at hc;have h1:=List.all_eq_true.1 hc (64*a+8*0+a) (List.mem_range.2 (by omega));rw [trip_eq (by omega) ha]at h1;unfold cheapT costL at h1;simp only [Bool.not_eq_true',decide_eq_false_iff_not]at h1;unfold opCostV;split
 ·have h0:clsSize ((0:Nat):Int)=0:=rfl
  rw [h0]at h1;omega
 ·omega
theorem near_same {q:QueryD}(hq:validQ q=true) (m:Int) {i:Nat}{a:AtomD}(ha:q.fAtoms[i]?=some a):decide (0<(bothL a.fVars (varsOf q m)).length)=decide (¬ andI (bitsQ q.fAtoms (pow2 (i:Int))) (bitsQ q.fAtoms m)=0):=by
 rw [decide_eq_decide,andI_zero];constructor
 ·intro h hn
  obtain⟨x,hx⟩:=List.exists_mem_of_length_pos h;unfold bothL at hx;obtain⟨h1,h2⟩:=List.mem_filter.1 hx;rw [varsOf_contains hq]at h2;have b:=validQ_var hq (mem_of_at ha) h1;have e:((x.toNat:Nat):Int)=x:=by omega
  refine hn x.toNat ⟨?_,?_⟩
  ·rw [mbit_bitsQ hq,e];exact hasV_iff.2 ⟨i,a,ha,by rw [mbit_pow];simp,h1⟩
  ·rw [mbit_bitsQ hq,e];exact h2
 ·intro h
  refine Classical.byContradiction fun hn=>h ?_;rintro v ⟨g1,g2⟩;rw [mbit_bitsQ hq]at g1 g2;obtain⟨j,b,e1,e2,e3⟩:=hasV_iff.1 g1;rw [mbit_pow,Int.toNat_natCast,decide_eq_true_eq]at e2;subst e2;rw [ha]at e1;injection e1 with e1;subst e1;refine hn (List.length_pos_of_mem (a:=(v:Int)) ?_);exact List.mem_filter.2 ⟨e3,by rw [varsOf_contains hq];exact g2⟩
theorem up_bits:∀ a b:Fin 16,andI (a.val:Int) (b.val:Int)=(a.val:Int)->a.val≠b.val->a.val<b.val/\cntM (a.val:Int)<cntM (b.val:Int):=by decide +kernel
theorem cnt_low:∀ m:Fin 16,m.val≠0->1<=cntM (lowB (m.val:Int))/\1<=lowB (m.val:Int):=by decide +kernel
theorem cnt_lt:∀ n:Fin 5,∀ m:Fin 16,m.val<2 ^ n.val->cntM (m.val:Int)<=n.val:=by decide +kernel
section
variable {l:List AtomD} {mask:Int}
theorem bfs_up (k:Nat):andI (bfs l mask k) (bfs l mask (k+1))=bfs l mask k:=by
 refine mbit_ext (by unfold andI;omega) ?_ fun i=>?_
 ·cases k with
  | zero=>show 0<=lowB mask;unfold lowB andI;omega
  | succ k=>show 0<=orI _ _;unfold orI;omega
 ·rw [mbit_and]
  show(_&&mbit (orI _ _) i)=_;rw [mbit_or];cases mbit (bfs l mask k) i<;>rfl
theorem bfs_sub (h0:0<=mask) (h1:mask<16) (k:Nat):andI (bfs l mask k) mask=bfs l mask k:=by
 have hb:∀ i,mbit (bfs l mask k) i=true->mbit mask i=true:=by
  induction k with
  | zero =>
   intro i hi;have e:bfs l mask 0=lowB mask:=rfl;rw [e]at hi;unfold lowB at hi;rw [mbit_and,Bool.and_eq_true]at hi;exact hi.1
  | succ k ih =>
   intro i hi;have e:bfs l mask (k+1)=orI (bfs l mask k) (andI (nearQ l (bfs l mask k)) mask):=rfl;rw [e,mbit_or,Bool.or_eq_true,mbit_and,Bool.and_eq_true]at hi;exact hi.elim (ih i) (fun h=>h.2)
 refine mbit_ext (by unfold andI;omega) ?_ fun i=>?_
 ·cases k with
  | zero=>show 0<=lowB mask;unfold lowB andI;omega
  | succ k=>show 0<=orI _ _;unfold orI;omega
 ·rw [mbit_and]
  cases h:mbit (bfs l mask k) i with
  | true=>rw [hb i h];rfl
  | false=>rfl
theorem bfs_fix {k:Nat}(h:bfs l mask (k+1)=bfs l mask k) (d:Nat):bfs l mask (k+d)=bfs l mask k:=by
 induction d with
 | zero=>rfl
 | succ d ih =>
  have e:bfs l mask (k+(d+1))=orI (bfs l mask (k+d)) (andI (nearQ l (bfs l mask (k+d))) mask):=rfl;rw [e,ih];exact h
theorem cnt_up {a b:Int}(ha:0<=a) (ha2:a<16) (hb:0<=b) (hb2:b<16) (h:andI a b=a):(a=b\/(a<b/\cntM a<cntM b)):=by
 by_cases e:a=b
 ·exact .inl e
 ·right
  have:=up_bits ⟨a.toNat,by omega⟩ ⟨b.toNat,by omega⟩;simp only [show((a.toNat:Nat):Int)=a by omega,show((b.toNat:Nat):Int)=b by omega]at this;have:=this h (by omega);exact⟨by omega,this.2⟩
theorem bfs_round (h4:l.length<=4) (h0:1<=mask) (h1:mask<((2 ^ l.length:Nat):Int)) {k:Nat}(hk:k+1<=cntM (bfs l mask k)) :
  (bfs l mask (k+1)=bfs l mask k/\bfs l mask l.length=bfs l mask k)\/(¬ bfs l mask (k+1)=bfs l mask k/\bfs l mask k<bfs l mask (k+1)/\k+2<=cntM (bfs l mask (k+1))/\bfs l mask (k+1)<=mask):=by
 have h16:mask<16:=by
  have:(2:Nat) ^ l.length<=2 ^ 4:=Nat.pow_le_pow_right (by omega) h4;omega
 have b1:=bfs_bd (l:=l) h4 (by omega) h16 k;have b2:=bfs_bd (l:=l) h4 (by omega) h16 (k+1);have s1:=bfs_sub (l:=l) (by omega) h16 k;have s2:=bfs_sub (l:=l) (by omega) h16 (k+1);have c1:cntM (bfs l mask k)<=cntM mask:=(cnt_up b1.1 b1.2 (by omega) h16 s1).elim (fun e=>by rw [e];exact Nat.le_refl _) (fun h=>by omega);have c2:bfs l mask (k+1)<=mask:=(cnt_up b2.1 b2.2 (by omega) h16 s2).elim (fun e=>by omega) (fun h=>by omega);have c3:=cnt_lt ⟨l.length,by omega⟩ ⟨mask.toNat,by omega⟩ (by simp only;omega);simp only [show((mask.toNat:Nat):Int)=mask by omega]at c3;rcases cnt_up b1.1 b1.2 b2.1 b2.2 (bfs_up k) with e|⟨e1,e2⟩
 ·left
  have:=bfs_fix e.symm (l.length - k);rw [show k+(l.length - k)=l.length by omega]at this;exact⟨e.symm,this⟩
 ·right
  exact⟨by omega,e1,by omega,c2⟩
theorem bfs_start (h0:1<=mask) (h1:mask<16):1<=cntM (bfs l mask 0):=by
 have:=cnt_low ⟨mask.toNat,by omega⟩ (by simp;omega);simp only [show((mask.toNat:Nat):Int)=mask by omega]at this;exact this.1
end
theorem andNot_bits:∀ a b:Fin 16,andI (b.val:Int) (a.val:Int)=(b.val:Int)->bits .andNot .i64 (a.val:Int) (b.val:Int)=(a.val:Int) - (b.val:Int):=by decide +kernel
theorem maskVars_same {q:QueryD}(hq:validQ q=true) (m:Int):listV (bitsQ q.fAtoms m) 4=varsOf q m:=by
 have e1:listV (bitsQ q.fAtoms m) 4=varsTo q.fAtoms m 4:=by
  unfold listV varsTo;rw [List.filter_map]
  have:(fun i:Nat=>mbit (bitsQ q.fAtoms m) i)=(hasV q.fAtoms m ∘ fun v:Nat=>(v:Int)):=by
   funext i;exact mbit_bitsQ hq m i
  rw [this];rfl
 have hp:=validQ_parts hq;obtain⟨n,hn⟩:∃ n:Nat,q.fVariableCount=n:=⟨q.fVariableCount.toNat,by omega⟩;rw [e1,varsOf_eq hn]
 have key:∀ d,varsTo q.fAtoms m (n+d)=varsTo q.fAtoms m n:=by
  intro d
  induction d with
  | zero=>rfl
  | succ d ih =>
   have:=varsTo_snoc q.fAtoms m (n+d);rw [<- Nat.add_assoc,this,if_neg,ih];intro h;have:=hasV_bd hq h;omega
 have:=key (4 - n)
 rwa [show n+(4 - n)=4 by omega]at this
theorem sharedL_both {q:QueryD}(a b:Int):sharedL q a b=bothL (maskVarsL q a) (maskVarsL q b):=by
 unfold sharedL bothL;refine List.filter_congr fun x _=>?_;exact hasI_contains _ _
end Go.Proofs.YtnlcfkpcmfljeaaGreat
