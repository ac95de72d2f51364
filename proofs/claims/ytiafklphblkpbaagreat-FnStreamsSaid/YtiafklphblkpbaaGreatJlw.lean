/-
  Rws, Jlw
-/
import Derived.Test.YtiafklphblkpbaaGreatEl
import Derived.Test.YtiafklphblkpbaaGreatEqLib
import Derived.Lib.SlKept
import Derived.Test.YtiafklphblkpbaaGreatMrp
namespace Go.Proofs.YtiafklphblkpbaaGreat
open Go.RowKit
set_option linter.unusedVariables false
set_option linter.unusedSimpArgs false
theorem cmpR_lt:∀ {a b:List Int},cmpRows a b<0↔a<b
 | [],[]=>by simp [cmpRows]
 | [],_::_=>by simp [cmpRows]
 | _::_,[]=>by simp [cmpRows]
 | x::s,y::t=>by
  rw [List.cons_lt_cons_iff,<- cmpR_lt (a:=s) (b:=t)]
  simp only [cmpRows]
  split
  ·rename_i h;simp [h]
  ·split
   ·rename_i h1 h2;constructor
    ·intro h;omega
    ·rintro(h|⟨h,_⟩)<;>omega
   ·have:x=y:=by omega
    subst this;simp
def ltRows (a b:List Int):Bool:=decide (cmpRows a b<0)
theorem ltRows_iff {a b:List Int}:ltRows a b=true↔a<b:=by unfold ltRows;rw [decide_eq_true_eq];exact cmpR_lt
theorem ltRows_no {a b:List Int}:ltRows a b=false↔b<=a:=by
 rw [<- List.not_lt,<- ltRows_iff,Bool.not_eq_true]
/-- the rows in order -/
def sortR (l:List (List Int)):List (List Int):=l.mergeSort fun a b=>!ltRows b a
theorem sortR_perm (l:List (List Int)):(sortR l).Perm l:=List.mergeSort_perm _ _
theorem sortR_pw (l:List (List Int)):(sortR l).Pairwise (·<=·):=by
 have h:=List.pairwise_mergeSort (le:=fun a b=>!ltRows b a) (fun a b c h1 h2=>by simp only [Bool.not_eq_true',ltRows_no]at *;exact List.le_trans h1 h2) (fun a b=>by
  simp only [Bool.or_eq_true,Bool.not_eq_true',ltRows_no];exact List.le_total _ _) l
 exact h.imp (fun h=>by simpa only [Bool.not_eq_true',ltRows_no]using h)
theorem sortR_eq {l m:List (List Int)}(hp:m.Perm l) (hs:m.Pairwise (·<=·)):m=sortR l :=
 List.Perm.eq_of_pairwise (le:=fun a b=>a<=b) (fun a b _ _ h1 h2=>List.le_antisymm h1 h2) hs (sortR_pw l) (hp.trans (sortR_perm l).symm)
/-- each run once -/
def onceK {α β:Type} [DecidableEq β] (k:α->β) (l:List α) (j:Nat):Bool:=match j with|0=>true|i+1=>decide ((l[i+1]?).map k≠(l[i]?).map k)
def onceR (l:List (List Int)):List (List Int):=(List.range l.length).filterMap fun j=>if onceK id l j then l[j]? else none
/-- rows in order, each once -/
def setR (l:List (List Int)):List (List Int):=onceR (sortR l)
end Go.Proofs.YtiafklphblkpbaaGreat
namespace Go.Proofs.YtiafklphblkpbaaGreat
open Go.RowKit
set_option linter.unusedVariables false
set_option linter.unusedSimpArgs false
theorem fm_swap {β γ:Type}(g h:β->List γ) (ys:List β):(ys.flatMap fun y=>g y++h y).Perm (ys.flatMap g++ys.flatMap h):=by
 induction ys with
 | nil=>exact List.Perm.refl _
 | cons y ys ih =>
  simp only [List.flatMap_cons]
  have h1:(h y++(ys.flatMap g++ys.flatMap h)).Perm (ys.flatMap g++(h y++ys.flatMap h)):=by
   rw [<- List.append_assoc,<- List.append_assoc]
   exact List.Perm.append_right _ List.perm_append_comm
  rw [List.append_assoc,List.append_assoc]
  exact List.Perm.append_left _ ((List.Perm.append_left _ ih).trans h1)
theorem fm_flat {β γ:Type}(f:β->Option γ):∀ ys:List β,ys.filterMap f=ys.flatMap fun y=>(f y).toList
 | []=>rfl
 | y::ys=>by rw [List.filterMap_cons,List.flatMap_cons,fm_flat f ys];cases f y<;>rfl
theorem nest_perm {α β γ:Type}(f:α->β->Option γ) (xs:List α) (ys:List β):(nestRows f xs ys).Perm (nestRows (fun y x=>f x y) ys xs):=by
 induction xs with
 | nil =>
  have:nestRows (fun y x=>f x y) ys ([]:List α)=[]:=by unfold nestRows;simp
  rw [this];exact List.Perm.refl _
 | cons x xs ih =>
  have e:nestRows (fun y x=>f x y) ys (x::xs)=ys.flatMap (fun y=>(f x y).toList++xs.filterMap (fun x=>f x y)):=by
   unfold nestRows
   congr 1;funext y
   cases h:f x y<;>simp [h]
  rw [e]
  refine List.Perm.trans ?_ (fm_swap _ _ ys).symm
  have e2:nestRows f (x::xs) ys=ys.filterMap (f x)++nestRows f xs ys:=by unfold nestRows;simp
  rw [e2,fm_flat]
  exact List.Perm.append_left _ ih
theorem sortR_of_perm {l m:List (List Int)}(h:l.Perm m):sortR l=sortR m:=sortR_eq ((sortR_perm l).trans h) (sortR_pw l)
theorem setR_of_perm {l m:List (List Int)}(h:l.Perm m):setR l=setR m:=by unfold setR;rw [sortR_of_perm h]
theorem find_some {l:List Int}{v:Int}(h:v∈l):∃ t,l.findIdx? (fun c=>c==v)=some t/\l[t]?=some v:=by
 cases e:l.findIdx? (fun c=>c==v) with
 | none=>rw [List.findIdx?_eq_none_iff]at e;have:=e v h;simp at this
 | some t =>
  obtain⟨h1,h2,_⟩:=List.findIdx?_eq_some_iff_getElem.1 e
  exact⟨t,rfl,by rw [List.getElem?_eq_getElem h1];simpa using h2⟩
theorem find_none {l:List Int}{v:Int}(h:v∉l):l.findIdx? (fun c=>c==v)=none:=by
 rw [List.findIdx?_eq_none_iff];intro z hz;simp;rintro rfl;exact h hz
theorem lk_mem {a x:List Int}{v:Int}(hv:v∈a) (hl:x.length=a.length):∃ t p,a.findIdx? (fun c=>c==v)=some t/\x[t]?=some p/\lk a x v=some p:=by
 obtain⟨t,h1,h2⟩:=find_some hv
 have ht:t<x.length:=by have:=lt_of_at h2;omega
 exact⟨t,x[t],h1,List.getElem?_eq_getElem ht,by unfold lk;rw [h1];exact List.getElem?_eq_getElem ht⟩
theorem lk_no {a x:List Int}{v:Int}(hv:v∉a):lk a x v=none:=by unfold lk;rw [find_none hv]
/-- each two rows of n streams join into a good row -/
theorem joinRow_ok {a b:StreamD}{x y r:List Int}(hx:rowOk x a.fVars.length=true) (hy:rowOk y b.fVars.length=true) (h:joinBy a b x y=some r):rowOk r (unionI a.fVars b.fVars).length=true:=by
 unfold joinBy joinOpt at h
 split at h
 ·injection h with h
  subst h
  unfold rowOk at hx hy ⊢
  simp only [Bool.and_eq_true,decide_eq_true_eq,List.all_eq_true,joinRow,List.length_map,List.mem_map,and_true]at hx hy ⊢
  rintro _ ⟨v,hv,rfl⟩
  have hu:=(unionI_mem.1 hv).2
  unfold joinVal
  by_cases ha:v∈a.fVars
  ·obtain⟨t,p,_,h2,h3⟩:=lk_mem (x:=x) ha (by omega)
   rw [h3];exact hx.1 p (List.mem_of_getElem? h2)
  ·rw [lk_no ha]
   rcases hu with hu|hu
   ·exact absurd hu ha
   ·obtain⟨t,p,_,h2,h3⟩:=lk_mem (x:=y) hu (by omega)
    rw [h3];exact hy.1 p (List.mem_of_getElem? h2)
 ·cases h
theorem nest_all {α β γ:Type}{f:α->β->Option γ}{xs:List α}{ys:List β}{P:γ->Prop}(h:∀ x∈xs,∀ y∈ys,∀ r,f x y=some r->P r):∀ r∈nestRows f xs ys,P r:=by
 intro r hr
 unfold nestRows at hr
 obtain⟨x,hx,h1⟩:=List.mem_flatMap.1 hr
 obtain⟨y,hy,h2⟩:=List.mem_filterMap.1 h1
 exact h x hx y hy r h2
theorem colsOk_union (a b:List Int):colsOk (unionI a b) 4=true:=by
 unfold colsOk
 rw [List.all_eq_true]
 intro i hi
 rw [List.mem_range]at hi
 have hp:=unionI_pw a b
 have hm:=(unionI_mem.1 (List.getElem_mem hi)).1
 unfold colAt
 rw [List.getElem?_eq_getElem hi]
 simp only [Bool.and_eq_true]
 refine⟨inR_t.2 (by omega),?_⟩
 cases i with
 | zero=>rfl
 | succ j =>
  show(match (unionI a b)[j]? with|some p=>decide (p<_)|none=>true)=true
  rw [List.getElem?_eq_getElem (by omega:j<(unionI a b).length)]
  simp only [decide_eq_true_eq]
  exact List.pairwise_iff_getElem.1 hp j (j+1) (by omega) hi (by omega)
/-- the nested join of good streams, small enough, is good -/
theorem nest_valid {a b:StreamD}(ha:validStream a=true) (hb:validStream b=true) (hn:(nestRows (fun x y=>joinBy a b x y) a.fRows b.fRows).length<=4096) :
  validStream ⟨unionI a.fVars b.fVars,nestRows (fun x y=>joinBy a b x y) a.fRows b.fRows⟩=true:=by
 obtain⟨_,h2,_⟩:=validStream_parts ha
 obtain⟨_,g2,_⟩:=validStream_parts hb
 unfold validStream
 simp only [Bool.and_eq_true,decide_eq_true_eq,List.all_eq_true]
 exact⟨colsOk_union _ _,nest_all (fun x hx y hy r h=>joinRow_ok (h2 x hx) (g2 y hy) h),hn⟩
theorem valid_perm {V:List Int}{R R':List (List Int)}(h:R.Perm R'):validStream ⟨V,R⟩=validStream ⟨V,R'⟩:=by
 unfold validStream
 simp only [h.length_eq]
 congr 2
 rw [Bool.eq_iff_iff,List.all_eq_true,List.all_eq_true]
 exact⟨fun g r hr=>g r (h.mem_iff.2 hr),fun g r hr=>g r (h.mem_iff.1 hr)⟩
theorem sortedAt_of {t:Nat}{l:List (List Int)}(hp:l.Pairwise (fun p q=>keyAt t p<=keyAt t q)):sortedAt t l=true:=by
 refine sortedAt_yes (fun j=>?_)
 unfold okAt
 split
 ·rename_i p q h1 h2
  obtain⟨g1,rfl⟩:=List.getElem?_eq_some_iff.1 h1
  obtain⟨g2,rfl⟩:=List.getElem?_eq_some_iff.1 h2
  have h:=List.pairwise_iff_getElem.1 hp j (j+1) g1 g2 (by omega)
  unfold leAt
  split
  ·rename_i a b e1 e2
   unfold keyAt at h;rw [e1,e2]at h;exact decide_eq_true h
  ·rfl
 ·rfl
theorem flatMap_pw {α γ:Type}{k:α->Int}{k2:γ->Int}{f:α->List γ}:∀ {xs:List α},xs.Pairwise (fun p q=>k p<=k q)->(∀ x∈xs,∀ r∈f x,k2 r=k x)->(xs.flatMap f).Pairwise (fun p q=>k2 p<=k2 q)
 | [],_,_=>.nil
 | x::xs,hp,h=>by
  obtain⟨h1,h2⟩:=List.pairwise_cons.1 hp
  rw [List.flatMap_cons,List.pairwise_append]
  refine⟨?_,flatMap_pw h2 (fun y hy=>h y (List.mem_cons_of_mem _ hy)),?_⟩
  ·have hx:=h x List.mem_cons_self
   exact List.Pairwise.imp_of_mem (fun {p q} hp hq _=>by rw [hx p hp,hx q hq];exact Int.le_refl _) (List.pairwise_of_forall (R:=fun _ _=>True) (fun _ _=>trivial))
  ·intro p hp q hq
   obtain⟨y,hy,hq⟩:=List.mem_flatMap.1 hq
   rw [h x List.mem_cons_self p hp,h y (List.mem_cons_of_mem _ hy) q hq]
   exact h1 y hy
/-- the nested join keeps the order of its left input -/
theorem nest_sorted {a b:StreamD}{v:Int}(hs:isSorted a v=true) (hb:validStream b=true) (hn:(nestRows (fun x y=>joinBy a b x y) a.fRows b.fRows).length<=4096) :
  isSorted ⟨unionI a.fVars b.fVars,nestRows (fun x y=>joinBy a b x y) a.fRows b.fRows⟩ v=true:=by
 obtain⟨ha,t,ht,hst⟩:=isSorted_parts hs
 obtain⟨_,h2,_⟩:=validStream_parts ha
 have htl:=find_lt ht
 have hcol:=col_of ha htl
 have hc:∀ r∈a.fRows,r[t]?=some (keyAt t r):=fun r hr=>by obtain⟨z,hz,_⟩:=hcol r hr;exact keyAt_some hz
 have hpw:=sorted_pw hc hst
 have hva:v∈a.fVars:=by
  obtain⟨h1,h3,_⟩:=List.findIdx?_eq_some_iff_getElem.1 ht
  have:a.fVars[t]=v:=by simpa using h3
  rw [<- this];exact List.getElem_mem h1
 have hvr:=colsOk_mem (validStream_parts ha).1 hva
 have hvu:v∈unionI a.fVars b.fVars:=unionI_mem.2 ⟨by omega,.inl hva⟩
 obtain⟨u,hu1,hu2⟩:=find_some hvu
 unfold isSorted
 rw [nest_valid ha hb hn,Bool.true_and]
 show(match (unionI a.fVars b.fVars).findIdx? (fun c=>c==v) with|none=>false|some t=>sortedAt t _)=true
 rw [hu1]
 refine sortedAt_of (flatMap_pw (k:=keyAt t) hpw ?_)
 intro x hx r hr
 obtain⟨y,hy,h⟩:=List.mem_filterMap.1 hr
 unfold joinBy joinOpt at h
 dsimp only at h
 split at h
 ·injection h with h
  subst h
  have h5:(joinRow (unionI a.fVars b.fVars) a.fVars x b.fVars y)[u]?=some (joinVal a.fVars x b.fVars y v):=by unfold joinRow;rw [List.getElem?_map,hu2];rfl
  have h6:joinVal a.fVars x b.fVars y v=keyAt t x:=by
   unfold joinVal lk
   rw [ht];simp only [];rw [hc x hx]
  unfold keyAt at h6 ⊢
  rw [h5];exact h6
 ·cases h
theorem hash_perm (a b:StreamD):(nestRows (fun x y=>joinBy a b x y) a.fRows b.fRows).Perm (nestRows (fun y x=>joinBy a b x y) b.fRows a.fRows):=nest_perm _ _ _
theorem hash_nested_ok (a b:StreamD):(hashJoin a b).2=(nestedJoin a b).2:=by
 unfold hashJoin nestedJoin
 split
 ·unfold capS;rw [(hash_perm a b).length_eq];split<;>rfl
 ·rfl
theorem hash_no {a b:StreamD}(h:(hashJoin a b).2=false):(hashJoin a b).1=⟨[],[]⟩:=by
 unfold hashJoin at h ⊢
 split
 ·rename_i h1
  rw [if_pos h1]at h
  unfold capS at h ⊢
  split
  ·rename_i h2;rw [if_pos h2]at h;cases h
  ·rfl
 ·rfl
theorem hash_yes {a b:StreamD}(h:(hashJoin a b).2=true):validStream a=true/\validStream b=true/\(nestRows (fun x y=>joinBy a b x y) a.fRows b.fRows).length<=4096/\(hashJoin a b).1=⟨unionI a.fVars b.fVars,nestRows (fun y x=>joinBy a b x y) b.fRows a.fRows⟩/\(nestedJoin a b).1=⟨unionI a.fVars b.fVars,nestRows (fun x y=>joinBy a b x y) a.fRows b.fRows⟩:=by
 unfold hashJoin at h ⊢
 unfold nestedJoin
 split at h
 ·rename_i h1
  rw [if_pos h1,if_pos h1]
  simp only [Bool.and_eq_true]at h1
  unfold capS at h ⊢
  split at h
  ·rename_i h2
   rw [if_pos h2,if_pos (by rw [(hash_perm a b).length_eq];exact h2)]
   exact⟨h1.1,h1.2,by rw [(hash_perm a b).length_eq];exact h2,rfl,rfl⟩
  ·cases h
 ·cases h
theorem nested_sorted {a b:StreamD}{v:Int}(h:(hashJoin a b).2=true) (hs:isSorted a v=true):isSorted (nestedJoin a b).1 v=true:=by
 obtain⟨h1,h2,h3,e1,e2⟩:=hash_yes h
 rw [e2];exact nest_sorted hs h2 h3
theorem merge_yes {a b:StreamD}{v:Int}(h:(mergeJoin a b v).2=true):isSorted a v=true/\(mergeJoin a b v)=nestedJoin a b:=by
 unfold mergeJoin at h ⊢
 split at h
 ·rename_i h1
  rw [if_pos h1]
  simp only [Bool.and_eq_true]at h1
  exact⟨h1.1,rfl⟩
 ·cases h
theorem sorted_valid {x:StreamD}{v:Int}(h:isSorted x v=true):validStream x=true:=(isSorted_parts h).1
theorem hash_len {a b:StreamD}(h:(hashJoin a b).2=true):(nestedJoin a b).1.fRows.length=(hashJoin a b).1.fRows.length:=by
 obtain⟨h1,h2,h3,e1,e2⟩:=hash_yes h
 rw [e1,e2];exact(hash_perm a b).length_eq
end Go.Proofs.YtiafklphblkpbaaGreat
