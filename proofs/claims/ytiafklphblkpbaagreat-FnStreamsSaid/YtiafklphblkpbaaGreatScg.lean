/-
  Scg
-/
import Derived.Test.YtiafklphblkpbaaGreatScp
import Derived.Test.YtiafklphblkpbaaGreatSrs
import Derived.Test.YtiafklphblkpbaaGreatJlw
namespace Go.Proofs.YtiafklphblkpbaaGreat
open Go.RowKit
set_option linter.unusedVariables false
set_option linter.unusedSimpArgs false
theorem colsOk_of {l:List Int}(hp:l.Pairwise (·<·)) (hb:∀ x∈l,0<=x/\x<=3):colsOk l 4=true:=by
 unfold colsOk
 rw [List.all_eq_true]
 intro i hi
 rw [List.mem_range]at hi
 have hm:=hb _ (List.getElem_mem hi)
 unfold colAt
 rw [List.getElem?_eq_getElem hi]
 simp only [Bool.and_eq_true]
 refine⟨inR_t.2 (by omega),?_⟩
 cases i with
 | zero=>rfl
 | succ j =>
  show(match l[j]? with|some p=>decide (p<_)|none=>true)=true
  rw [List.getElem?_eq_getElem (by omega:j<l.length)]
  simp only [decide_eq_true_eq]
  exact List.pairwise_iff_getElem.1 hp j (j+1) (by omega) hi (by omega)
theorem asc_key {l:List (List Int)}(h:ascRows l=true) (hc:∀ r∈l,r≠[]):l.Pairwise (fun p q=>keyAt 0 p<=keyAt 0 q):=by
 refine adj_pw (fun a b c h1 h2=>Int.le_trans h1 h2) fun j p q hp hq=>?_
 have h1:=range_all_at h (lt_of_at hq)
 rw [ascAt_s hp hq,decide_eq_true_eq,cmpR_lt]at h1
 cases p with
 | nil=>exact absurd rfl (hc _ (mem_of_at hp))
 | cons a ta=>cases q with
  | nil=>exact absurd h1 (List.not_lt_nil _)
  | cons b tb =>
   show a<=b
   rcases List.cons_lt_cons_iff.1 h1 with h|⟨h,_⟩<;>omega
/-! ### sorting by values -/
theorem fm_one {α:Type}(r:α) {a:Nat}:∀ {K:Nat},a<K->(List.range K).flatMap (fun v=>if v=a then [r] else [])=[r]
 | 0,h=>by omega
 | K+1,h=>by
  rw [List.range_succ,List.flatMap_append]
  by_cases hK:a<K
  ·rw [fm_one r hK];simp;omega
  ·have:a=K:=by omega
   have h0:(List.range K).flatMap (fun v=>if v=a then [r] else [])=[]:=by
    rw [List.flatMap_eq_nil_iff];intro v hv;rw [List.mem_range]at hv;rw [if_neg (by omega)]
   rw [h0];simp [this]
theorem bkt_perm {t:Nat}:∀ {l:List (List Int)}{K:Nat},(∀ r∈l,∃ a:Int,r[t]?=some a/\0<=a/\a<K)->(bkt t l K).Perm l:=by
 intro l K h
 unfold bkt
 induction l with
 | nil=>simp [atV]
 | cons r l ih =>
  obtain⟨a,ha,h0,h1⟩:=h r List.mem_cons_self
  have ih:=ih fun r hr=>h r (List.mem_cons_of_mem _ hr)
  have e:∀ v:Nat,atV t v (r::l)=(if v=a.toNat then [r] else [])++atV t v l:=fun v=>by
   unfold atV
   rw [List.filter_cons,ha]
   by_cases hv:v=a.toNat
   ·subst hv;rw [if_pos rfl,if_pos (by simp;omega)];rfl
   ·rw [if_neg hv,if_neg (by simp;omega)];rfl
  have e2:(List.range K).flatMap (fun v=>atV t v (r::l))=(List.range K).flatMap (fun v=>(if v=a.toNat then [r] else [])++atV t v l):=by
   congr 1;exact funext e
  rw [e2]
  refine(fm_swap _ _ _).trans ?_
  have e3:=fm_one r (a:=a.toNat) (K:=K) (by omega)
  rw [e3]
  exact List.Perm.cons _ ih
theorem bkt_sorted {t:Nat}{l:List (List Int)}{K:Nat}:(bkt t l K).Pairwise (fun p q=>keyAt t p<=keyAt t q):=by
 unfold bkt
 refine flatMap_pw (k:=fun v:Nat=>(v:Int)) (k2:=keyAt t) ?_ ?_
 ·exact(List.pairwise_lt_range (n:=K)).imp (fun h=>by omega)
 ·intro v _ r hr
  have:=(List.mem_filter.1 hr).2
  unfold keyAt;rw [of_decide_eq_true this];rfl
theorem scan_srt {d:DatabaseD}{q:QueryD}(hd:queryFor d q=true) {j:Nat}{a:AtomD}(ha:q.fAtoms[j]?=some a):(scan d q (j:Int)).2=true/\validStream (scan d q (j:Int)).1=true/\isSorted (scan d q (j:Int)).1 ((a.fVars[0]?).getD 0)=true/\(scan d q (j:Int)).1.fVars=sortI a.fVars/\(scan d q (j:Int)).1.fRows.length<=8:=by
 obtain⟨hq,hall⟩:=queryFor_parts hd
 have hqp:=validQ_parts hq
 have ham:=mem_of_at ha
 obtain⟨t,ht,harity,hrows⟩:=hall a ham
 have hap:=atomOk_parts (hqp.2.2.2.2.1 a ham)
 have hnd:=atom_nodup (hqp.2.2.2.2.1 a ham)
 rw [scan_yes hd ha ht]
 refine⟨rfl,?_⟩
 have hvt:=lookup_valid ht
 unfold validTable at hvt
 simp only [Bool.and_eq_true,decide_eq_true_eq]at hvt
 have hval:validStream ⟨sortI a.fVars,t.fRows.map (scanRow a.fVars (sortI a.fVars))⟩=true:=by
  unfold validStream
  simp only [Bool.and_eq_true,decide_eq_true_eq,List.all_eq_true,List.length_map,List.mem_map]
  refine⟨colsOk_of (sortI_lt hnd) (fun x hx=>?_),?_,by omega⟩
  ·have:=validQ_var hq ham (sortI_mem.1 hx);omega
  ·rintro _ ⟨r,hr,rfl⟩
   obtain⟨g1,g2⟩:=hrows r hr
   unfold rowOk scanRow
   simp only [Bool.and_eq_true,decide_eq_true_eq,List.all_eq_true,List.length_map,List.mem_map,and_true]
   rintro _ ⟨v,hv,rfl⟩
   obtain⟨i,p,_,h2,h3⟩:=lk_mem (x:=r) (sortI_mem.1 hv) g1
   rw [h3];exact inR_t.2 (g2 p (List.mem_of_getElem? h2))
 refine⟨hval,?_,rfl,by show(t.fRows.map _).length<=_;rw [List.length_map];omega⟩
 ·show isSorted _ ((a.fVars[0]?).getD 0)=true
  have h0:0<a.fVars.length:=by omega
  rw [List.getElem?_eq_getElem h0,Option.getD_some]
  have hm:a.fVars[0]∈sortI a.fVars:=sortI_mem.2 (List.getElem_mem h0)
  obtain⟨u,hu1,hu2⟩:=find_some hm
  unfold isSorted
  rw [hval,Bool.true_and]
  show(match (sortI a.fVars).findIdx? (fun c=>c==a.fVars[0]) with|none=>false|some t=>sortedAt t _)=true
  rw [hu1]
  refine sortedAt_of ?_
  rw [List.pairwise_map]
  refine(asc_key hvt.2.2.2.2 (fun r hr e=>by have:=(hrows r hr).1;rw [e]at this;simp at this;omega)).imp ?_
  have hk:∀ r,keyAt u (scanRow a.fVars (sortI a.fVars) r)=keyAt 0 r:=fun r=>by
   unfold keyAt scanRow
   rw [List.getElem?_map,hu2]
   show(lk a.fVars r a.fVars[0]).getD 0=_
   unfold lk
   have:a.fVars.findIdx? (fun b=>b==a.fVars[0])=some 0:=by
    rw [List.findIdx?_eq_some_iff_getElem];exact⟨h0,by simp,fun j hj=>by omega⟩
   rw [this]
  intro p r h
  rw [hk,hk];exact h
theorem sort_srt {s:StreamD}{v:Int}(h:(sortStream s v).2=true):isSorted (sortStream s v).1 v=true/\(sortStream s v).1.fRows.length=s.fRows.length:=by
 cases hv:validStream s with
 | false=>rw [sortStream_no1 hv]at h;cases h
 | true =>
  cases ht:s.fVars.findIdx? (fun c=>c==v) with
  | none=>rw [sortStream_no2 ht]at h;cases h
  | some t =>
   rw [sortStream_yes hv ht]
   have hp:=bkt_perm (K:=10) (l:=s.fRows) (t:=t) fun r hr=>by obtain⟨a,h1,h2,h3⟩:=col_of hv (find_lt ht) r hr;exact⟨a,h1,h2,by omega⟩
   have hval:validStream ⟨s.fVars,bkt t s.fRows 10⟩=true:=by rw [valid_perm hp];exact hv
   refine⟨?_,hp.length_eq⟩
   unfold isSorted
   rw [hval,Bool.true_and]
   show(match s.fVars.findIdx? (fun c=>c==v) with|none=>false|some t=>sortedAt t _)=true
   rw [ht];exact sortedAt_of bkt_sorted
end Go.Proofs.YtiafklphblkpbaaGreat
