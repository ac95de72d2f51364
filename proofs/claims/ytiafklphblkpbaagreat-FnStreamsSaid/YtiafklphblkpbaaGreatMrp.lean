/-
  Mrg, Mrp
-/
import Derived.Test.YtiafklphblkpbaaGreatJnU
namespace Go.Proofs.YtiafklphblkpbaaGreat
open Go.RowKit
set_option linter.unusedVariables false
set_option linter.unusedSimpArgs false

theorem Qt.trans {a b c:World}(h1:Qt a b) (h2:Qt b c):Qt a c:=by
 obtain⟨m,rfl⟩:=h1;obtain⟨n,rfl⟩:=h2
 simp only [World.drewN_drewN];exact⟨_,rfl⟩
def leAt (t:Nat) (p q:List Int):Bool:=match p[t]?,q[t]? with|some a,some b=>decide (a<=b)|_,_=>true
theorem leAt_val {t:Nat}{p q:List Int}{a b:Int}(h1:p[t]?=some a) (h2:q[t]?=some b):leAt t p q=decide (a<=b):=by unfold leAt;rw [h1,h2]
def okAt (t:Nat) (l:List (List Int)) (j:Nat):Bool:=match l[j]?,l[j+1]? with|some p,some q=>leAt t p q|_,_=>true
theorem okAt_val {t j:Nat}{l:List (List Int)}{p q:List Int}(h1:l[j]?=some p) (h2:l[j+1]?=some q):okAt t l j=leAt t p q:=by unfold okAt;rw [h1,h2]
theorem okAt_end {t j:Nat}{l:List (List Int)}(h:l.length<=j+1):okAt t l j=true:=by
 have h2:l[j+1]?=none:=List.getElem?_eq_none h
 unfold okAt;rw [h2];cases l[j]?<;>rfl
def sortedAt (t:Nat) (l:List (List Int)):Bool:=(List.range l.length).all (okAt t l)
theorem sortedAt_yes {t:Nat}{l:List (List Int)}(h:∀ j,okAt t l j=true):sortedAt t l=true:=by
 unfold sortedAt;rw [List.all_eq_true];exact fun j _=>h j
theorem sortedAt_no {t:Nat}{l:List (List Int)}{j:Nat}(h:okAt t l j=false):sortedAt t l=false:=by
 rw [Bool.eq_false_iff];intro hs
 unfold sortedAt at hs;rw [List.all_eq_true]at hs
 by_cases hj:j<l.length
 ·rw [hs j (List.mem_range.2 hj)]at h;cases h
 ·rw [okAt_end (by omega)]at h;cases h
set_option maxRecDepth 100000 in
set_option maxHeartbeats 800000 in
theorem iCmpAt_q (A B:Option Addr) (n m c d:Nat) (p q:List Int) (t g:Nat) (a b:Int) (w:World) (hp:RS NB rInt w A n c p) (hq:RS NB rInt w B m d q) (hk:w.cell? ⟨g,0,none⟩=some (.int .i64 t))
  (ha:p[t]?=some a) (hb:q[t]?=some b) (h1:0<=a/\a<=9) (h2:0<=b/\b<=9) :
  Calls Tryz.prog 59 #[.slice A n c,.slice B m d,.pointer (some ⟨g,0,none⟩)] w fun e w'=>e=.returned (.int .i64 (a - b))/\Qt w w':=by
 have hlt:t<n:=by rw [<- hp.len];exact(List.getElem?_eq_some_iff.1 ha).1
 have hlt2:t<m:=by rw [<- hq.len];exact(List.getElem?_eq_some_iff.1 hb).1
 have hn:=hp.bound
 have hm:=hq.bound
 obtain⟨b1,o1,z,rfl,hc1,hI1,hz⟩:=hp.ati hlt
 obtain rfl:z=a:=by have:=hz.out;rw [ha]at this;injection this with this;exact this.symm
 obtain⟨b2,o2,y,rfl,hc2,hI2,hy⟩:=hq.ati hlt2
 obtain rfl:y=b:=by have:=hy.out;rw [hb]at this;injection this with this;exact this.symm
 have hw:IntKind.i64.wrap (z - y)=z - y:=IntWalk.i64_in _ (by omega)
 clear ha hb hp hq hz hy
 go_enter Tryz.func59,Tryz.ntmps59
 go_wp2_with fail
 go_quiet (fail)
 go_wp2
 go_ret
 exact⟨rfl,(by first|exact⟨_,rfl⟩|(simp only [World.drewN_drewN];exact⟨_,rfl⟩))⟩
set_option maxRecDepth 100000 in
set_option maxHeartbeats 1600000 in
theorem isSortedFunc_c (A:Option Addr) (n cap:Nat) (l:List (List Int)) (t g:Nat) (w:World) (hr:RS NB (rSlice NB 3 rInt) w A n cap l) (hk:w.cell? ⟨g,0,none⟩=some (.int .i64 t))
  (hcol:∀ r∈l,∃ a:Int,r[t]?=some a/\0<=a/\a<=9) :
  Calls Tryz.prog 58 #[.slice A n cap,.func (.func 59) #[] #[.pointer (some ⟨g,0,none⟩)]] w fun e w'=>e=.returned (.bool (sortedAt t l))/\Qt w w':=by
 have hn:=hr.bound
 have HC:=Lib.hid hcol;clear hcol
 have HL:=Lib.hid hr.len
 have HK:=Lib.hid hk;clear hk
 have hw:IntKind.i64.wrap ((n:Int) - 1)=(n:Int) - 1:=IntWalk.i64_in _ (by omega)
 go_enter Tryz.func58,Tryz.ntmps58
 go_wp2
 go_loopw [5] (fun i wr=>∃ iz:Int,-1<=iz/\iz<=(n:Int) - 1/\i=.int .i64 iz/\(∀ j:Nat,iz<=(j:Int)->okAt t l j=true)/\Qt w wr) (fun i _=>(intOf i).toNat)
 case atStart=>exact⟨(n:Int) - 1,by omega,by omega,rfl,fun j hj=>okAt_end (by rw [HL.out];omega),Qt.refl _⟩
 case round =>
  obtain⟨iz,h1,h2,rfl,hok,hq⟩:=hrel
  have hr:=hr.below (rSlice_ok NB _ rInt_ok) hq.belowS
  have HK:=Lib.hid (cells_below hq.belowS _ _ HK.out)
  have Hok:=Lib.hid hok;clear hok
  by_cases hlt:0<iz
  ·obtain⟨m,k,hkm,rfl⟩:∃ m k:Nat,k=m+1/\iz=(k:Int):=⟨(iz - 1).toNat,iz.toNat,by omega,by omega⟩
   have hkn:k<n:=by omega
   have hmn:m<n:=by omega
   obtain⟨b1,o1,x,Ax,nx,cx,e0,hc1,hrx,hx⟩:=hr.row hkn
   subst e0
   obtain⟨b2,o2,y,Ay,ny,cy,e1,hc2,hry,hy⟩:=hr.row hmn
   injection e1 with e1;injection e1 with e1 e2;subst e1;subst e2
   obtain⟨a,ha,ha1⟩:=HC.out x (mem_of_at hx.out)
   obtain⟨b,hb,hb1⟩:=HC.out y (mem_of_at hy.out)
   have HOK:Hid (okAt t l m=decide (b<=a)):=by show _=_;rw [okAt_val hy.out (hkm▸hx.out),leAt_val hb ha]
   have HA:=Lib.hid ha;clear ha
   have HB:=Lib.hid hb;clear hb
   have he2:(k:Int) - 1=(m:Int):=by omega
   have hw2:IntKind.i64.wrap ((k:Int) - 1)=(m:Int):=by rw [he2];exact IntWalk.i64_in _ (by omega)
   clear he2
   have HKM:=Lib.hid hkm;clear hkm
   by_cases hab:a - b<0
   ·have HV:=Lib.hid hab
    go_wp2_with fail
    go_quiet ((go_at_call 59;exact Calls.quiet_of (iCmpAt_q _ _ _ _ _ _ _ _ _ _ _ _ _ (hrx.drewN rInt_ok _) (hry.drewN rInt_ok _) (by simpa using HK.out) HA.out HB.out ha1 hb1)))
    go_wp2
    go_ret
    exact⟨ret_bool (a:=false) (sortedAt_no (j:=m) (by rw [HOK.out];exact decide_eq_false (by have:=HV.out;omega))).symm,Qt.trans hq ⟨_,rfl⟩⟩
   ·have HV:=Lib.hid hab
    go_wp2_with fail
    go_quiet ((go_at_call 59;exact Calls.quiet_of (iCmpAt_q _ _ _ _ _ _ _ _ _ _ _ _ _ (hrx.drewN rInt_ok _) (hry.drewN rInt_ok _) (by simpa using HK.out) HA.out HB.out ha1 hb1)))
    go_wp2
    go_roundw
    case rel=>exact⟨(m:Int),by omega,by have:=HKM.out;omega,by go_num,fun j hj=>(by
     rcases Nat.lt_or_ge m j with h|h
     ·exact Hok.out j (by have:=HKM.out;omega)
     ·obtain rfl:j=m:=by omega
      rw [HOK.out];exact decide_eq_true (by have:=HV.out;omega)),Qt.trans hq ⟨_,rfl⟩⟩
    case measure=>have:=HKM.out;simp [intOf];omega
  ·go_wp2
   go_ret
   refine⟨ret_bool (a:=true) (sortedAt_yes (fun j=>?_)).symm,hq⟩
   exact Hok.out j (by omega)
def isSorted (x:StreamD) (v:Int):Bool:=validStream x&&(match x.fVars.findIdx? (fun c=>c==v) with|none=>false|some t=>sortedAt t x.fRows)
theorem col_of {x:StreamD}(hv:validStream x=true) {t:Nat}(ht:t<x.fVars.length):∀ r∈x.fRows,∃ a:Int,r[t]?=some a/\0<=a/\a<=9:=by
 obtain⟨_,h2,_⟩:=validStream_parts hv
 intro r hr
 have h3:=h2 r hr
 have h4:=rowOk_len h3
 unfold rowOk at h3
 simp only [Bool.and_eq_true,List.all_eq_true]at h3
 have ht2:t<r.length:=by omega
 refine⟨r[t],List.getElem?_eq_getElem ht2,?_⟩
 exact inR_t.1 (h3.1 _ (List.getElem_mem ht2))
theorem sl27Find_b {A:Option Addr}{n cap:Nat}{l:List Int}{x v:Int}{w:World}(hv:idxOf (fun b=>b==x) l=v) (hr:RS NB rInt w A n cap l) :
  Calls Tryz.prog 64 #[.slice A n cap,.int .i64 x] w fun e w'=>e=.returned (.int .i64 v)/\w=w':=(sl27Find_v hv hr).mono fun _ _ h=>⟨h.1,h.2.symm⟩
theorem slicesIndex_b {A:Option Addr}{n cap:Nat}{l:List Int}{x v:Int}{w:World}(hv:idxOf (fun b=>b==x) l=v) (hr:RS NB rInt w A n cap l) :
  Calls Tryz.prog 50 #[.slice A n cap,.int .i64 x] w fun e w'=>e=.returned (.int .i64 v)/\w=w':=(slicesIndex_v hv hr).mono fun _ _ h=>⟨h.1,h.2.symm⟩
def mergeJoin (a b:StreamD) (v:Int):StreamD × Bool:=if isSorted a v&&isSorted b v then nestedJoin a b else (⟨[],[]⟩,false)
set_option maxRecDepth 100000 in
set_option maxHeartbeats 1600000 in
theorem iIsSortedStream_c (csx:List Value) (x:StreamD) (v:Int) (w:World) (hx:(rStream NB).rep w csx x) :
  Calls Tryz.prog 23 #[.agg csx.toArray,.int .i64 v] w fun e w'=>e=.returned (.bool (isSorted x v))/\Below w.heap.size w w':=by
 have rx:=hx
 obtain⟨AxVars,nxVars,cxVars,AxRows,nxRows,cxRows,rfl,hxVars,hxRows⟩:=rStream_rep.1 hx
 clear hx
 have hB:Below w.heap.size w w:=Below.refl _ _
 have hAx:=(Below.refl (World.heap (w)).size (w)).alloc (Nat.le_refl _) (.cells #[.slice AxVars nxVars cxVars,.slice AxRows nxRows cxRows] 51)
 replace hB:=hB.trans (hAx.mono hB.size)
 have bxx:=Bx.new (w) [.slice AxVars nxVars cxVars,.slice AxRows nxRows cxRows] 51
 clear hAx
 have hnr:=hxRows.bound
 have HR:=Lib.hid hxRows.len
 have HV:=Lib.hid hxVars.len
 go_enter Tryz.func23,Tryz.ntmps23
 have kx_0:=bxx 0 _ rfl
 have kx_1:=bxx 1 _ rfl
 rcases idxOf_or (l:=x.fVars) (v:=v) with ⟨f1,f2⟩|⟨t,f1,f2,f3⟩
 ·have HS:Hid (isSorted x v=false):=by show _=_;simp [isSorted,f2]
  have F1:=Lib.hid f1;clear f1 f2
  go_wp2_with fail
  refine(slicesIndex_b F1.out (hxVars.below rInt_ok hB)).mono ?_
  rintro e w1 ⟨rfl,he1⟩
  have hb1:=Below.of_eq he1;clear he1
  replace hB:=hB.trans (hb1.mono hB.size)
  replace bxx:=bxx.below hb1
  clear hb1 kx_0 kx_1
  go_wp2
  go_ret
  exact⟨ret_bool (a:=false) HS.out.symm,hB.alloc hB.size _⟩
 ·have HS:Hid (isSorted x v=(validStream x&&sortedAt t x.fRows)):=by show _=_;simp [isSorted,f2]
  have F1:=Lib.hid f1;clear f1 f2
  have htv:t<nxVars:=by rw [<- HV.out];exact f3
  have htb:=hxVars.bound
  go_wp2_with fail
  refine(slicesIndex_b F1.out (hxVars.below rInt_ok hB)).mono ?_
  rintro e w2 ⟨rfl,he2⟩
  have hb2:=Below.of_eq he2;clear he2
  replace hB:=hB.trans (hb2.mono hB.size)
  replace bxx:=bxx.below hb2
  clear hb2
  have hAl:=(Below.refl w2.heap.size w2).alloc (Nat.le_refl _) (.cells #[.int .i64 t] 3)
  have bkT:=Bk.new w2 [.int .i64 t] 3
  replace hB:=hB.trans (hAl.mono hB.size)
  replace bxx:=bxx.below hAl
  clear hAl
  have kT:=bkT.bx 0 _ rfl
  have kx_0:=bxx 0 _ rfl
  have kx_1:=bxx 1 _ rfl
  go_wp2_with fail
  refine(iIsValidStream_c _ x _ ((rStream_ok NB).keep rx (cells_below hB))).mono ?_
  rintro e w3 ⟨rfl,hb3⟩
  replace hB:=hB.trans (hb3.mono hB.size)
  replace bxx:=bxx.below hb3
  replace bkT:=bkT.below hb3
  clear hb3 kx_0 kx_1
  clear kT
  cases e1:validStream x
  ·have HE:Hid (isSorted x v=false):=by show _=_;rw [HS.out,e1];rfl
   clear e1
   go_wp2
   go_ret
   exact⟨ret_bool (a:=false) HE.out.symm,hB⟩
  ·have HE:Hid (isSorted x v=sortedAt t x.fRows):=by show _=_;rw [HS.out,e1];rfl
   have HC:=Lib.hid (col_of e1 f3)
   clear e1 f3
   have kT:=bkT.bx 0 _ rfl
   have kx_0:=bxx 0 _ rfl
   have kx_1:=bxx 1 _ rfl
   go_wp2_with fail
   refine(isSortedFunc_c _ _ _ _ t _ _ (hxRows.below (rSlice_ok NB _ rInt_ok) hB) kT HC.out).mono ?_
   rintro e w4 ⟨rfl,hq4⟩
   have hb4:=hq4.belowS;clear hq4
   replace hB:=hB.trans (hb4.mono hB.size)
   replace bxx:=bxx.below hb4
   replace bkT:=bkT.below hb4
   clear hb4 kx_0 kx_1
   go_wp2
   go_ret
   exact⟨ret_bool HE.out.symm,hB⟩
end Go.Proofs.YtiafklphblkpbaaGreat
namespace Go.Proofs.YtiafklphblkpbaaGreat
open Go.RowKit
set_option linter.unusedVariables false
set_option linter.unusedSimpArgs false

theorem adj_pw {α:Type}{l:List α}{R:α->α->Prop}(ht:∀ a b c,R a b->R b c->R a c) (h:∀ (j:Nat) p q,l[j]?=some p->l[j+1]?=some q->R p q):l.Pairwise R:=by
 induction l with
 | nil=>exact .nil
 | cons x l ih =>
  have ih:=ih (fun j p q hp hq=>h (j+1) p q (by simpa using hp) (by simpa using hq))
  refine List.Pairwise.cons ?_ ih
  cases l with
  | nil=>simp
  | cons y l' =>
   have hxy:=h 0 x y rfl rfl
   intro z hz
   rcases List.mem_cons.1 hz with rfl|hz
   ·exact hxy
   ·exact ht _ _ _ hxy ((List.pairwise_cons.1 ih).1 z hz)
def keyAt (t:Nat) (p:List Int):Int:=(p[t]?).getD 0
theorem keyAt_some {t:Nat}{p:List Int}{a:Int}(h:p[t]?=some a):p[t]?=some (keyAt t p):=by unfold keyAt;rw [h];rfl
theorem sorted_pw {t:Nat}{l:List (List Int)}(hc:∀ r∈l,r[t]?=some (keyAt t r)) (h:sortedAt t l=true):l.Pairwise (fun p q=>keyAt t p<=keyAt t q):=by
 refine adj_pw (fun a b c h1 h2=>Int.le_trans h1 h2) (fun j p q hp hq=>?_)
 unfold sortedAt at h
 rw [List.all_eq_true]at h
 have hj:j<l.length:=(List.getElem?_eq_some_iff.1 hp).1
 have h2:=h j (List.mem_range.2 hj)
 rw [okAt_val hp hq,leAt_val (hc p (List.mem_of_getElem? hp)) (hc q (List.mem_of_getElem? hq))]at h2
 exact of_decide_eq_true h2
theorem filter_step {t:Nat}{l:List (List Int)}(h:l.Pairwise (fun p q=>keyAt t p<=keyAt t q)) (k:Int) :
  l.filter (fun p=>decide (keyAt t p<k+1))=l.filter (fun p=>decide (keyAt t p<k))++l.filter (fun p=>decide (keyAt t p=k)):=by
 induction l with
 | nil=>rfl
 | cons x l ih =>
  obtain⟨hx,hl⟩:=List.pairwise_cons.1 h
  have ih:=ih hl
  by_cases h1:keyAt t x<k
  ·have h2:keyAt t x<k+1:=by omega
   have h3:¬ keyAt t x=k:=by omega
   rw [List.filter_cons_of_pos (by simpa using h2),List.filter_cons_of_pos (by simpa using h1),List.filter_cons_of_neg (by simpa using h3),ih];rfl
  ·have he:l.filter (fun p=>decide (keyAt t p<k))=[]:=by
    rw [List.filter_eq_nil_iff];intro p hp;have:=hx p hp;simp;omega
   rw [he]at ih
   by_cases h2:keyAt t x=k
   ·have h3:keyAt t x<k+1:=by omega
    rw [List.filter_cons_of_pos (by simpa using h3),List.filter_cons_of_neg (by simpa using h1),List.filter_cons_of_pos (by simpa using h2),he,ih];rfl
   ·have h3:¬ keyAt t x<k+1:=by omega
    rw [List.filter_cons_of_neg (by simpa using h3),List.filter_cons_of_neg (by simpa using h1),List.filter_cons_of_neg (by simpa using h2),he,ih]
theorem nest_filter {β γ:Type}{t:Nat}{val:Int}{f:List Int->β->Option γ}{xs:List (List Int)}{ys:List β}(hc:∀ r∈xs,r[t]?=some (keyAt t r)) :
  nestRows (fun p q=>if p[t]?=some val then f p q else none) xs ys=nestRows f (xs.filter (fun p=>decide (keyAt t p=val))) ys:=by
 induction xs with
 | nil=>rfl
 | cons x xs ih =>
  have ih:=ih (fun r hr=>hc r (List.mem_cons_of_mem _ hr))
  have hx:=hc x (List.mem_cons_self ..)
  unfold nestRows at ih ⊢
  rw [List.flatMap_cons,ih]
  by_cases h:keyAt t x=val
  ·have h2:x[t]?=some val:=by rw [hx,h]
   rw [List.filter_cons_of_pos (by simpa using h),List.flatMap_cons]
   simp [h2]
  ·have h2:¬ x[t]?=some val:=by rw [hx];simpa using h
   rw [List.filter_cons_of_neg (by simpa using h)]
   simp [h2]
def rowsTo (x y:StreamD) (t:Nat):Nat->List (List Int)
 | 0=>[]
 | k+1=>rowsTo x y t k++nestRows (fun p q=>if p[t]?=some (k:Int) then joinBy x y p q else none) x.fRows y.fRows
theorem rowsTo_eq {x y:StreamD}{t:Nat}(hc:∀ r∈x.fRows,r[t]?=some (keyAt t r)/\0<=keyAt t r) (hp:x.fRows.Pairwise (fun p q=>keyAt t p<=keyAt t q)) (k:Nat) :
  rowsTo x y t k=nestRows (fun p q=>joinBy x y p q) (x.fRows.filter (fun p=>decide (keyAt t p<(k:Int)))) y.fRows:=by
 induction k with
 | zero =>
  have:x.fRows.filter (fun p=>decide (keyAt t p<((0:Nat):Int)))=[]:=by
   rw [List.filter_eq_nil_iff];intro p hp;have:=(hc p hp).2;simp;omega
  rw [this];rfl
 | succ k ih =>
  have e:((k+1:Nat):Int)=(k:Int)+1:=by omega
  rw [e,filter_step hp,rowsTo,ih,nest_filter (fun r hr=>(hc r hr).1)]
  unfold nestRows;rw [List.flatMap_append]
theorem rowsTo_all {x y:StreamD}{t:Nat}(hcol:∀ r∈x.fRows,∃ a:Int,r[t]?=some a/\0<=a/\a<=9) (hs:sortedAt t x.fRows=true):rowsTo x y t 10=nestRows (fun p q=>joinBy x y p q) x.fRows y.fRows:=by
 have hc:∀ r∈x.fRows,r[t]?=some (keyAt t r)/\0<=keyAt t r/\keyAt t r<=9:=by
  intro r hr
  obtain⟨a,ha,h1,h2⟩:=hcol r hr
  have hk:keyAt t r=a:=by unfold keyAt;rw [ha];rfl
  exact⟨by rw [hk];exact ha,by omega,by omega⟩
 rw [rowsTo_eq (fun r hr=>⟨(hc r hr).1,(hc r hr).2.1⟩) (sorted_pw (fun r hr=>(hc r hr).1) hs)]
 have:x.fRows.filter (fun p=>decide (keyAt t p<((10:Nat):Int)))=x.fRows:=by
  rw [List.filter_eq_self];intro p hp;have:=(hc p hp).2.2;simp;omega
 rw [this]
theorem isSorted_parts {x:StreamD}{v:Int}(h:isSorted x v=true):validStream x=true/\∃ t,x.fVars.findIdx? (fun c=>c==v)=some t/\sortedAt t x.fRows=true:=by
 unfold isSorted at h
 rw [Bool.and_eq_true]at h
 refine⟨h.1,?_⟩
 have h2:=h.2
 split at h2
 ·cases h2
 ·rename_i t ht;exact⟨t,ht,h2⟩
theorem find_lt {l:List Int}{v:Int}{t:Nat}(h:l.findIdx? (fun c=>c==v)=some t):t<l.length:=(List.findIdx?_eq_some_iff_getElem.1 h).1
/-- the loop's world in the reference's MergeJoin: the box of the rows so far -/
structure Lm (wB:World) (gO:Nat) (V:Value) (rows:List (List Int)) (AR:Option Addr) (nR cR:Nat) (wr:World):Prop where
 chg:Chg [gO] wB wr
 ko:Bk wr gO 51 [V,.slice AR nR cR]
 ms:MS wB.heap.size NB 24 (rSlice NB 3 rInt) wr AR nR cR rows
def lmW (wB:World) (gO:Nat) (AR:Option Addr) (nR cR:Nat):World:=wB.setCell ⟨gO,1,none⟩ (.slice AR nR cR)
theorem lmW_size (wB:World) (gO:Nat) (AR:Option Addr) (nR cR:Nat):(lmW wB gO AR nR cR).heap.size=wB.heap.size:=by unfold lmW;rw [World.size_setCell]
theorem Lm.low {wB wr:World}{gO:Nat}{V z:Value}{rows:List (List Int)}{AR:Option Addr}{nR cR:Nat}(h:Lm wB gO V rows AR nR cR wr) (hB:Bk wB gO 51 [V,z]) :
  Below (lmW wB gO AR nR cR).heap.size (lmW wB gO AR nR cR) wr:=by
 refine⟨h.chg.os,h.chg.tape,h.chg.output,by rw [lmW_size];exact h.chg.size,fun k hk=>?_⟩
 rw [lmW_size]at hk
 by_cases e:k=gO
 ·subst e
  have h1:=hB.set 1 (.slice AR nR cR)
  have h2:=h.ko
  unfold Bk at h1 h2
  unfold lmW
  rw [h1,h2];rfl
 ·exact(h.chg.block k hk (by simpa using e)).trans (heap_setCell_other wB ⟨gO,1,none⟩ k _ (fun e2=>e e2)).symm
theorem Lm.rows {wB wr:World}{gO:Nat}{V:Value}{rows:List (List Int)}{AR:Option Addr}{nR cR:Nat}(h:Lm wB gO V rows AR nR cR wr) :
  MS (lmW wB gO AR nR cR).heap.size NB 24 (rSlice NB 3 rInt) wr AR nR cR rows:=by rw [lmW_size];exact h.ms
theorem Lm.after {wB w':World}{gO:Nat}{V z:Value}{rows':List (List Int)}{AR AR':Option Addr}{nR cR nR' cR':Nat}(hB:Bk wB gO 51 [V,z]) (hb:Below (lmW wB gO AR nR cR).heap.size (lmW wB gO AR nR cR) w')
  (hm:MS (lmW wB gO AR nR cR).heap.size NB 24 (rSlice NB 3 rInt) w' AR' nR' cR' rows') :
  Bk w' gO 51 [V,.slice AR nR cR]/\Lm wB gO V rows' AR' nR' cR' ((w'.setCell ⟨gO,0,none⟩ V).setCell ⟨gO,1,none⟩ (.slice AR' nR' cR')):=by
 have k1:Bk (lmW wB gO AR nR cR) gO 51 [V,.slice AR nR cR]:=hB.set 1 _
 have k2:Bk w' gO 51 [V,.slice AR nR cR]:=k1.below hb
 refine⟨k2,⟨?_,(k2.set 0 V).set 1 _,?_⟩⟩
 ·have c1:Chg [gO] wB (lmW wB gO AR nR cR):=(Chg.refl _ _).setCell (by simp) _ _
  exact((c1.trans (Chg.ofBelow hb _)).setCell (by simp) _ _).setCell (by simp) _ _
 ·rw [lmW_size]at hm
  obtain⟨fp,o,fr⟩:=hm
  refine⟨fp,o.okeep (rSlice_ok NB _ rInt_ok) (fun k hk=>?_),fr⟩
  have h1:=fr.ge k hk
  have h2:=hB.lt
  have hn:k≠gO:=by omega
  exact(heap_setCell_other _ ⟨gO,1,none⟩ k _ (fun e=>hn e)).trans (heap_setCell_other _ ⟨gO,0,none⟩ k _ (fun e=>hn e))
theorem jfin2 {w W:World}{B gR:Nat}{cs:List Value}{x:StreamD}{v v1 v2:Value}(h:OwnS W B cs x) (hR:gR<B) (hwR:w.heap.size<=gR) (hb:Below w.heap.size w W) :
  RetVB (rStream NB) x v w (.returned (.tuple #[.agg cs.toArray,v])) ((W.setCell ⟨gR,0,none⟩ v1).setCell ⟨gR,1,none⟩ v2):=by
 obtain⟨fp,o,f⟩:=h
 refine⟨cs,fp,rfl,(rStream_ok NB).okeep o (fun z hz=>?_),f.mono (by omega),bset2 hb hwR _ _⟩
 have hz2:=f.ge z hz
 have hn2:z≠gR:=by omega
 exact(heap_setCell_other _ ⟨gR,1,none⟩ z _ (fun e=>hn2 e)).trans (heap_setCell_other _ ⟨gR,0,none⟩ z _ (fun e=>hn2 e))
end Go.Proofs.YtiafklphblkpbaaGreat
