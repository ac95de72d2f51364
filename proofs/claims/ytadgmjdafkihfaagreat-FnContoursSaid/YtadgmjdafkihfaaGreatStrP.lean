/-
  StrP
-/
import Derived.Test.YtadgmjdafkihfaaGreatTypes
import Derived.Test.YtadgmjdafkihfaaGreatLoc
namespace Go.Proofs.YtadgmjdafkihfaaGreat
open Go.RowKit
set_option linter.unusedVariables false
set_option linter.unusedSimpArgs false

theorem range_all_snoc {f:Nat->Bool}{k:Nat}:(List.range (k+1)).all f=((List.range k).all f&&f k):=by
 rw [List.range_succ,List.all_append];simp
theorem range_all_no {f:Nat->Bool}{k n:Nat}(hk:k<n) (h:f k=false):(List.range n).all f=false:=by
 rw [Bool.eq_false_iff];intro h2
 rw [List.all_eq_true]at h2
 have:=h2 k (List.mem_range.2 hk)
 rw [h]at this;cases this
theorem range_all_at {f:Nat->Bool}{n:Nat}(h:(List.range n).all f=true) {k:Nat}(hk:k<n):f k=true:=by
 rw [List.all_eq_true]at h;exact h k (List.mem_range.2 hk)
/-- column i of a list of columns below m: in its range and above the one ahead of it -/
def colAt (l:List Int) (m:Int) (i:Nat):Bool :=
 match l[i]? with
 | some c=>inR c 0 (m - 1)&&(match i with|0=>true|j+1=>match l[j]? with|some p=>decide (p<c)|none=>true)
 | none=>true
def colsOk (l:List Int) (m:Int):Bool:=(List.range l.length).all (colAt l m)
theorem colsOk_rng {l:List Int}{m:Int}(h:colsOk l m=true) {k:Nat}{c:Int}(hc:l[k]?=some c):0<=c/\c<=m - 1:=by
 have:=range_all_at h (lt_of_at hc)
 simp only [colAt,hc,Bool.and_eq_true]at this
 exact inR_t.1 this.1
theorem colsOk_asc {l:List Int}{m:Int}(h:colsOk l m=true) {k:Nat}{p c:Int}(hp:l[k]?=some p) (hc:l[k+1]?=some c):p<c:=by
 have:=range_all_at h (lt_of_at hc)
 simp only [colAt,hc,hp,Bool.and_eq_true,decide_eq_true_eq]at this
 exact this.2
theorem asc_le {l:List Int}(h:∀ (k:Nat) (p c:Int),l[k]?=some p->l[k+1]?=some c->p<c) {i j:Nat}(hij:i<j) {p c:Int}(hp:l[i]?=some p) (hc:l[j]?=some c):p<c:=by
 induction j generalizing c with
 | zero=>omega
 | succ j ih =>
  have hj:j<l.length:=by have:=lt_of_at hc;omega
  have hx:l[j]?=some l[j]:=List.getElem?_eq_getElem hj
  have h1:=h j _ _ hx hc
  by_cases e:i=j
  ·subst e;rw [hp]at hx;injection hx with hx;omega
  ·have:=ih (by omega) hx;omega
theorem colsOk_pw {l:List Int}{m:Int}(h:colsOk l m=true):l.Pairwise (·<·):=by
 rw [List.pairwise_iff_getElem]
 intro i j hi hj hij
 exact asc_le (fun k p c hp hc=>colsOk_asc h hp hc) hij (List.getElem?_eq_getElem hi) (List.getElem?_eq_getElem hj)
theorem colsOk_mem {l:List Int}{m:Int}(h:colsOk l m=true) {c:Int}(hc:c∈l):0<=c/\c<=m - 1:=by
 obtain⟨k,hk,rfl⟩:=List.getElem_of_mem hc
 exact colsOk_rng h (List.getElem?_eq_getElem hk)
theorem pw_len {l:List Int}(a:Int) (n:Nat) (h:l.Pairwise (·<·)) (hr:∀ c∈l,a<=c/\c<a+n):l.length<=n:=by
 induction n generalizing l a with
 | zero =>
  cases l with
  | nil=>simp
  | cons c l=>have:=hr c List.mem_cons_self;omega
 | succ n ih =>
  cases l with
  | nil=>simp
  | cons c l =>
   rw [List.pairwise_cons]at h
   have:=ih (a+1) h.2 (fun d hd=>by have h1:=h.1 d hd;have h2:=hr d (List.mem_cons_of_mem _ hd);have h3:=hr c List.mem_cons_self;omega)
   simp;omega
theorem pw_eq {l l':List Int}(h:l.Pairwise (·<·)) (h':l'.Pairwise (·<·)) (hm:∀ x,x∈l↔x∈l'):l=l':=by
 have nd:l.Nodup:=h.imp (fun h=>by omega)
 have nd':l'.Nodup:=h'.imp (fun h=>by omega)
 have hp:l.Perm l':=(List.perm_ext_iff_of_nodup nd nd').2 hm
 exact List.Perm.eq_of_pairwise (fun a b _ _ h1 h2=>by omega) h h' hp
/-- the numbers of two lists, ascending -/
def unionI (a b:List Int):List Int:=((List.range 4).map Int.ofNat).filter fun v=>hasI a v||hasI b v
def sortI (l:List Int):List Int:=l.mergeSort (fun a b=>decide (a<=b))
theorem sortI_perm (l:List Int):(sortI l).Perm l:=List.mergeSort_perm _ _
theorem sortI_pw (l:List Int):(sortI l).Pairwise (·<=·):=by
 have:=List.pairwise_mergeSort (le:=fun (a b:Int)=>decide (a<=b)) (by intro a b c;simp;omega) (by intro a b;simp;omega) l
 exact this.imp (by simp)
theorem sortI_eq {l s:List Int}(hp:s.Perm l) (hs:s.Pairwise (·<=·)):s=sortI l :=
 List.Perm.eq_of_pairwise (fun a b _ _ h1 h2=>by omega) hs (sortI_pw l) (hp.trans (sortI_perm l).symm)
/-- a list without what equals the one ahead of it -/
def compactI:List Int->List Int
 | []=>[]
 | [a]=>[a]
 | a::b::l=>if a=b then compactI (b::l) else a::compactI (b::l)
theorem compactI_mem {l:List Int}{x:Int}:x∈compactI l↔x∈l:=by
 fun_induction compactI l with
 | case1=>simp
 | case2 a=>simp
 | case3 a l ih=>rw [ih];simp
 | case4 a b l hne ih=>simp [ih]
theorem compactI_pw {l:List Int}(h:l.Pairwise (·<=·)):(compactI l).Pairwise (·<·):=by
 fun_induction compactI l with
 | case1=>simp
 | case2 a=>simp
 | case3 a l ih=>exact ih (List.pairwise_cons.1 h).2
 | case4 a b l hne ih =>
  obtain⟨h1,h2⟩:=List.pairwise_cons.1 h
  refine List.pairwise_cons.2 ⟨fun x hx=>?_,ih h2⟩
  have hx:=compactI_mem.1 hx
  have hab:=h1 b List.mem_cons_self
  rcases List.mem_cons.1 hx with rfl|hx
  ·omega
  ·have:=(List.pairwise_cons.1 h2).1 x hx;omega
theorem unionI_mem {a b:List Int}{x:Int}:x∈unionI a b↔(0<=x/\x<4)/\(x∈a\/x∈b):=by
 unfold unionI
 rw [List.mem_filter]
 simp only [List.mem_map,List.mem_range,hasI,Bool.or_eq_true,decide_eq_true_eq]
 constructor
 ·rintro⟨⟨n,hn,rfl⟩,h⟩;exact⟨⟨by simp,by simp;omega⟩,h⟩
 ·rintro⟨h1,h⟩;exact⟨⟨x.toNat,by omega,by simp;omega⟩,h⟩
theorem unionI_pw (a b:List Int):(unionI a b).Pairwise (·<·):=by
 unfold unionI
 apply List.Pairwise.filter
 decide
theorem union_eq {a b:List Int}(ha:colsOk a 4=true) (hb:colsOk b 4=true):compactI (sortI (a++b))=unionI a b:=by
 refine pw_eq (compactI_pw (sortI_pw _)) (unionI_pw a b) fun x=>?_
 rw [compactI_mem,(sortI_perm _).mem_iff,List.mem_append,unionI_mem]
 constructor
 ·intro h
  refine⟨?_,h⟩
  rcases h with h|h
  ·have:=colsOk_mem ha h;omega
  ·have:=colsOk_mem hb h;omega
 ·exact fun h=>h.2
/-- a row: so many values from 0 to 9 -/
def rowOk (row:List Int) (n:Int):Bool:=row.all (fun v=>inR v 0 9)&&decide ((row.length:Int)=n)
/-- what a row bears in the column of variable v -/
def lk (a x:List Int) (v:Int):Option Int:=match a.findIdx? (fun b=>b==v) with|some i=>x[i]?|none=>none
/-- two rows agree at variable v -/
def agreeAt (a x b y:List Int) (v:Int):Bool:=match lk a x v,lk b y v with|some p,some q=>decide (p=q)|_,_=>true
def agree (a x b y:List Int):Bool:=a.all (agreeAt a x b y)
def joinVal (a x b y:List Int) (v:Int):Int:=match lk a x v with|some p=>p|none=>(lk b y v).getD 0
def joinRow (vars a x b y:List Int):List Int:=vars.map (joinVal a x b y)
def joinOpt (vars a b x y:List Int):Option (List Int):=if agree a x b y then some (joinRow vars a x b y) else none
theorem agree_vars {a x b y vars:List Int}(h:∀ v,v∈vars↔v∈a\/v∈b):vars.all (agreeAt a x b y)=agree a x b y:=by
 rw [Bool.eq_iff_iff]
 unfold agree
 rw [List.all_eq_true,List.all_eq_true]
 constructor
 ·intro g v hv;exact g v ((h v).2 (.inl hv))
 ·intro g v hv
  by_cases ha:v∈a
  ·exact g v ha
  ·have:a.findIdx? (fun b=>b==v)=none:=by
    rw [List.findIdx?_eq_none_iff];intro z hz;simp;rintro rfl;exact ha hz
   simp [agreeAt,lk,this]

/-! ### joins -/
def nestRows {α β γ:Type} (f:α->β->Option γ) (xs:List α) (ys:List β):List γ:=xs.flatMap fun x=>ys.filterMap (f x)
theorem nest_snoc {α β γ:Type}{f:α->β->Option γ}{xs:List α}{ys:List β}{k:Nat}{x:α}(h:xs[k]?=some x):nestRows f (xs.take (k+1)) ys=nestRows f (xs.take k) ys++ys.filterMap (f x):=by
 unfold nestRows;rw [take_snoc h,List.flatMap_append];simp
theorem fm_snoc {α γ:Type}{f:α->Option γ}{ys:List α}{k:Nat}{y:α}(h:ys[k]?=some y):(ys.take (k+1)).filterMap f=(ys.take k).filterMap f++(f y).toList:=by
 rw [take_snoc h,List.filterMap_append]
 cases hf:f y<;>simp [hf]
theorem nest_le {α β γ:Type}{f:α->β->Option γ}{xs:List α}{ys:List β}(k:Nat):(nestRows f (xs.take k) ys).length<=(nestRows f xs ys).length:=by
 have:nestRows f xs ys=nestRows f (xs.take k) ys++nestRows f (xs.drop k) ys:=by
  unfold nestRows;rw [<- List.flatMap_append,List.take_append_drop]
 rw [this,List.length_append];omega
theorem fm_le {α γ:Type}(f:α->Option γ) (ys:List α):(ys.filterMap f).length<=ys.length:=List.length_filterMap_le _ _
def cap4 {α:Type} (l:List α):List α:=l.take 4097
theorem cap4_full {α:Type}{l:List α}(m:List α) (h:¬ (cap4 l).length<=4096):cap4 (l++m)=cap4 l:=by
 have hl:4097<=l.length:=by unfold cap4 at h;rw [List.length_take]at h;omega
 unfold cap4;rw [List.take_append_of_le_length hl]
theorem cap4_more {α:Type}{l:List α}(z:α) (h:(cap4 l).length<=4096):cap4 (l++[z])=cap4 l++[z]:=by
 have hl:l.length<=4096:=by unfold cap4 at h;rw [List.length_take]at h;omega
 unfold cap4
 rw [List.take_of_length_le (by simp;omega),List.take_of_length_le (by omega)]
theorem cap4_small {α:Type}{l:List α}(h:l.length<=4097):cap4 l=l:=List.take_of_length_le h
theorem cap4_le {α:Type}(l:List α):(cap4 l).length<=4097:=by unfold cap4;rw [List.length_take];omega
theorem cap4_test {α:Type}{l:List α}:(cap4 l).length<=4096↔l.length<=4096:=by unfold cap4;rw [List.length_take];omega

/-! ### insertion sort -/
/-- insertion sort: item j of the first i + 1 goes down -/
structure InsSt (l0 l:List Int) (i j:Nat):Prop where
 perm:l.Perm l0
 rest:∀ (a b:Nat) (x y:Int),a<b->b<=i->a≠j->b≠j->l[a]?=some x->l[b]?=some y->x<=y
 up:∀ (b:Nat) (x y:Int),j<b->b<=i->l[j]?=some x->l[b]?=some y->x<=y
/-- the first i are in order -/
def SortedTo (l:List Int) (i:Nat):Prop:=∀ (a b:Nat) (x y:Int),a<b->b<i->l[a]?=some x->l[b]?=some y->x<=y
theorem InsSt.start {l0 l:List Int}{i:Nat}(hp:l.Perm l0) (h:SortedTo l i):InsSt l0 l i i :=
 ⟨hp,fun a b x y h1 h2 _ h4 hx hy=>h a b x y h1 (by omega) hx hy,fun b x y h1 h2=>by omega⟩
theorem swap_perm {l:List Int}{k:Nat}{p c:Int}(hp:l[k]?=some p) (hc:l[k+1]?=some c):((l.set (k+1) p).set k c).Perm l:=by
 obtain⟨h1,rfl⟩:=List.getElem?_eq_some_iff.1 hp
 obtain⟨h2,rfl⟩:=List.getElem?_eq_some_iff.1 hc
 exact List.set_set_perm h2 h1
theorem InsSt.step {l0 l:List Int}{i k:Nat}{p c:Int}(h:InsSt l0 l i (k+1)) (hi:k+1<=i) (hp:l[k]?=some p) (hc:l[k+1]?=some c) (hlt:c<p):InsSt l0 ((l.set (k+1) p).set k c) i k:=by
 have l1:=lt_of_at hp
 have l2:=lt_of_at hc
 have g0:((l.set (k+1) p).set k c)[k]?=some c:=by rw [List.getElem?_set,if_pos rfl,if_pos (by simpa using l1)]
 have g1:((l.set (k+1) p).set k c)[k+1]?=some p:=by rw [List.getElem?_set,if_neg (by omega),List.getElem?_set,if_pos rfl,if_pos l2]
 have g2:∀ a,a≠k->a≠k+1->((l.set (k+1) p).set k c)[a]?=l[a]?:=fun a h1 h2=>by rw [List.getElem?_set,if_neg (by omega),List.getElem?_set,if_neg (by omega)]
 refine⟨(swap_perm hp hc).trans h.perm,fun a b x y h1 h2 h3 h4 hx hy=>?_,fun b x y h1 h2 hx hy=>?_⟩
 ·by_cases ea:a=k+1
  ·subst ea
   rw [g1]at hx;injection hx with hx
   rw [g2 b h4 (by omega)]at hy
   have:=h.rest k b p y (by omega) h2 (by omega) (by omega) hp hy;omega
  ·rw [g2 a h3 ea]at hx
   by_cases eb:b=k+1
   ·subst eb
    rw [g1]at hy;injection hy with hy
    have:=h.rest a k x p (by omega) (by omega) ea (by omega) hx hp;omega
   ·rw [g2 b h4 eb]at hy
    exact h.rest a b x y h1 h2 ea eb hx hy
 ·rw [g0]at hx;injection hx with hx
  by_cases eb:b=k+1
  ·subst eb
   rw [g1]at hy;injection hy with hy;omega
  ·rw [g2 b (by omega) eb]at hy
   have:=h.up b c y (by omega) h2 hc hy;omega
theorem InsSt.fin0 {l0 l:List Int}{i:Nat}(h:InsSt l0 l i 0):SortedTo l (i+1):=fun a b x y h1 h2 hx hy=>by
 by_cases ea:a=0
 ·subst ea;exact h.up b x y h1 (by omega) hx hy
 ·exact h.rest a b x y h1 (by omega) ea (by omega) hx hy
theorem InsSt.fin {l0 l:List Int}{i k:Nat}{p c:Int}(h:InsSt l0 l i (k+1)) (hi:k+1<=i) (hp:l[k]?=some p) (hc:l[k+1]?=some c) (hlt:¬ c<p):SortedTo l (i+1):=fun a b x y h1 h2 hx hy=>by
 by_cases ea:a=k+1
 ·subst ea;exact h.up b x y h1 (by omega) hx hy
 ·by_cases eb:b=k+1
  ·subst eb
   rw [hc]at hy;injection hy with hy
   by_cases e2:a=k
   ·subst e2;rw [hp]at hx;injection hx with hx;omega
   ·have:=h.rest a k x p (by omega) (by omega) ea (by omega) hx hp;omega
  ·exact h.rest a b x y h1 (by omega) ea eb hx hy
theorem SortedTo.pw {l:List Int}(h:SortedTo l l.length):l.Pairwise (·<=·):=by
 rw [List.pairwise_iff_getElem]
 intro a b ha hb hab
 exact h a b _ _ hab hb (List.getElem?_eq_getElem ha) (List.getElem?_eq_getElem hb)

/-! ### compaction -/
theorem compactI_snoc (l:List Int) (x y:Int):compactI (l++[x,y])=if x=y then compactI (l++[x]) else compactI (l++[x])++[y]:=by
 induction l with
 | nil=>by_cases h:x=y<;>simp [compactI,h]
 | cons a l ih =>
  cases l with
  | nil =>
   simp only [List.nil_append,List.cons_append]at ih ⊢
   rw [compactI.eq_def (a::x::[y]),compactI.eq_def (a::x::[])]
   simp only [ih]
   by_cases h1:a=x<;>by_cases h:x=y<;>simp [h1,h]
  | cons b l =>
   simp only [List.cons_append]at ih ⊢
   rw [compactI.eq_def (a::b::(l++[x,y])),compactI.eq_def (a::b::(l++[x]))]
   simp only [ih]
   by_cases h1:a=b<;>by_cases h:x=y<;>simp [h1,h]
theorem compactI_next {l:List Int}{m:Nat}{p c:Int}(hp:l[m]?=some p) (hc:l[m+1]?=some c):compactI (l.take (m+2))=if p=c then compactI (l.take (m+1)) else compactI (l.take (m+1))++[c]:=by
 rw [take_snoc hc,take_snoc hp,List.append_assoc]
 exact compactI_snoc _ _ _
theorem compactI_len (l:List Int):(compactI l).length<=l.length:=by
 fun_induction compactI l with
 | case1=>simp
 | case2 a=>simp
 | case3 a l ih=>simp at ih ⊢;omega
 | case4 a b l hne ih=>simp at ih ⊢;omega
theorem compactI_one (l:List Int) (h:l.length<=1):compactI l=l:=by
 match l,h with
 | [],_=>rfl
 | [a],_=>rfl

end Go.Proofs.YtadgmjdafkihfaaGreat
