/-
  Space
-/
import Derived.Test.YtnlcfkpcmfljeaaGreatBloc
set_option linter.unusedSimpArgs false
set_option linter.unusedVariables false
namespace Go.Proofs.YtnlcfkpcmfljeaaGreat
open Go.RowKit
theorem zipAt {α β:Type}{a:List α}{b:List β}{k:Nat}{x:α}{y:β}(hx:a[k]?=some x) (hy:b[k]?=some y):(a.zip b)[k]?=some (x,y):=by
 rw [List.getElem?_zip_eq_some];exact⟨hx,hy⟩
def idxG (n:Int) (s:List (Int × Int)):Int:=s.foldl (fun n p=>n*p.1+p.2) n
def FitD:List Int->List Int->Prop
 | [],[]=>True
 | v::ws,d::ds=>0<=d/\d<v/\FitD ws ds
 | _,_=>False
theorem idx_digs:∀ (ws:List Int),(∀ v∈ws,1<=v)->∀ i:Int,idxG (digs ws i).2 (ws.zip (digs ws i).1)=i/\FitD ws (digs ws i).1
 | [],_,i=>⟨rfl,trivial⟩
 | v::ws,h,i=>by
  have hv:=h v List.mem_cons_self;obtain⟨h1,h2⟩:=idx_digs ws (fun x hx=>h x (List.mem_cons_of_mem _ hx)) i;refine⟨?_,Int.emod_nonneg _ (by omega),Int.emod_lt_of_pos _ (by omega),h2⟩;show idxG ((digs ws i).2 / v*v+(digs ws i).2 % v) (ws.zip (digs ws i).1)=i;rw [Int.mul_comm,Int.mul_ediv_add_emod];exact h1
theorem fit_len:∀ {ws ds:List Int},FitD ws ds->ws.length=ds.length
 | [],[],_=>rfl
 | _::_,_::_,h=>by simp [fit_len h.2.2]
 | [],_::_,h=>by cases h
 | _::_,[],h=>by cases h
theorem fit_at:∀ {ws ds:List Int}{k:Nat}{v d:Int},FitD ws ds->ws[k]?=some v->ds[k]?=some d->0<=d/\d<v
 | _::_,_::_,0,v,d,h,h1,h2=>by simp at h1 h2;subst h1;subst h2;exact⟨h.1,h.2.1⟩
 | _::_,_::_,k+1,v,d,h,h1,h2=>by simp at h1 h2;exact fit_at h.2.2 h1 h2
 | [],[],_,_,_,_,h1,_=>by simp at h1
 | [],_::_,_,_,_,h,_,_=>by cases h
 | _::_,[],_,_,_,h,_,_=>by cases h
def digL (b:BoxD) (l:List Int):List Int:=(l.zip b.fLow).map (fun p=>p.1 - p.2)
theorem digL_at {b:BoxD}{l:List Int}{k:Nat}{x y:Int}(hx:l[k]?=some x) (hy:b.fLow[k]?=some y):(digL b l)[k]?=some (x - y):=by
 unfold digL;rw [List.getElem?_map,zipAt hx hy];rfl
theorem dom_of {a b:List Int}(h:a.length=b.length) (hk:∀ (k:Nat) (x y:Int),a[k]?=some x->b[k]?=some y->y<=x):dom a b=true:=by
 unfold dom;simp only [Bool.and_eq_true,decide_eq_true_eq,List.all_eq_true];refine⟨h,fun p hp=>?_⟩;obtain⟨k,hk2⟩:=List.getElem?_of_mem hp;rw [List.getElem?_zip_eq_some]at hk2;exact hk k p.1 p.2 hk2.1 hk2.2
theorem inBox_of {b:BoxD}{l:List Int}(hv:validBox b=true) (hl:l.length=b.fLow.length) (h1:∀ (k:Nat) (x y:Int),l[k]?=some x->b.fLow[k]?=some y->y<=x) (h2:∀ (k:Nat) (x y:Int),b.fHigh[k]?=some x->l[k]?=some y->y<=x):inBox b l=true:=by
 unfold inBox;rw [hv,dom_of hl h1,dom_of (by rw [(validBox_parts hv).2.2.2.1,hl]) h2];rfl
theorem loc_in {b:BoxD}(hv:validBox b=true) {i:Int}(h0:0<=i) (h1:i<volume b):∃ l,boxLoc b i=(l,true)/\inBox b l=true/\boxIndex b l=i:=by
 have hw:=widths_mem hv;obtain⟨hi,hf⟩:=idx_digs (widths b) (fun v hv=>(hw v hv).1) i
 have hz:(digs (widths b) i).2=0:=by
  rw [digs_zero h0 (fun v hv=>(hw v hv).1)];exact Int.ediv_eq_zero_of_lt h0 h1
 rw [hz]at hi;have hp:=validBox_parts hv;have hl:=fit_len hf;rw [widths_len hv]at hl;have hlen:(locOf b i).length=b.fLow.length:=by unfold locOf;rw [List.length_zipWith];omega
 have hat:∀ (k:Nat) (x y:Int),(locOf b i)[k]?=some x->b.fLow[k]?=some y->(digs (widths b) i).1[k]?=some (x - y):=by
  intro k x y hx hy;unfold locOf at hx;have hd:=List.getElem?_eq_getElem (l:=(digs (widths b) i).1) (i:=k) (by have:=lt_of_at hy;omega);rw [List.getElem?_zipWith,hy,hd]at hx;simp at hx;rw [hd,<- hx];congr 1;omega
 have hin:inBox b (locOf b i)=true:=by
  refine inBox_of hv hlen (fun k x y hx hy=>?_) (fun k z x hz hx=>?_)
  ·have hz:=List.getElem?_eq_getElem (l:=b.fHigh) (i:=k) (by have:=lt_of_at hy;omega)
   have:=fit_at hf (widths_at hz hy) (hat k x y hx hy);omega
  ·have hy:=List.getElem?_eq_getElem (l:=b.fLow) (i:=k) (by have:=lt_of_at hx;omega)
   have:=fit_at hf (widths_at hz hy) (hat k x _ hx hy);omega
 refine⟨locOf b i,?_,hin,?_⟩
 ·unfold boxLoc;rw [hv,decide_eq_true h0,decide_eq_true h1];rfl
 ·have e:digL b (locOf b i)=(digs (widths b) i).1:=by
   refine List.ext_getElem? fun k=>?_;by_cases hk:k<b.fLow.length
   ·have hy:=List.getElem?_eq_getElem hk
    have hx:=List.getElem?_eq_getElem (l:=locOf b i) (i:=k) (by omega);rw [digL_at hx hy,hat k _ _ hx hy]
   ·rw [List.getElem?_eq_none (by unfold digL;simp;omega),List.getElem?_eq_none (by omega)]
  have:boxIndex b (locOf b i)=idxG 0 ((widths b).zip (digL b (locOf b i))):=by unfold boxIndex;rw [hin];rfl
  rw [this,e];exact hi
end Go.Proofs.YtnlcfkpcmfljeaaGreat
