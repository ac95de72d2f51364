/-
  JnS
-/
import Derived.Test.YtiafklphblkpbaaGreatStr
import Derived.Test.YtiafklphblkpbaaGreatKeep
import Derived.Deep.RegionHeld3
namespace Go.Proofs.YtiafklphblkpbaaGreat
open Go.RowKit
set_option linter.unusedVariables false
set_option linter.unusedSimpArgs false

theorem idxOf_or {l:List Int}{v:Int}:(idxOf (fun b=>b==v) l=-1/\l.findIdx? (fun b=>b==v)=none)\/∃ k:Nat,idxOf (fun b=>b==v) l=k/\l.findIdx? (fun b=>b==v)=some k/\k<l.length:=by
 unfold idxOf
 cases h:l.findIdx? (fun b=>b==v) with
 | none=>exact .inl ⟨rfl,rfl⟩
 | some k =>
  obtain⟨h1,_⟩:=List.findIdx?_eq_some_iff_getElem.1 h
  exact .inr ⟨k,rfl,rfl,h1⟩
theorem lk_none {b y:List Int}{v:Int}(h:b.findIdx? (fun c=>c==v)=none):lk b y v=none:=by unfold lk;rw [h]
theorem lk_some {b y:List Int}{v q:Int}{k:Nat}(h:b.findIdx? (fun c=>c==v)=some k) (hq:y[k]?=some q):lk b y v=some q:=by unfold lk;rw [h];exact hq
theorem find_self {a:List Int}{m v:Int}{i:Nat}(ha:colsOk a m=true) (h:a[i]?=some v):a.findIdx? (fun c=>c==v)=some i:=by
 rw [List.findIdx?_eq_some_iff_getElem]
 obtain⟨hi,rfl⟩:=List.getElem?_eq_some_iff.1 h
 refine⟨hi,by simp,fun j hj=>?_⟩
 have:=asc_le (fun k p c hp hc=>colsOk_asc ha hp hc) hj (List.getElem?_eq_getElem (by omega)) h
 simp;omega
theorem mem_find {b:List Int}{v:Int}(h:v∈b):∃ k,b.findIdx? (fun c=>c==v)=some k/\k<b.length:=by
 cases hh:b.findIdx? (fun c=>c==v) with
 | none=>rw [List.findIdx?_eq_none_iff]at hh;have:=hh v h;simp at this
 | some k=>exact⟨k,rfl,(List.findIdx?_eq_some_iff_getElem.1 hh).1⟩
theorem idxOf_find {b:List Int}{v:Int}{k:Nat}(h:b.findIdx? (fun c=>c==v)=some k):idxOf (fun c=>c==v) b=k:=by unfold idxOf;rw [h]
theorem idxOf_none {b:List Int}{v:Int}(h:b.findIdx? (fun c=>c==v)=none):idxOf (fun c=>c==v) b=-1:=by unfold idxOf;rw [h]
set_option maxHeartbeats 400000 in
theorem sl27Find_q (A:Option Addr) (n cap:Nat) (l:List Int) (x:Int) (w:World) (hr:RS NB rInt w A n cap l) :
  Calls Tryz.prog 64 #[.slice A n cap,.int .i64 x] w fun e w'=>e=.returned (.int .i64 (idxOf (fun b=>b==x) l))/\w'=w:=by
 have hn:=hr.bound
 go_enter Tryz.func64,Tryz.ntmps64
 go_wp2
 go_loop [5] (fun i=>∃ k:Nat,k<=n/\i=.int .i64 k/\(l.take k).all (fun b=>!(b==x))=true) (fun i=>n - (intOf i).toNat)
 case atStart=>exact⟨0,Nat.zero_le _,rfl,rfl⟩
 case round =>
  obtain⟨k,hk,rfl,hall⟩:=hrel
  have Hall:=Lib.hid hall;clear hall
  by_cases hlt:k<n
  ·obtain⟨b,off,y,rfl,hc,hI,hy⟩:=hr.ati hlt
   by_cases hx:y=x
   ·have d1:(y==x)=true:=by simp [hx]
    have HX:=Lib.hid hx;clear hx
    go_wp2
    go_ret
    exact⟨ret_int (idxOf_yes Hall.out hy.out (by simp [HX.out])).symm,rfl⟩
   ·have d1:(y==x)=false:=by simp [hx]
    go_wp2
    go_round
    case rel=>exact⟨k+1,by omega,by go_num,all_snoc' Hall.out hy.out (by simp [d1])⟩
    case measure=>simp [intOf];omega
  ·go_wp2
   go_ret
   exact⟨ret_int (a:=-1) (idxOf_no (take_all hr.len hlt▸Hall.out)).symm,rfl⟩
theorem sl27Find_v {A:Option Addr}{n cap:Nat}{l:List Int}{x v:Int}{w:World}(hv:idxOf (fun b=>b==x) l=v) (hr:RS NB rInt w A n cap l) :
  Calls Tryz.prog 64 #[.slice A n cap,.int .i64 x] w fun e w'=>e=.returned (.int .i64 v)/\w'=w:=hv▸sl27Find_q A n cap l x w hr
def unionTo (a b:List Int) (k:Nat):List Int:=((List.range k).map Int.ofNat).filter fun v=>hasI a v||hasI b v
theorem unionTo_yes {a b:List Int}{k:Nat}(h:(hasI a k||hasI b k)=true):unionTo a b (k+1)=unionTo a b k++[(k:Int)]:=by
 unfold unionTo;rw [List.range_succ,List.map_append,List.filter_append]
 simpa using h
theorem unionTo_no {a b:List Int}{k:Nat}(h:(hasI a k||hasI b k)=false):unionTo a b (k+1)=unionTo a b k:=by
 unfold unionTo;rw [List.range_succ,List.map_append,List.filter_append]
 simpa using h
theorem joinRow_snoc {vars a x b y:List Int}{k:Nat}{v:Int}(h:vars[k]?=some v):joinRow (vars.take (k+1)) a x b y=joinRow (vars.take k) a x b y++[joinVal a x b y v]:=by
 unfold joinRow;rw [take_snoc h,List.map_append];rfl
end Go.Proofs.YtiafklphblkpbaaGreat
