/-
  JnS
-/
import Derived.Test.YtadgmjdafkihfaaGreatStr
import Derived.Test.YtadgmjdafkihfaaGreatKeep
import Derived.Deep.RegionHeld3
namespace Go.Proofs.YtadgmjdafkihfaaGreat
open Go.RowKit
set_option linter.unusedVariables false
set_option linter.unusedSimpArgs false

theorem idxOf_or {l:List Int}{v:Int}:(idxOf (fun b=>b==v) l=-1/\l.findIdx? (fun b=>b==v)=none)\/∃ k:Nat,idxOf (fun b=>b==v) l=k/\l.findIdx? (fun b=>b==v)=some k/\k<l.length:=by
 unfold idxOf
 cases h:l.findIdx? (fun b=>b==v) with
 | none=>exact .inl ⟨rfl,rfl⟩
 | some k =>
  obtain⟨h1,_⟩:=List.findIdx?_eq_some_iff_getElem.1 h
  exact .inr ⟨k,rfl,rfl,h1⟩
theorem lk_none {b y:List Int}{v:Int}(h:b.findIdx? (fun c=>c==v)=none):lk b y v=none:=by unfold lk;rw [h]
theorem lk_some {b y:List Int}{v q:Int}{k:Nat}(h:b.findIdx? (fun c=>c==v)=some k) (hq:y[k]?=some q):lk b y v=some q:=by unfold lk;rw [h];exact hq
theorem find_self {a:List Int}{m v:Int}{i:Nat}(ha:colsOk a m=true) (h:a[i]?=some v):a.findIdx? (fun c=>c==v)=some i:=by
 rw [List.findIdx?_eq_some_iff_getElem]
 obtain⟨hi,rfl⟩:=List.getElem?_eq_some_iff.1 h
 refine⟨hi,by simp,fun j hj=>?_⟩
 have:=asc_le (fun k p c hp hc=>colsOk_asc ha hp hc) hj (List.getElem?_eq_getElem (by omega)) h
 simp;omega
theorem mem_find {b:List Int}{v:Int}(h:v∈b):∃ k,b.findIdx? (fun c=>c==v)=some k/\k<b.length:=by
 cases hh:b.findIdx? (fun c=>c==v) with
 | none=>rw [List.findIdx?_eq_none_iff]at hh;have:=hh v h;simp at this
 | some k=>exact⟨k,rfl,(List.findIdx?_eq_some_iff_getElem.1 hh).1⟩
theorem idxOf_find {b:List Int}{v:Int}{k:Nat}(h:b.findIdx? (fun c=>c==v)=some k):idxOf (fun c=>c==v) b=k:=by unfold idxOf;rw [h]
theorem idxOf_none {b:List Int}{v:Int}(h:b.findIdx? (fun c=>c==v)=none):idxOf (fun c=>c==v) b=-1:=by unfold idxOf;rw [h]
def unionTo (a b:List Int) (k:Nat):List Int:=((List.range k).map Int.ofNat).filter fun v=>hasI a v||hasI b v
theorem unionTo_yes {a b:List Int}{k:Nat}(h:(hasI a k||hasI b k)=true):unionTo a b (k+1)=unionTo a b k++[(k:Int)]:=by
 unfold unionTo;rw [List.range_succ,List.map_append,List.filter_append]
 simpa using h
theorem unionTo_no {a b:List Int}{k:Nat}(h:(hasI a k||hasI b k)=false):unionTo a b (k+1)=unionTo a b k:=by
 unfold unionTo;rw [List.range_succ,List.map_append,List.filter_append]
 simpa using h
theorem joinRow_snoc {vars a x b y:List Int}{k:Nat}{v:Int}(h:vars[k]?=some v):joinRow (vars.take (k+1)) a x b y=joinRow (vars.take k) a x b y++[joinVal a x b y v]:=by
 unfold joinRow;rw [take_snoc h,List.map_append];rfl
end Go.Proofs.YtadgmjdafkihfaaGreat
