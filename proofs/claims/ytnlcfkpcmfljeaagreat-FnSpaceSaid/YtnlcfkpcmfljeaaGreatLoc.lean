/-
  Loc, Has
-/
import Derived.Test.YtnlcfkpcmfljeaaGreatKeep
set_option linter.unusedVariables false
set_option maxHeartbeats 400000
namespace Go.Proofs.YtnlcfkpcmfljeaaGreat
open Go.RowKit
def isLoc (l:List Int):Bool:=l.all (fun c=>inR c 0 7)&&decide (l.length<=16)
theorem isLoc_no {l:List Int}{k:Nat}{x:Int}(h:l[k]?=some x) (hx:inR x 0 7=false):isLoc l=false:=by
 unfold isLoc;rw [Bool.and_eq_false_iff];left;rw [List.all_eq_false];exact⟨x,mem_of_at h,by simp [hx]⟩
theorem isLoc_end {l:List Int}{n:Nat}(hl:l.length=n) (h:l.all (fun c=>inR c 0 7)=true):isLoc l=decide ((n:Int)<=16):=by
 unfold isLoc;rw [h,hl];simp;omega
theorem all_snoc {l:List Int}{p:Int->Bool}{k:Nat}{x:Int}(h:(l.take k).all p=true) (hx:l[k]?=some x) (hp:p x=true):(l.take (k+1)).all p=true:=by
 rw [take_snoc hx,List.all_append,h];simp [hp]
theorem sIsLocation_c (A:Option Addr) (n cap:Nat) (l:List Int) (w:World) (hr:RS NB rInt w A n cap l) :
  Calls Tryz.prog 130 #[.slice A n cap] w fun e w'=>e=.returned (.bool (isLoc l))/\w=w':=by
 have hn:=hr.bound
 go_enter Tryz.func130,Tryz.ntmps130
 go_wp2
 go_loop [3] (fun i=>∃ k:Nat,k<=n/\i=.int .i64 k/\(l.take k).all (fun c=>inR c 0 7)=true) (fun i=>n - (intOf i).toNat)
 case atStart=>exact⟨0,Nat.zero_le _,rfl,rfl⟩
 case round =>
  obtain⟨k,hk,rfl,hall⟩:=hrel;have Hall:=Lib.hid hall;clear hall;by_cases hlt:k<n
  ·obtain⟨b,off,x,rfl,hc,hI,hxk⟩:=hr.ati hlt
   cases hx:inR x 0 7
   ·go_wp2_with (go_at_call 51;refine(l1In_c _ _ _ _).mono ?_;rintro e w' ⟨rfl,rfl⟩)
    go_ret;exact⟨ret_bool (a:=false) (isLoc_no hxk.out hx).symm,rfl⟩
   ·go_wp2_with (go_at_call 51;refine(l1In_c _ _ _ _).mono ?_;rintro e w' ⟨rfl,rfl⟩)
    go_round
    case rel=>exact⟨k+1,by omega,by go_num,all_snoc Hall.out hxk.out hx⟩
    case measure=>simp [intOf];omega
  ·go_wp2
   go_ret;exact⟨ret_bool (isLoc_end hr.len (take_all hr.len hlt▸Hall.out)).symm,rfl⟩
theorem iIsLocation_c (A:Option Addr) (n cap:Nat) (l:List Int) (w:World) (hr:RS NB rInt w A n cap l) :
  Calls Tryz.prog 144 #[.slice A n cap] w fun e w'=>e=.returned (.bool (isLoc l))/\w=w':=by
 have hn:=hr.bound
 go_enter Tryz.func144,Tryz.ntmps144
 go_wp2
 go_loop [7] (fun i=>∃ k:Nat,k<=n/\i=.int .i64 k/\(l.take k).all (fun c=>inR c 0 7)=true) (fun i=>n - (intOf i).toNat)
 case atStart=>exact⟨0,Nat.zero_le _,rfl,rfl⟩
 case round =>
  obtain⟨k,hk,rfl,hall⟩:=hrel;have Hall:=Lib.hid hall;clear hall;by_cases hlt:k<n
  ·obtain⟨b,off,x,rfl,hc,hI,hxk⟩:=hr.ati hlt
   cases hx:inR x 0 7
   ·go_wp2_with (go_at_call 89;refine(within_c _ _ _ _).mono ?_;rintro e w' ⟨rfl,rfl⟩)
    go_ret;exact⟨ret_bool (a:=false) (isLoc_no hxk.out hx).symm,rfl⟩
   ·go_wp2_with (go_at_call 89;refine(within_c _ _ _ _).mono ?_;rintro e w' ⟨rfl,rfl⟩)
    go_round
    case rel=>exact⟨k+1,by omega,by go_num,all_snoc Hall.out hxk.out hx⟩
    case measure=>simp [intOf];omega
  ·go_wp2
   go_ret;exact⟨ret_bool (isLoc_end hr.len (take_all hr.len hlt▸Hall.out)).symm,rfl⟩
def idxOf {α:Type} (p:α->Bool) (l:List α):Int:=match l.findIdx? p with|some i=>i|none=>-1
theorem idxOf_yes {α:Type}{l:List α}{p:α->Bool}{x:α}{k:Nat}(h:(l.take k).all (fun b=>!p b)=true) (hx:l[k]?=some x) (hc:p x=true):idxOf p l=k:=by
 have:l.findIdx? p=some k:=by
  rw [List.findIdx?_eq_some_iff_getElem];obtain⟨hk,rfl⟩:=List.getElem?_eq_some_iff.1 hx;refine⟨hk,hc,fun j hj=>?_⟩;rw [List.all_eq_true]at h;have:=h l[j] (List.mem_of_getElem? (i:=j) (by rw [List.getElem?_take,if_pos hj,List.getElem?_eq_getElem]));simpa using this
 unfold idxOf;rw [this]
theorem idxOf_no {α:Type}{l:List α}{p:α->Bool}(h:l.all (fun b=>!p b)=true):idxOf p l=-1:=by
 have:l.findIdx? p=none:=by
  rw [List.findIdx?_eq_none_iff];rw [List.all_eq_true]at h;intro x hx;simpa using h x hx
 unfold idxOf;rw [this]
theorem all_snoc' {α:Type}{l:List α}{p:α->Bool}{k:Nat}{x:α}(h:(l.take k).all p=true) (hx:l[k]?=some x) (hp:p x=true):(l.take (k+1)).all p=true:=by
 rw [take_snoc hx,List.all_append,h];simp [hp]
def hasI (l:List Int) (x:Int):Bool:=decide (x∈l)
theorem hasI_no {l:List Int}{x:Int}(h:l.all (fun b=>!(b==x))=true):hasI l x=false:=by
 rw [List.all_eq_true]at h;unfold hasI;rw [decide_eq_false_iff_not];intro hx;have:=h x hx;simp at this
theorem hasI_yes {l:List Int}{x:Int}{k:Nat}(h:l[k]?=some x):hasI l x=true:=by unfold hasI;rw [decide_eq_true_iff];exact mem_of_at h
theorem l7Has_q (A:Option Addr) (n cap:Nat) (l:List Int) (x:Int) (w:World) (hr:RS NB rInt w A n cap l) :
  Calls Tryz.prog 169 #[.slice A n cap,.int .i64 x] w fun e w'=>e=.returned (.bool (hasI l x))/\w'=w:=by
 have hn:=hr.bound
 go_enter Tryz.func169,Tryz.ntmps169
 go_wp2
 go_loop [5] (fun i=>∃ k:Nat,k<=n/\i=.int .i64 k/\(l.take k).all (fun b=>!(b==x))=true) (fun i=>n - (intOf i).toNat)
 case atStart=>exact⟨0,Nat.zero_le _,rfl,rfl⟩
 case round =>
  obtain⟨k,hk,rfl,hall⟩:=hrel;have Hall:=Lib.hid hall;clear hall;by_cases hlt:k<n
  ·obtain⟨b,off,y,rfl,hc,hI,hy⟩:=hr.ati hlt
   by_cases hx:y=x
   ·have d1:(y==x)=true:=by simp [hx]
    have HX:=Lib.hid hx;clear hx;go_wp2;go_ret;exact⟨ret_bool (a:=true) (hasI_yes (HX.out▸hy.out)).symm,rfl⟩
   ·have d1:(y==x)=false:=by simp [hx]
    go_wp2;go_round
    case rel=>exact⟨k+1,by omega,by go_num,all_snoc' Hall.out hy.out (by simp [d1])⟩
    case measure=>simp [intOf];omega
  ·go_wp2
   go_ret;exact⟨ret_bool (a:=false) (hasI_no (take_all hr.len hlt▸Hall.out)).symm,rfl⟩
theorem l7Has_v {A:Option Addr}{n cap:Nat}{l:List Int}{x:Int}{v:Bool}{w:World}(hv:hasI l x=v) (hr:RS NB rInt w A n cap l) :
  Calls Tryz.prog 169 #[.slice A n cap,.int .i64 x] w fun e w'=>e=.returned (.bool v)/\w'=w:=hv▸l7Has_q A n cap l x w hr
theorem slicesIndex_q (A:Option Addr) (n cap:Nat) (l:List Int) (x:Int) (w:World) (hr:RS NB rInt w A n cap l) :
  Calls Tryz.prog 238 #[.slice A n cap,.int .i64 x] w fun e w'=>e=.returned (.int .i64 (idxOf (fun b=>b==x) l))/\w'=w:=by
 have hn:=hr.bound
 go_enter Tryz.func238,Tryz.ntmps238
 go_wp2
 go_loop [8] (fun i=>∃ k:Nat,k<=n/\i=.int .i64 k/\(l.take k).all (fun b=>!(b==x))=true) (fun i=>n - (intOf i).toNat)
 case atStart=>exact⟨0,Nat.zero_le _,rfl,rfl⟩
 case round =>
  obtain⟨k,hk,rfl,hall⟩:=hrel;have Hall:=Lib.hid hall;clear hall;by_cases hlt:k<n
  ·obtain⟨b,off,y,rfl,hc,hI,hy⟩:=hr.ati hlt
   by_cases hx:y=x
   ·have d1:(x==y)=true:=by simp [hx]
    have HX:=Lib.hid hx;clear hx;go_wp2;go_ret;exact⟨ret_int (idxOf_yes Hall.out hy.out (by simp [HX.out])).symm,rfl⟩
   ·have d1:(x==y)=false:=by simp;exact fun e=>hx e.symm
    go_wp2;go_round
    case rel=>exact⟨k+1,by omega,by go_num,all_snoc' Hall.out hy.out (by simp [hx])⟩
    case measure=>simp [intOf];omega
  ·go_wp2
   go_ret;exact⟨ret_int (a:=-1) (idxOf_no (take_all hr.len hlt▸Hall.out)).symm,rfl⟩
theorem idxOf_has (l:List Int) (x:Int):decide (0<=idxOf (fun b=>b==x) l)=hasI l x:=by
 unfold hasI;rw [decide_eq_decide];constructor
 ·intro h
  unfold idxOf at h;cases hf:l.findIdx? (fun b=>b==x) with
  | none=>rw [hf]at h;simp at h
  | some i =>
   rw [List.findIdx?_eq_some_iff_getElem]at hf;obtain⟨hi,hb,_⟩:=hf;have:l[i]=x:=by simpa using hb
   rw [<- this];exact List.getElem_mem hi
 ·intro h
  unfold idxOf;cases hf:l.findIdx? (fun b=>b==x) with
  | none=>rw [List.findIdx?_eq_none_iff]at hf;have:=hf x h;simp at this
  | some i=>simp
theorem slicesContains_q (A:Option Addr) (n cap:Nat) (l:List Int) (x:Int) (w:World) (hr:RS NB rInt w A n cap l) :
  Calls Tryz.prog 195 #[.slice A n cap,.int .i64 x] w fun e w'=>e=.returned (.bool (hasI l x))/\w'=w:=by
 go_enter Tryz.func195,Tryz.ntmps195
 go_wp2_with fail
 refine(slicesIndex_q _ _ _ _ _ _ hr).mono ?_;rintro e w1 ⟨rfl,hw⟩;generalize hk:idxOf (fun b=>b==x) l=k;have HK:=Lib.hid hk;clear hk;go_wp2;go_ret;exact⟨ret_bool (by rw [<- idxOf_has,HK.out]),rfl⟩
theorem slicesContains_v {A:Option Addr}{n cap:Nat}{l:List Int}{x:Int}{v:Bool}{w:World}(hv:hasI l x=v) (hr:RS NB rInt w A n cap l) :
  Calls Tryz.prog 195 #[.slice A n cap,.int .i64 x] w fun e w'=>e=.returned (.bool v)/\w'=w:=hv▸slicesContains_q A n cap l x w hr
end Go.Proofs.YtnlcfkpcmfljeaaGreat
