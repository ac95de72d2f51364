/-
  JnS
-/
import Derived.Test.YtpodldagcnfhlaaGreatStr
import Derived.Test.YtpodldagcnfhlaaGreatKeep
import Derived.Deep.RegionHeld3
namespace Go.Proofs.YtpodldagcnfhlaaGreat
open Go.RowKit
set_option linter.unusedVariables false
set_option linter.unusedSimpArgs false

theorem idxOf_or {l:List Int}{v:Int}:(idxOf (fun b=>b==v) l=-1/\l.findIdx? (fun b=>b==v)=none)\/∃ k:Nat,idxOf (fun b=>b==v) l=k/\l.findIdx? (fun b=>b==v)=some k/\k<l.length:=by
 unfold idxOf
 cases h:l.findIdx? (fun b=>b==v) with
 | none=>exact .inl ⟨rfl,rfl⟩
 | some k =>
  obtain⟨h1,_⟩:=List.findIdx?_eq_some_iff_getElem.1 h
  exact .inr ⟨k,rfl,rfl,h1⟩
theorem lk_none {b y:List Int}{v:Int}(h:b.findIdx? (fun c=>c==v)=none):lk b y v=none:=by unfold lk;rw [h]
theorem lk_some {b y:List Int}{v q:Int}{k:Nat}(h:b.findIdx? (fun c=>c==v)=some k) (hq:y[k]?=some q):lk b y v=some q:=by unfold lk;rw [h];exact hq
theorem find_self {a:List Int}{m v:Int}{i:Nat}(ha:colsOk a m=true) (h:a[i]?=some v):a.findIdx? (fun c=>c==v)=some i:=by
 rw [List.findIdx?_eq_some_iff_getElem]
 obtain⟨hi,rfl⟩:=List.getElem?_eq_some_iff.1 h
 refine⟨hi,by simp,fun j hj=>?_⟩
 have:=asc_le (fun k p c hp hc=>colsOk_asc ha hp hc) hj (List.getElem?_eq_getElem (by omega)) h
 simp;omega
theorem mem_find {b:List Int}{v:Int}(h:v∈b):∃ k,b.findIdx? (fun c=>c==v)=some k/\k<b.length:=by
 cases hh:b.findIdx? (fun c=>c==v) with
 | none=>rw [List.findIdx?_eq_none_iff]at hh;have:=hh v h;simp at this
 | some k=>exact⟨k,rfl,(List.findIdx?_eq_some_iff_getElem.1 hh).1⟩
theorem idxOf_find {b:List Int}{v:Int}{k:Nat}(h:b.findIdx? (fun c=>c==v)=some k):idxOf (fun c=>c==v) b=k:=by unfold idxOf;rw [h]
theorem idxOf_none {b:List Int}{v:Int}(h:b.findIdx? (fun c=>c==v)=none):idxOf (fun c=>c==v) b=-1:=by unfold idxOf;rw [h]
set_option maxHeartbeats 400000 in
theorem sl27Find_q (A:Option Addr) (n cap:Nat) (l:List Int) (x:Int) (w:World) (hr:RS NB rInt w A n cap l) :
  Calls Tryz.prog 74 #[.slice A n cap,.int .i64 x] w fun e w'=>e=.returned (.int .i64 (idxOf (fun b=>b==x) l))/\w'=w:=by
 have hn:=hr.bound
 go_enter Tryz.func74,Tryz.ntmps74
 go_wp2
 go_loop [5] (fun i=>∃ k:Nat,k<=n/\i=.int .i64 k/\(l.take k).all (fun b=>!(b==x))=true) (fun i=>n - (intOf i).toNat)
 case atStart=>exact⟨0,Nat.zero_le _,rfl,rfl⟩
 case round =>
  obtain⟨k,hk,rfl,hall⟩:=hrel
  have Hall:=Lib.hid hall;clear hall
  by_cases hlt:k<n
  ·obtain⟨b,off,y,rfl,hc,hI,hy⟩:=hr.ati hlt
   by_cases hx:y=x
   ·have d1:(y==x)=true:=by simp [hx]
    have HX:=Lib.hid hx;clear hx
    go_wp2
    go_ret
    exact⟨ret_int (idxOf_yes Hall.out hy.out (by simp [HX.out])).symm,rfl⟩
   ·have d1:(y==x)=false:=by simp [hx]
    go_wp2
    go_round
    case rel=>exact⟨k+1,by omega,by go_num,all_snoc' Hall.out hy.out (by simp [d1])⟩
    case measure=>simp [intOf];omega
  ·go_wp2
   go_ret
   exact⟨ret_int (a:=-1) (idxOf_no (take_all hr.len hlt▸Hall.out)).symm,rfl⟩
theorem sl27Find_v {A:Option Addr}{n cap:Nat}{l:List Int}{x v:Int}{w:World}(hv:idxOf (fun b=>b==x) l=v) (hr:RS NB rInt w A n cap l) :
  Calls Tryz.prog 74 #[.slice A n cap,.int .i64 x] w fun e w'=>e=.returned (.int .i64 v)/\w'=w:=hv▸sl27Find_q A n cap l x w hr
def unionTo (a b:List Int) (k:Nat):List Int:=((List.range k).map Int.ofNat).filter fun v=>hasI a v||hasI b v
theorem unionTo_yes {a b:List Int}{k:Nat}(h:(hasI a k||hasI b k)=true):unionTo a b (k+1)=unionTo a b k++[(k:Int)]:=by
 unfold unionTo;rw [List.range_succ,List.map_append,List.filter_append]
 simpa using h
theorem unionTo_no {a b:List Int}{k:Nat}(h:(hasI a k||hasI b k)=false):unionTo a b (k+1)=unionTo a b k:=by
 unfold unionTo;rw [List.range_succ,List.map_append,List.filter_append]
 simpa using h
set_option maxRecDepth 100000 in
set_option maxHeartbeats 1600000 in
theorem sl27Union_c (A A':Option Addr) (n n' cap cap':Nat) (a b:List Int) (w:World) (hr:RS NB rInt w A n cap a) (hr':RS NB rInt w A' n' cap' b) :
  Calls Tryz.prog 206 #[.slice A n cap,.slice A' n' cap'] w (RetS 3 rInt (unionI a b) w):=by
 have hM:=MS.empty (B:=w.heap.size) (M:=NB) (e:=3) (r:=rInt) w (Nat.le_refl _)
 have hB:=(Below.refl w.heap.size w).alloc (Nat.le_refl _) (.cells #[] 3)
 go_enter Tryz.func206,Tryz.ntmps206
 go_wp2
 go_loopw [5,6] (fun v i wr=>∃ (k m c:Nat) (B:Option Addr),k<=4/\m<=k/\i=.int .i64 k/\v=.slice B m c/\MS w.heap.size NB 3 rInt wr B m c (unionTo a b k)/\Below w.heap.size w wr) (fun _ i _=>4 - (intOf i).toNat)
 case atStart=>exact⟨0,0,0,_,by omega,by omega,rfl,rfl,hM,hB⟩
 case round =>
  clear hM hB
  obtain⟨k,m,c,B,hk,hmk,rfl,rfl,hM,hE⟩:=hrel
  have R1:=hr.below rInt_ok hE
  have R2:=hr'.below rInt_ok hE
  by_cases hlt:(k:Int)<4
  ·cases g1:hasI a k
   ·cases g2:hasI b k
    ·have HN:=Lib.hid (unionTo_no (a:=a) (b:=b) (k:=k) (by rw [g1,g2];rfl))
     have G1:=Lib.hid g1;have G2:=Lib.hid g2;clear g1 g2
     go_wp2_with (go_at_call 197;first|((with_reducible refine(l7Has_v G1.out R1).mono ?_);rintro e w' ⟨rfl,rfl⟩)|((with_reducible refine(l7Has_v G2.out R2).mono ?_);rintro e w' ⟨rfl,rfl⟩))
     go_roundw
     case rel=>exact⟨k+1,m,c,_,by omega,by omega,by go_num,rfl,by rw [HN.out];exact hM,hE⟩
     case measure=>simp [intOf];omega
    ·have HN:=Lib.hid (unionTo_yes (a:=a) (b:=b) (k:=k) (by rw [g1,g2];rfl))
     have G1:=Lib.hid g1;have G2:=Lib.hid g2;clear g1 g2
     go_wp2_with (first|(go_at_call 197;first|((with_reducible refine(l7Has_v G1.out R1).mono ?_);rintro e w' ⟨rfl,rfl⟩)|((with_reducible refine(l7Has_v G2.out R2).mono ?_);rintro e w' ⟨rfl,rfl⟩))|(at_builtin;refine wpList_app (r:=rInt) rfl _ _ 32 rfl _ 8 eiInt rInt_ok rfl hM ((Below.refl _ _).alloc (Nat.le_refl _) _) hE.size ⟨w'.heap.size,0,none⟩ rfl [] [.int .i64 k] k ⟨rfl,rfl,⟨by omega,by omega⟩⟩ (Fr.nil _) (cell_one_new _ _ _) (by unfold NB;omega) (Nat.le_refl _) (by omega) ?_;intro A2 k2 w2 hM2 hb2 hg2))
     go_roundw
     case rel=>exact⟨k+1,m+1,k2,_,by omega,by omega,by go_num,rfl,by rw [HN.out];exact hM2,(hE.alloc hE.size _).trans hb2⟩
     case measure=>simp [intOf];omega
   ·have HN:=Lib.hid (unionTo_yes (a:=a) (b:=b) (k:=k) (by rw [g1];rfl))
    have G1:=Lib.hid g1;clear g1
    go_wp2_with (first|(go_at_call 197;refine(l7Has_v G1.out R1).mono ?_;rintro e w' ⟨rfl,rfl⟩)|(at_builtin;refine wpList_app (r:=rInt) rfl _ _ 32 rfl _ 8 eiInt rInt_ok rfl hM ((Below.refl _ _).alloc (Nat.le_refl _) _) hE.size ⟨w'.heap.size,0,none⟩ rfl [] [.int .i64 k] k ⟨rfl,rfl,⟨by omega,by omega⟩⟩ (Fr.nil _) (cell_one_new _ _ _) (by unfold NB;omega) (Nat.le_refl _) (by omega) ?_;intro A2 k2 w2 hM2 hb2 hg2))
    go_roundw
    case rel=>exact⟨k+1,m+1,k2,_,by omega,by omega,by go_num,rfl,by rw [HN.out];exact hM2,(hE.alloc hE.size _).trans hb2⟩
    case measure=>simp [intOf];omega
  ·have hk4:k=4:=by omega
   have HU:Hid (unionTo a b k=unionI a b):=by show _=_;rw [hk4];rfl
   clear hk4
   go_wp2
   go_ret
   exact⟨_,_,_,rfl,by rw [<- HU.out];exact hM,hE⟩
set_option maxRecDepth 100000 in
set_option maxHeartbeats 1600000 in
theorem sl27Agree_c (Aa Ax Ab Ay:Option Addr) (na nx nb ny ca cx cb cy:Nat) (a x b y:List Int) (w:World) (ha:RS NB rInt w Aa na ca a) (hx:RS NB rInt w Ax nx cx x) (hb:RS NB rInt w Ab nb cb b) (hy:RS NB rInt w Ay ny cy y)
  (hc:colsOk a 4=true) (hla:nx=na) (hlb:ny=nb) :
  Calls Tryz.prog 240 #[.slice Aa na ca,.slice Ax nx cx,.slice Ab nb cb,.slice Ay ny cy] w fun e w'=>e=.returned (.bool (agree a x b y))/\Qt w w':=by
 subst hla;subst hlb
 have hn:=ha.bound
 have hn2:=hb.bound
 have HL:=Lib.hid ha.len
 have HLb:=Lib.hid hb.len
 have HC:=Lib.hid hc;clear hc
 go_enter Tryz.func240,Tryz.ntmps240
 go_wp2
 go_loopw [9] (fun i wr=>∃ k:Nat,k<=nx/\i=.int .i64 k/\(a.take k).all (agreeAt a x b y)=true/\∃ q,wr=w.drewN q) (fun i _=>nx - (intOf i).toNat)
 case atStart=>exact⟨0,Nat.zero_le _,rfl,rfl,0,rfl⟩
 case round =>
  obtain⟨k,hk,rfl,hall,q,rfl⟩:=hrel
  have Hall:=Lib.hid hall;clear hall
  by_cases hlt:k<nx
  ·obtain⟨b1,o1,v,rfl,hc1,hI1,hv⟩:=ha.ati hlt
   obtain⟨b2,o2,p,rfl,hc2,hI2,hp⟩:=hx.ati hlt
   have HK:=Lib.hid (lk_some (find_self HC.out hv.out) hp.out)
   rcases idxOf_or (l:=b) (v:=v) with ⟨f1,f2⟩|⟨j,f1,f2,f3⟩
   ·have HA:Hid (agreeAt a x b y v=true):=by show _=_;simp [agreeAt,HK.out,lk_none f2]
    have F1:=Lib.hid f1;clear f1 f2
    go_wp2_with (go_at_call 74;refine(sl27Find_v F1.out (hb.drewN rInt_ok q)).mono ?_;rintro e w' ⟨rfl,rfl⟩)
    go_quiet (fail)
    go_wp2
    go_roundw
    case rel=>exact⟨k+1,by omega,by go_num,all_snoc' Hall.out hv.out HA.out,(by first|exact⟨_,rfl⟩|(simp only [World.drewN_drewN];exact⟨_,rfl⟩))⟩
    case measure=>simp [intOf];omega
   ·have hj:j<ny:=by rw [<- HLb.out];exact f3
    obtain⟨b3,o3,z,rfl,hc3,hI3,hz⟩:=hy.ati hj
    have HA:Hid (agreeAt a x b y v=decide (p=z)):=by show _=_;simp [agreeAt,HK.out,lk_some f2 hz.out]
    have F1:=Lib.hid f1;clear f1 f2 f3
    by_cases hpz:p=z
    ·have d1:(p != z)=false:=by simp [hpz]
     have HP:=Lib.hid hpz;clear hpz
     go_wp2_with (go_at_call 74;refine(sl27Find_v F1.out (hb.drewN rInt_ok q)).mono ?_;rintro e w' ⟨rfl,rfl⟩)
     go_quiet (fail)
     go_wp2
     go_roundw
     case rel=>exact⟨k+1,by omega,by go_num,all_snoc' Hall.out hv.out (by rw [HA.out];simp [HP.out]),(by first|exact⟨_,rfl⟩|(simp only [World.drewN_drewN];exact⟨_,rfl⟩))⟩
     case measure=>simp [intOf];omega
    ·have d1:(p != z)=true:=by simp [hpz]
     go_wp2_with (go_at_call 74;refine(sl27Find_v F1.out (hb.drewN rInt_ok q)).mono ?_;rintro e w' ⟨rfl,rfl⟩)
     go_quiet (fail)
     go_wp2
     go_ret
     refine⟨ret_bool (a:=false) ?_,(by first|exact⟨_,rfl⟩|(simp only [World.drewN_drewN];exact⟨_,rfl⟩))⟩
     symm
     unfold agree
     rw [Bool.eq_false_iff];intro h2;rw [List.all_eq_true]at h2
     have:=h2 v (mem_of_at hv.out);rw [HA.out]at this;simp [hpz]at this
  ·go_wp2
   go_ret
   exact⟨ret_bool (a:=true) (by have h2:=Hall.out;rw [take_all HL.out hlt]at h2;exact h2.symm),_,rfl⟩
theorem joinRow_snoc {vars a x b y:List Int}{k:Nat}{v:Int}(h:vars[k]?=some v):joinRow (vars.take (k+1)) a x b y=joinRow (vars.take k) a x b y++[joinVal a x b y v]:=by
 unfold joinRow;rw [take_snoc h,List.map_append];rfl
set_option maxRecDepth 100000 in
set_option maxHeartbeats 1600000 in
theorem sl27Merge_c (Av Aa Ax Ab Ay:Option Addr) (nv na nx nb ny cv ca cx cb cy:Nat) (vars a x b y:List Int) (w:World) (hvs:RS NB rInt w Av nv cv vars) (ha:RS NB rInt w Aa na ca a) (hx:RS NB rInt w Ax nx cx x) (hb:RS NB rInt w Ab nb cb b) (hy:RS NB rInt w Ay ny cy y)
  (hm:∀ v∈vars,v∈a\/v∈b) (hla:nx=na) (hlb:ny=nb) :
  Calls Tryz.prog 241 #[.slice Av nv cv,.slice Aa na ca,.slice Ax nx cx,.slice Ab nb cb,.slice Ay ny cy] w (RetS 3 rInt (joinRow vars a x b y) w):=by
 subst hla;subst hlb
 have hn:=hvs.bound
 have hn1:=ha.bound
 have hn2:=hb.bound
 have HL:=Lib.hid ha.len
 have HLb:=Lib.hid hb.len
 have HM:=Lib.hid hm;clear hm
 have hM0:=MS.empty (B:=w.heap.size) (M:=NB) (e:=3) (r:=rInt) w (Nat.le_refl _)
 have hB0:=(Below.refl w.heap.size w).alloc (Nat.le_refl _) (.cells #[] 3)
 go_enter Tryz.func241,Tryz.ntmps241
 go_wp2
 go_loopw [11,12] (fun v i wr=>∃ (k c:Nat) (B:Option Addr),k<=nv/\i=.int .i64 k/\v=.slice B k c/\MS w.heap.size NB 3 rInt wr B k c (joinRow (vars.take k) a x b y)/\Below w.heap.size w wr) (fun _ i _=>nv - (intOf i).toNat)
 case atStart=>exact⟨0,0,_,by omega,rfl,rfl,hM0,hB0⟩
 case round =>
  clear hM0 hB0
  obtain⟨k,c,B,hk,rfl,rfl,hM,hE⟩:=hrel
  by_cases hlt:k<nv
  ·have R1:=ha.below rInt_ok hE
   have R3:=hb.below rInt_ok hE
   obtain⟨b1,o1,v,rfl,hc1,hI1,hv⟩:=(hvs.below rInt_ok hE).ati hlt
   have HS:=Lib.hid (joinRow_snoc (a:=a) (x:=x) (b:=b) (y:=y) hv.out)
   rcases idxOf_or (l:=a) (v:=v) with ⟨f1,f2⟩|⟨j,f1,f2,f3⟩
   ·have hvb:v∈b:=by
     rcases HM.out v (mem_of_at hv.out) with h|h
     ·obtain⟨j,h1,_⟩:=mem_find h;rw [f2]at h1;cases h1
     ·exact h
    obtain⟨j,g1,g2⟩:=mem_find hvb
    have hj:j<ny:=by rw [<- HLb.out];exact g2
    obtain⟨b3,o3,z,rfl,hc3,hI3,hz⟩:=(hy.below rInt_ok hE).ati hj
    have HV:Hid (joinVal a x b y v=z):=by show _=_;simp [joinVal,lk_none f2,lk_some g1 hz.out]
    have F1:=Lib.hid f1
    have F2:=Lib.hid (idxOf_find g1)
    clear f1 f2 g1 g2 hvb
    go_wp2_with (first|(go_at_call 74;first|((with_reducible refine(sl27Find_v F1.out R1).mono ?_);rintro e w' ⟨rfl,rfl⟩)|((with_reducible refine(sl27Find_v F2.out R3).mono ?_);rintro e w' ⟨rfl,rfl⟩))|(at_builtin;refine wpList_app (r:=rInt) rfl _ _ 32 rfl _ 8 eiInt rInt_ok rfl hM ((Below.refl _ _).alloc (Nat.le_refl _) _) hE.size ⟨w'.heap.size,0,none⟩ rfl [] [.int .i64 z] z ⟨rfl,rfl,hI3⟩ (Fr.nil _) (cell_one_new _ _ _) (by unfold NB;omega) (Nat.le_refl _) (by omega) ?_;intro A2 k2 w2 hM2 hb2 hg2))
    go_roundw
    case rel=>exact⟨k+1,k2,_,by omega,by go_num,rfl,by rw [HS.out,HV.out];exact hM2,(hE.alloc hE.size _).trans hb2⟩
    case measure=>simp [intOf];omega
   ·have hj:j<nx:=by rw [<- HL.out];exact f3
    obtain⟨b3,o3,z,rfl,hc3,hI3,hz⟩:=(hx.below rInt_ok hE).ati hj
    have HV:Hid (joinVal a x b y v=z):=by show _=_;simp [joinVal,lk_some f2 hz.out]
    have F1:=Lib.hid f1
    clear f1 f2 f3
    go_wp2_with (first|(go_at_call 74;(refine(sl27Find_v F1.out R1).mono ?_);rintro e w' ⟨rfl,rfl⟩)|(at_builtin;refine wpList_app (r:=rInt) rfl _ _ 32 rfl _ 8 eiInt rInt_ok rfl hM ((Below.refl _ _).alloc (Nat.le_refl _) _) hE.size ⟨w'.heap.size,0,none⟩ rfl [] [.int .i64 z] z ⟨rfl,rfl,hI3⟩ (Fr.nil _) (cell_one_new _ _ _) (by unfold NB;omega) (Nat.le_refl _) (by omega) ?_;intro A2 k2 w2 hM2 hb2 hg2))
    go_roundw
    case rel=>exact⟨k+1,k2,_,by omega,by go_num,rfl,by rw [HS.out,HV.out];exact hM2,(hE.alloc hE.size _).trans hb2⟩
    case measure=>simp [intOf];omega
  ·go_wp2
   go_ret
   have hke:k=nv:=by omega
   exact⟨_,_,_,rfl,by rw [<- take_all hvs.len hlt];exact hM,hE⟩
end Go.Proofs.YtpodldagcnfhlaaGreat
