/-
  Str
-/
import Derived.Test.YtiafklphblkpbaaGreatStrP
import Derived.Test.YtiafklphblkpbaaGreatEqLib
namespace Go.Proofs.YtiafklphblkpbaaGreat
open Go.RowKit
set_option linter.unusedVariables false
set_option linter.unusedSimpArgs false

theorem rowOk_no {l:List Int}{m x:Int}{k:Nat}(hx:l[k]?=some x) (h:inR x 0 9=false):rowOk l m=false:=by
 unfold rowOk
 have:l.all (fun v=>inR v 0 9)=false:=by
  rw [Bool.eq_false_iff];intro h2;rw [List.all_eq_true]at h2
  have:=h2 x (mem_of_at hx);rw [h]at this;cases this
 simp [this]
theorem rowOk_end {l:List Int}{m:Int}{n:Nat}(h:l.all (fun v=>inR v 0 9)=true) (hn:l.length=n):rowOk l m=decide ((n:Int)=m):=by
 unfold rowOk;rw [h,hn];simp
set_option maxHeartbeats 800000 in
theorem sl4Row_q (A:Option Addr) (n cap:Nat) (l:List Int) (m:Int) (w:World) (hr:RS NB rInt w A n cap l) :
  Calls Tryz.prog 102 #[.slice A n cap,.int .i64 m] w fun e w'=>e=.returned (.bool (rowOk l m))/\w'=w:=by
 have hn:=hr.bound
 go_enter Tryz.func102,Tryz.ntmps102
 go_wp2
 go_loop [5] (fun i=>∃ k:Nat,k<=n/\i=.int .i64 k/\(l.take k).all (fun v=>inR v 0 9)=true) (fun i=>n - (intOf i).toNat)
 case atStart=>exact⟨0,Nat.zero_le _,rfl,rfl⟩
 case round =>
  obtain⟨k,hk,rfl,hall⟩:=hrel
  have Hall:=Lib.hid hall;clear hall
  by_cases hlt:k<n
  ·obtain⟨b,off,x,rfl,hc,hI,hx⟩:=hr.ati hlt
   cases g1:inR x 0 9
   ·have G1:=Lib.hid g1
    go_wp2_with (go_at_call 35;refine(l1In_c _ _ _ _).mono ?_;rintro e w' ⟨rfl,rfl⟩)
    go_ret
    exact⟨ret_bool (a:=false) (rowOk_no hx.out G1.out).symm,rfl⟩
   ·have G1:=Lib.hid g1
    go_wp2_with (go_at_call 35;refine(l1In_c _ _ _ _).mono ?_;rintro e w' ⟨rfl,rfl⟩)
    go_round
    case rel=>exact⟨k+1,by omega,by go_num,all_snoc' Hall.out hx.out G1.out⟩
    case measure=>simp [intOf];omega
  ·have HE:=Lib.hid (rowOk_end (m:=m) (take_all hr.len hlt▸Hall.out) hr.len)
   by_cases hm:(n:Int)=m
   ·have d1:((n:Int)==m)=true:=by simp [hm]
    have HM:=Lib.hid hm;clear hm
    go_wp2
    go_ret
    exact⟨ret_bool (a:=true) (by rw [HE.out,HM.out];simp),rfl⟩
   ·have d1:((n:Int)==m)=false:=by simp [hm]
    go_wp2
    go_ret
    exact⟨ret_bool (a:=false) (by rw [HE.out];simp [hm]),rfl⟩
theorem sl4Row_v {A:Option Addr}{n cap:Nat}{l:List Int}{m:Int}{v:Bool}{w:World}(h:rowOk l m=v) (hr:RS NB rInt w A n cap l) :
  Calls Tryz.prog 102 #[.slice A n cap,.int .i64 m] w fun e w'=>e=.returned (.bool v)/\w'=w:=h▸sl4Row_q A n cap l m w hr
set_option maxHeartbeats 800000 in
theorem irowOk_q (A:Option Addr) (n cap:Nat) (l:List Int) (m:Int) (w:World) (hr:RS NB rInt w A n cap l) :
  Calls Tryz.prog 99 #[.slice A n cap,.int .i64 m] w fun e w'=>e=.returned (.bool (rowOk l m))/\w'=w:=by
 have hn:=hr.bound
 go_enter Tryz.func99,Tryz.ntmps99
 go_wp2
 go_loop [9] (fun i=>∃ k:Nat,k<=n/\i=.int .i64 k/\(l.take k).all (fun v=>inR v 0 9)=true) (fun i=>n - (intOf i).toNat)
 case atStart=>exact⟨0,Nat.zero_le _,rfl,rfl⟩
 case round =>
  obtain⟨k,hk,rfl,hall⟩:=hrel
  have Hall:=Lib.hid hall;clear hall
  by_cases hlt:k<n
  ·obtain⟨b,off,x,rfl,hc,hI,hx⟩:=hr.ati hlt
   cases g1:inR x 0 9
   ·have G1:=Lib.hid g1
    go_wp2_with (go_at_call 36;refine(within_c _ _ _ _).mono ?_;rintro e w' ⟨rfl,rfl⟩)
    go_ret
    exact⟨ret_bool (a:=false) (rowOk_no hx.out G1.out).symm,rfl⟩
   ·have G1:=Lib.hid g1
    go_wp2_with (go_at_call 36;refine(within_c _ _ _ _).mono ?_;rintro e w' ⟨rfl,rfl⟩)
    go_round
    case rel=>exact⟨k+1,by omega,by go_num,all_snoc' Hall.out hx.out G1.out⟩
    case measure=>simp [intOf];omega
  ·have HE:=Lib.hid (rowOk_end (m:=m) (take_all hr.len hlt▸Hall.out) hr.len)
   by_cases hm:(n:Int)=m
   ·have d1:((n:Int)==m)=true:=by simp [hm]
    have HM:=Lib.hid hm;clear hm
    go_wp2
    go_ret
    exact⟨ret_bool (a:=true) (by rw [HE.out,HM.out];simp),rfl⟩
   ·have d1:((n:Int)==m)=false:=by simp [hm]
    go_wp2
    go_ret
    exact⟨ret_bool (a:=false) (by rw [HE.out];simp [hm]),rfl⟩
theorem irowOk_v {A:Option Addr}{n cap:Nat}{l:List Int}{m:Int}{v:Bool}{w:World}(h:rowOk l m=v) (hr:RS NB rInt w A n cap l) :
  Calls Tryz.prog 99 #[.slice A n cap,.int .i64 m] w fun e w'=>e=.returned (.bool v)/\w'=w:=h▸irowOk_q A n cap l m w hr
theorem colAt_no {l:List Int}{m x:Int}{k:Nat}(hx:l[k]?=some x) (h:inR x 0 (m - 1)=false):colAt l m k=false:=by
 simp [colAt,hx,h]
theorem colAt_z {l:List Int}{m x:Int}(hx:l[0]?=some x) (h:inR x 0 (m - 1)=true):colAt l m 0=true:=by
 simp [colAt,hx,h]
theorem colAt_s {l:List Int}{m x y:Int}{k:Nat}(hy:l[k]?=some y) (hx:l[k+1]?=some x) (h:inR x 0 (m - 1)=true):colAt l m (k+1)=decide (y<x):=by
 simp [colAt,hx,hy,h]
theorem colsOk_no {l:List Int}{m:Int}{k n:Nat}(hn:l.length=n) (hk:k<n) (h:colAt l m k=false):colsOk l m=false:=range_all_no (by omega) h
theorem colsOk_end {l:List Int}{m:Int}{k n:Nat}(hn:l.length=n) (hk:k<=n) (hlt:¬ k<n) (h:(List.range k).all (colAt l m)=true):colsOk l m=true:=by
 have:k=l.length:=by omega
 subst this;exact h
theorem range_all_yes {f:Nat->Bool}{k:Nat}(h:(List.range k).all f=true) (hk:f k=true):(List.range (k+1)).all f=true:=by rw [range_all_snoc,h,hk];rfl
set_option maxRecDepth 100000 in
set_option maxHeartbeats 1600000 in
theorem iColumnsOk_q (A:Option Addr) (n cap:Nat) (l:List Int) (m:Int) (w:World) (hr:RS NB rInt w A n cap l) (hm:I64 (m - 1)) :
  Calls Tryz.prog 130 #[.slice A n cap,.int .i64 m] w fun e w'=>e=.returned (.bool (colsOk l m))/\w'=w:=by
 have hn:=hr.bound
 have HL:=Lib.hid hr.len
 have hm0:=hm.lo
 have hm1:=hm.hi
 go_enter Tryz.func130,Tryz.ntmps130
 go_wp2
 go_loop [9] (fun i=>∃ k:Nat,k<=n/\i=.int .i64 k/\(List.range k).all (colAt l m)=true) (fun i=>n - (intOf i).toNat)
 case atStart=>exact⟨0,Nat.zero_le _,rfl,rfl⟩
 case round =>
  obtain⟨k,hk,rfl,hall⟩:=hrel
  have Hall:=Lib.hid hall;clear hall
  by_cases hlt:k<n
  ·obtain⟨b,off,x,rfl,hc,hI,hx⟩:=hr.ati hlt
   cases g1:inR x 0 (m - 1)
   ·have HN:=Lib.hid (colsOk_no HL.out hlt (colAt_no hx.out g1))
    go_wp2_with (go_at_call 36;refine(within_c _ _ _ _).mono ?_;rintro e w' ⟨rfl,rfl⟩)
    go_ret
    exact⟨ret_bool (a:=false) HN.out.symm,rfl⟩
   by_cases h0:0<k
   ·obtain⟨j,hj⟩:∃ j:Nat,k=j+1:=⟨k - 1,by omega⟩
    have hjn:j<n:=by omega
    obtain⟨b',off',y,e1,hc2,hI2,hy⟩:=hr.ati hjn
    injection e1 with e1;injection e1 with e1 e2;subst e1;subst e2
    have HC:=Lib.hid (colAt_s hy.out (hj▸hx.out) g1)
    have mj:IntKind.i64.wrap ((k:Int) - 1)=(j:Int):=by rw [IntWalk.i64_in _ (by omega)];omega
    have mj2:(k:Int) - 1=(j:Int):=by omega
    have HJ:=Lib.hid hj;clear hj
    by_cases hlt2:y<x
    ·have d2:decide (x<=y)=false:=decide_eq_false (by omega)
     go_wp2_with (go_at_call 36;refine(within_c _ _ _ _).mono ?_;rintro e w' ⟨rfl,rfl⟩)
     go_round
     case rel=>exact⟨k+1,by omega,by go_num,range_all_yes Hall.out (by rw [HJ.out,HC.out];simp [hlt2])⟩
     case measure=>simp [intOf];omega
    ·have d2:decide (x<=y)=true:=decide_eq_true (by omega)
     go_wp2_with (go_at_call 36;refine(within_c _ _ _ _).mono ?_;rintro e w' ⟨rfl,rfl⟩)
     go_ret
     exact⟨ret_bool (a:=false) (colsOk_no HL.out hlt (by rw [HJ.out,HC.out];simp [hlt2])).symm,rfl⟩
   ·have HZ:Hid (colAt l m k=true):=by
     show colAt l m k=true
     have:k=0:=by omega
     rw [this];exact colAt_z (this▸hx.out) g1
    go_wp2_with (go_at_call 36;refine(within_c _ _ _ _).mono ?_;rintro e w' ⟨rfl,rfl⟩)
    go_round
    case rel=>exact⟨k+1,by omega,by go_num,range_all_yes Hall.out HZ.out⟩
    case measure=>simp [intOf];omega
  ·go_wp2
   go_ret
   exact⟨ret_bool (a:=true) (colsOk_end HL.out hk hlt Hall.out).symm,rfl⟩
theorem iVarsOk_q (A:Option Addr) (n cap:Nat) (l:List Int) (w:World) (hr:RS NB rInt w A n cap l) :
  Calls Tryz.prog 100 #[.slice A n cap] w fun e w'=>e=.returned (.bool (colsOk l 4))/\w'=w:=by
 go_enter Tryz.func100,Tryz.ntmps100
 go_wp2_with (go_at_call 130;refine(iColumnsOk_q _ _ _ _ 4 _ hr (by unfold I64;omega)).mono ?_;rintro e w' ⟨rfl,rfl⟩)
 go_ret
 exact⟨rfl,rfl⟩
theorem validStream_eq {x:StreamD}:validStream x=(colsOk x.fVars 4&&(x.fRows.all (fun r=>rowOk r x.fVars.length)&&decide (x.fRows.length<=4096))):=rfl
set_option maxRecDepth 100000 in
set_option maxHeartbeats 1600000 in
theorem iIsValidStream_c (csx:List Value) (x:StreamD) (w:World) (hx:(rStream NB).rep w csx x) :
  Calls Tryz.prog 57 #[.agg csx.toArray] w fun e w'=>e=.returned (.bool (validStream x))/\Below w.heap.size w w':=by
 have rx:=hx
 obtain⟨AxVars,nxVars,cxVars,AxRows,nxRows,cxRows,rfl,hxVars,hxRows⟩:=rStream_rep.1 hx
 clear hx
 have hB:Below w.heap.size w w:=Below.refl _ _
 have hAx:=(Below.refl (World.heap (w)).size (w)).alloc (Nat.le_refl _) (.cells #[.slice AxVars nxVars cxVars,.slice AxRows nxRows cxRows] 51)
 replace hB:=hB.trans (hAx.mono hB.size)
 have bxx:=Bx.new (w) [.slice AxVars nxVars cxVars,.slice AxRows nxRows cxRows] 51
 clear hAx
 have hnv:=hxVars.bound
 have hnr:=hxRows.bound
 have HV:=Lib.hid hxVars.len
 have HR:=Lib.hid hxRows.len
 have RV:=(hxVars.below rInt_ok hB)
 have RR:=(hxRows.below (rSlice_ok NB _ rInt_ok) hB)
 have kx_0:=bxx 0 _ rfl
 have kx_1:=bxx 1 _ rfl
 go_enter Tryz.func57,Tryz.ntmps57
 go_wp2
 go_loop [8] (fun i=>∃ k:Nat,k<=nxRows/\i=.int .i64 k/\(x.fRows.take k).all (fun r=>rowOk r x.fVars.length)=true) (fun i=>nxRows - (intOf i).toNat)
 case atStart=>exact⟨0,Nat.zero_le _,rfl,rfl⟩
 case round =>
  obtain⟨k,hk,rfl,hall⟩:=hrel
  have Hall:=Lib.hid hall;clear hall
  by_cases hlt:k<nxRows
  ·obtain⟨b,off,r,Ar,nr,cr,rfl,hc,hrr,hr⟩:=RR.row hlt
   cases g1:rowOk r nxVars
   ·have G1:=Lib.hid g1
    go_wp2_with (go_at_call 99;refine(irowOk_q _ _ _ _ _ _ hrr).mono ?_;rintro e w' ⟨rfl,rfl⟩)
    go_ret
    refine⟨ret_bool (a:=false) ?_,hB⟩
    rw [validStream_eq]
    have:x.fRows.all (fun r=>rowOk r x.fVars.length)=false:=by
     rw [Bool.eq_false_iff];intro h2;rw [List.all_eq_true]at h2
     have:=h2 r (mem_of_at hr.out);rw [HV.out,G1.out]at this;cases this
    simp [this]
   ·have G1:=Lib.hid g1
    go_wp2_with (go_at_call 99;refine(irowOk_q _ _ _ _ _ _ hrr).mono ?_;rintro e w' ⟨rfl,rfl⟩)
    go_round
    case rel=>exact⟨k+1,by omega,by go_num,all_snoc' Hall.out hr.out (by rw [HV.out];exact G1.out)⟩
    case measure=>simp [intOf];omega
  ·have HE:Hid (validStream x=(colsOk x.fVars 4&&decide (nxRows<=4096))):=by
    show _=_
    rw [validStream_eq,show x.fRows.all (fun r=>rowOk r x.fVars.length)=true from take_all HR.out hlt▸Hall.out,HR.out];simp
   cases g2:colsOk x.fVars 4
   ·have G2:=Lib.hid g2
    go_wp2_with (go_at_call 100;refine(iVarsOk_q _ _ _ _ _ RV).mono ?_;rintro e w' ⟨rfl,rfl⟩)
    go_ret
    exact⟨ret_bool (a:=false) (by rw [HE.out,G2.out];rfl),hB⟩
   ·have G2:=Lib.hid g2
    go_wp2_with (go_at_call 100;refine(iVarsOk_q _ _ _ _ _ RV).mono ?_;rintro e w' ⟨rfl,rfl⟩)
    go_ret
    exact⟨ret_bool (a:=decide ((nxRows:Int)<=4096)) (by rw [HE.out,G2.out,Bool.true_and,decide_eq_decide];omega),hB⟩
set_option maxRecDepth 100000 in
set_option maxHeartbeats 1600000 in
theorem sIsValidStream_c (csx:List Value) (x:StreamD) (w:World) (hx:(rStream NB).rep w csx x) :
  Calls Tryz.prog 65 #[.agg csx.toArray] w fun e w'=>e=.returned (.bool (validStream x))/\Below w.heap.size w w':=by
 have rx:=hx
 obtain⟨AxVars,nxVars,cxVars,AxRows,nxRows,cxRows,rfl,hxVars,hxRows⟩:=rStream_rep.1 hx
 clear hx
 have hB:Below w.heap.size w w:=Below.refl _ _
 have hAx:=(Below.refl (World.heap (w)).size (w)).alloc (Nat.le_refl _) (.cells #[.slice AxVars nxVars cxVars,.slice AxRows nxRows cxRows] 51)
 replace hB:=hB.trans (hAx.mono hB.size)
 have bxx:=Bx.new (w) [.slice AxVars nxVars cxVars,.slice AxRows nxRows cxRows] 51
 clear hAx
 have hnv:=hxVars.bound
 have hnr:=hxRows.bound
 have HV:=Lib.hid hxVars.len
 have HR:=Lib.hid hxRows.len
 obtain⟨w0,hw0⟩:∃ w0,w0=w.alloc (.cells #[.slice AxVars nxVars cxVars,.slice AxRows nxRows cxRows] 51):=⟨_,rfl⟩
 rw [<- hw0]at hB bxx
 have HW:=Lib.hid hw0;clear hw0
 go_enter Tryz.func65,Tryz.ntmps65
 go_wp2
 go_loopw [3] (fun i wr=>∃ k:Nat,k<=nxVars/\i=.int .i64 k/\(List.range k).all (colAt x.fVars 4)=true/\Below w0.heap.size w0 wr) (fun i _=>nxVars - (intOf i).toNat)
 case atStart=>exact⟨0,Nat.zero_le _,rfl,rfl,by rw [HW.out];exact Below.refl _ _⟩
 case round =>
  obtain⟨k,hk,rfl,hall,hE⟩:=hrel
  have Hall:=Lib.hid hall;clear hall
  have hB2:=hB.trans (hE.mono hB.size)
  have kx_0:=bxx.below hE 0 _ rfl
  have kx_1:=bxx.below hE 1 _ rfl
  by_cases hlt:k<nxVars
  ·obtain⟨b,off,y,rfl,hc,hI,hy⟩:=(hxVars.below rInt_ok hB2).ati hlt
   cases g1:inR y 0 3
   ·have HN:Hid (validStream x=false):=by
     show _=_
     rw [validStream_eq,colsOk_no HV.out hlt (colAt_no (m:=4) hy.out g1)];rfl
    have K1:=Lib.hid (fun W=>l1In_v g1 W);clear g1
    go_wp2
    go_quiet ((go_at_call_of 35 (Value.int IntKind.i64 y);exact Calls.quiet_of_same (K1.out _)))
    go_wp2
    go_ret
    exact⟨ret_bool (a:=false) HN.out.symm,below_drewN hB2 _⟩
   by_cases h0:0<k
   ·obtain⟨j,hj⟩:∃ j:Nat,k=j+1:=⟨k - 1,by omega⟩
    have hjn:j<nxVars:=by omega
    obtain⟨b',off',z,e1,hc2,hI2,hz⟩:=(hxVars.below rInt_ok hB2).ati hjn
    injection e1 with e1;injection e1 with e1 e2;subst e1;subst e2
    have HC:=Lib.hid (colAt_s (m:=4) hz.out (hj▸hy.out) g1)
    have K1:=Lib.hid (fun W=>l1In_v g1 W);clear g1
    have mj:IntKind.i64.wrap ((k:Int) - 1)=(j:Int):=by rw [IntWalk.i64_in _ (by omega)];omega
    have HJ:=Lib.hid hj;clear hj
    by_cases hlt2:z<y
    ·have d2:decide (y<=z)=false:=decide_eq_false (by omega)
     go_wp2
     go_quiet ((go_at_call_of 35 (Value.int IntKind.i64 y);exact Calls.quiet_of_same (K1.out _)))
     go_wp2
     go_roundw
     case rel=>exact⟨k+1,by omega,by go_num,range_all_yes Hall.out (by rw [HJ.out,HC.out];simp [hlt2]),below_drewN hE _⟩
     case measure=>simp [intOf];omega
    ·have d2:decide (y<=z)=true:=decide_eq_true (by omega)
     have HN:Hid (validStream x=false):=by
      show _=_
      rw [validStream_eq,colsOk_no HV.out hlt (by rw [HJ.out,HC.out];simp [hlt2])];rfl
     go_wp2
     go_quiet ((go_at_call_of 35 (Value.int IntKind.i64 y);exact Calls.quiet_of_same (K1.out _)))
     go_wp2
     go_ret
     exact⟨ret_bool (a:=false) HN.out.symm,below_drewN hB2 _⟩
   ·have HZ:Hid (colAt x.fVars 4 k=true):=by
     show colAt x.fVars 4 k=true
     have:k=0:=by omega
     rw [this];exact colAt_z (this▸hy.out) g1
    have K1:=Lib.hid (fun W=>l1In_v g1 W);clear g1
    go_wp2
    go_quiet ((go_at_call_of 35 (Value.int IntKind.i64 y);exact Calls.quiet_of_same (K1.out _)))
    go_wp2
    go_roundw
    case rel=>exact⟨k+1,by omega,by go_num,range_all_yes Hall.out HZ.out,below_drewN hE _⟩
    case measure=>simp [intOf];omega
  ·have HC:Hid (colsOk x.fVars 4=true):=by show colsOk x.fVars 4=true;exact colsOk_end HV.out hk hlt Hall.out
   clear Hall
   go_wp2
   go_loopw [4] (fun i wr2=>∃ k2:Nat,k2<=nxRows/\i=.int .i64 k2/\(x.fRows.take k2).all (fun r=>rowOk r x.fVars.length)=true/\Below wr.heap.size wr wr2) (fun i _=>nxRows - (intOf i).toNat)
   case atStart=>exact⟨0,Nat.zero_le _,rfl,rfl,Below.refl _ _⟩
   case round =>
    clear kx_0 kx_1
    obtain⟨k2,hk2,rfl,hall,hE2⟩:=hrel
    have Hall:=Lib.hid hall;clear hall
    have hE3:=hE.trans (hE2.mono hE.size)
    have hB3:=hB.trans (hE3.mono hB.size)
    have kx_0:=bxx.below hE3 0 _ rfl
    have kx_1:=bxx.below hE3 1 _ rfl
    by_cases hlt2:k2<nxRows
    ·obtain⟨b,off,r,Ar,nr,cr,rfl,hc,hrr,hr⟩:=(hxRows.below (rSlice_ok NB _ rInt_ok) hB3).row hlt2
     cases g1:rowOk r nxVars
     ·have HN:Hid (validStream x=false):=by
       show _=_
       have:x.fRows.all (fun r=>rowOk r x.fVars.length)=false:=by
        rw [Bool.eq_false_iff];intro h2;rw [List.all_eq_true]at h2
        have:=h2 r (mem_of_at hr.out);rw [HV.out,g1]at this;cases this
       rw [validStream_eq,this];simp
      have G1:=Lib.hid g1;clear g1
      go_wp2
      go_quiet ((go_at_call 102;exact Calls.quiet_of_same (sl4Row_v G1.out (hrr.drewN rInt_ok _))))
      go_wp2
      go_ret
      exact⟨ret_bool (a:=false) HN.out.symm,below_drewN hB3 _⟩
     ·have G1:=Lib.hid g1;clear g1
      go_wp2
      go_quiet ((go_at_call 102;exact Calls.quiet_of_same (sl4Row_v G1.out (hrr.drewN rInt_ok _))))
      go_wp2
      go_roundw
      case rel=>exact⟨k2+1,by omega,by go_num,all_snoc' Hall.out hr.out (by rw [HV.out];exact G1.out),below_drewN hE2 _⟩
      case measure=>simp [intOf];omega
    ·have HE:Hid (validStream x=decide (nxRows<=4096)):=by
      show _=_
      rw [validStream_eq,HC.out,show x.fRows.all (fun r=>rowOk r x.fVars.length)=true from take_all HR.out hlt2▸Hall.out,HR.out];simp
     go_wp2
     go_ret
     exact⟨ret_bool (a:=decide ((nxRows:Int)<=4096)) (by rw [HE.out,decide_eq_decide];omega),hB3⟩
end Go.Proofs.YtiafklphblkpbaaGreat
