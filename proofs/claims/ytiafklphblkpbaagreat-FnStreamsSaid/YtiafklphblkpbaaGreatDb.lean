/-
  Tab, Db
-/
import Derived.Test.YtiafklphblkpbaaGreatKeep
import Derived.Test.YtiafklphblkpbaaGreatEqLib
import Derived.Test.YtiafklphblkpbaaGreatStr
import Derived.Test.YtiafklphblkpbaaGreatQi
namespace Go.Proofs.YtiafklphblkpbaaGreat
open Go.RowKit
set_option linter.unusedVariables false
set_option linter.unusedSimpArgs false
theorem Qt.tr {a b c:World}(h1:Qt a b) (h2:Qt b c):Qt a c:=by
 obtain⟨m,rfl⟩:=h1
 obtain⟨k,rfl⟩:=h2
 exact⟨_,World.drewN_drewN _ _ _⟩
def cmpI (x y:Int):Int:=if x<y then -1 else if y<x then 1 else 0
theorem isNaN_c (x:Int) (w:World):Calls Tryz.prog 156 #[.int .i64 x] w fun e w'=>e=.returned (.bool false)/\w'=w:=by
 have h:(x != x)=false:=by simp
 go_enter Tryz.func156,Tryz.ntmps156
 go_wp2
 go_ret
 exact⟨rfl,rfl⟩
theorem cmpCompare_c (x y:Int) (w:World):Calls Tryz.prog 187 #[.int .i64 x,.int .i64 y] w fun e w'=>e=.returned (.int .i64 (cmpI x y))/\w'=w:=by
 unfold cmpI
 by_cases h1:x<y<;>by_cases h2:y<x
 all_goals try (exfalso;omega)
 all_goals
  go_enter Tryz.func187,Tryz.ntmps187
  go_wp2_with (go_at_call 156;refine(isNaN_c _ _).mono ?_;rintro e w' ⟨rfl,hww⟩;replace hww:=hww.symm;subst hww)
  go_ret
  simp [h1,h2]
theorem cmpRows_long {l l':List Int}{k:Nat}(h:l.take k=l'.take k) (hk:l'.length=k) (hlt:k<l.length):cmpRows l l'=1:=by
 rw [cmpRows_drop k h (by omega) (by omega),List.drop_of_length_le (l:=l') (by omega)]
 obtain⟨x,hx⟩:∃ x,l[k]?=some x:=⟨_,List.getElem?_eq_getElem hlt⟩
 rw [drop_at hx];rfl
set_option maxRecDepth 100000 in
set_option maxHeartbeats 800000 in
theorem slicesCompare_c (A A':Option Addr) (n n' cap cap':Nat) (l l':List Int) (w:World) (hr:RS NB rInt w A n cap l) (hr':RS NB rInt w A' n' cap' l') :
  Calls Tryz.prog 182 #[.slice A n cap,.slice A' n' cap'] w fun e w'=>e=.returned (.int .i64 (cmpRows l l'))/\w'=w:=by
 have hn:=hr.bound
 have hn':=hr'.bound
 have HL:=Lib.hid hr.len
 have HL':=Lib.hid hr'.len
 go_enter Tryz.func182,Tryz.ntmps182
 go_wp2
 go_loop [11] (fun i=>∃ k:Nat,k<=n/\k<=n'/\i=.int .i64 k/\l.take k=l'.take k) (fun i=>n - (intOf i).toNat)
 case atStart=>exact⟨0,Nat.zero_le _,Nat.zero_le _,rfl,rfl⟩
 case round =>
  obtain⟨k,hk,hk',rfl,heq⟩:=hrel
  have HE:=Lib.hid heq;clear heq
  by_cases hlt:k<n
  ·obtain⟨b,off,x,rfl,hc,hI,hx⟩:=hr.ati hlt
   by_cases hlt':k<n'
   ·obtain⟨b',off',y,rfl,hc',hI',hy⟩:=hr'.ati hlt'
    have hge:¬ (n':Int)<=(k:Int):=by omega
    rcases Int.lt_trichotomy x y with h1|h1|h1
    ·have C1:Hid (cmpI x y=-1):=by show _=_;unfold cmpI;rw [if_pos h1]
     have HC:=Lib.hid (cmpRows_lt HE.out hx.out hy.out h1)
     clear h1
     go_wp2_with (go_at_call 187;refine(cmpCompare_c _ _ _).mono ?_;rintro e w' ⟨he,hww⟩;rw [C1.out]at he;subst he;subst hww)
     go_ret
     exact⟨ret_int HC.out.symm,rfl⟩
    ·subst h1
     have C1:Hid (cmpI x x=0):=by show _=_;unfold cmpI;simp
     go_wp2_with (go_at_call 187;refine(cmpCompare_c _ _ _).mono ?_;rintro e w' ⟨he,hww⟩;rw [C1.out]at he;subst he;subst hww)
     go_round
     case rel=>exact⟨k+1,by omega,by omega,by go_num,take_eq_snoc HE.out hx.out hy.out⟩
     case measure=>simp [intOf];omega
    ·have C1:Hid (cmpI x y=1):=by show _=_;unfold cmpI;rw [if_neg (by omega),if_pos h1]
     have HC:=Lib.hid (cmpRows_gt HE.out hx.out hy.out h1)
     clear h1
     go_wp2_with (go_at_call 187;refine(cmpCompare_c _ _ _).mono ?_;rintro e w' ⟨he,hww⟩;rw [C1.out]at he;subst he;subst hww)
     go_ret
     exact⟨ret_int HC.out.symm,rfl⟩
   ·have hge:(n':Int)<=(k:Int):=by omega
    have HC:=Lib.hid (cmpRows_long (l:=l) (l':=l') (k:=k) HE.out (by have:=HL'.out;omega) (by have:=HL.out;omega))
    go_wp2
    go_ret
    exact⟨ret_int HC.out.symm,rfl⟩
  ·have hkn:k=n:=by omega
   have HC:=Lib.hid (cmpRows_end (l:=l) (l':=l') (k:=k) HE.out (by have:=HL.out;omega) (by have:=HL'.out;omega) (by have:=HL.out;omega))
   clear hkn
   by_cases h1:n<n'
   ·have HC2:Hid (cmpRows l l'=-1):=by show _=_;rw [HC.out,HL.out,HL'.out,if_pos h1]
    go_wp2
    go_ret
    exact⟨ret_int HC2.out.symm,rfl⟩
   ·have HC2:Hid (cmpRows l l'=0):=by show _=_;rw [HC.out,HL.out,HL'.out,if_neg h1,if_neg (by omega)]
    go_wp2
    go_ret
    exact⟨ret_int HC2.out.symm,rfl⟩
theorem iCompareRows_q (A A':Option Addr) (n n' cap cap':Nat) (l l':List Int) (w:World) (hr:RS NB rInt w A n cap l) (hr':RS NB rInt w A' n' cap' l') :
  Calls Tryz.prog 171 #[.slice A n cap,.slice A' n' cap'] w fun e w'=>e=.returned (.int .i64 (cmpRows l l'))/\w'=w:=by
 go_enter Tryz.func171,Tryz.ntmps171
 go_wp2_with (go_at_call 182;refine(slicesCompare_c _ _ _ _ _ _ _ _ _ hr hr').mono ?_;rintro e w' ⟨rfl,hww⟩;replace hww:=hww.symm;subst hww)
 go_ret
 exact⟨rfl,rfl⟩
/-- row i is above the one ahead of it -/
def ascAt (l:List (List Int)) (i:Nat):Bool:=match i with|0=>true|j+1=>match l[j]?,l[j+1]? with|some a,some b=>decide (cmpRows a b<0)|_,_=>true
def ascRows (l:List (List Int)):Bool:=(List.range l.length).all (ascAt l)
theorem ascAt_s {l:List (List Int)}{j:Nat}{a b:List Int}(ha:l[j]?=some a) (hb:l[j+1]?=some b):ascAt l (j+1)=decide (cmpRows a b<0):=by simp only [ascAt,ha,hb]
set_option maxRecDepth 100000 in
set_option maxHeartbeats 1600000 in
theorem iAscRows_c (A:Option Addr) (n cap:Nat) (l:List (List Int)) (w:World) (hr:RS NB (rSlice NB 3 rInt) w A n cap l) :
  Calls Tryz.prog 150 #[.slice A n cap] w fun e w'=>e=.returned (.bool (ascRows l))/\Qt w w':=by
 have hn:=hr.bound
 have HL:=Lib.hid hr.len
 go_enter Tryz.func150,Tryz.ntmps150
 go_wp2
 go_loopw [3] (fun i wr=>∃ k:Nat,1<=k/\(k<=n\/k=1)/\i=.int .i64 k/\(List.range k).all (ascAt l)=true/\Qt w wr) (fun i _=>n - (intOf i).toNat)
 case atStart=>exact⟨1,Nat.le_refl _,.inr rfl,rfl,rfl,Qt.refl _⟩
 case round =>
  obtain⟨k,hk0,hk,rfl,hall,hq⟩:=hrel
  have hr2:=hr.below (rSlice_ok NB _ rInt_ok) hq.belowS
  have Hall:=Lib.hid hall;clear hall
  by_cases hlt:k<n
  ·obtain⟨j,hj⟩:∃ j,k=j+1:=⟨k - 1,by omega⟩
   obtain⟨b,off,x,A1,n1,c1,rfl,hc,hx,hxx⟩:=hr2.row (k:=j) (by omega)
   obtain⟨b2,off2,y,A2,n2,c2,e2,hc2,hy,hyy⟩:=hr2.row hlt
   injection e2 with e2;injection e2 with e2 e3;subst e2;subst e3
   have HA:=Lib.hid (ascAt_s hxx.out (hj▸hyy.out))
   have mj:IntKind.i64.wrap ((k:Int) - 1)=(j:Int):=by rw [IntWalk.i64_in _ (by omega)];omega
   have hjn:j<n:=by omega
   have HJ:=Lib.hid hj;clear hj
   by_cases hlt2:cmpRows x y<0
   ·have hd:decide ((0:Int)<=cmpRows x y)=false:=decide_eq_false (by omega)
    have HB:Hid (ascAt l k=true):=by show _=_;rw [HJ.out,HA.out];exact decide_eq_true hlt2
    have hd2:¬ (0:Int)<=cmpRows x y:=by omega
    go_wp2
    go_quiet ((go_at_call 171;exact Calls.quiet_of_same (iCompareRows_q _ _ _ _ _ _ x y _ (hx.drewN rInt_ok _) (hy.drewN rInt_ok _))))
    go_wp2
    go_roundw
    case rel=>exact⟨k+1,by omega,.inl (by omega),by go_num,range_all_yes Hall.out HB.out,Qt.tr hq ⟨_,rfl⟩⟩
    case measure=>simp [intOf];omega
   ·have hd:decide ((0:Int)<=cmpRows x y)=true:=decide_eq_true (by omega)
    have HB:Hid (ascAt l k=false):=by show _=_;rw [HJ.out,HA.out];exact decide_eq_false hlt2
    have hd2:(0:Int)<=cmpRows x y:=by omega
    have HR:Hid (ascRows l=false):=by show _=_;exact range_all_no (by have:=HL.out;omega) HB.out
    go_wp2
    go_quiet ((go_at_call 171;exact Calls.quiet_of_same (iCompareRows_q _ _ _ _ _ _ x y _ (hx.drewN rInt_ok _) (hy.drewN rInt_ok _))))
    go_wp2
    go_ret
    exact⟨ret_bool (a:=false) HR.out.symm,Qt.tr hq ⟨_,rfl⟩⟩
  ·have HR:Hid (ascRows l=true):=by
    show _=_;unfold ascRows
    have:=HL.out
    rcases hk with hk|hk
    ·have:k=l.length:=by omega
     rw [<- this];exact Hall.out
    ·rw [List.all_eq_true];intro i hi
     have:=List.mem_range.1 hi
     obtain rfl:i=0:=by omega
     rfl
   go_wp2
   go_ret
   exact⟨ret_bool (a:=true) HR.out.symm,hq⟩
def validTable (t:TableD):Bool:=nameOk t.fName&&(inR t.fArity 1 3&&(decide (t.fRows.length<=8)&&(t.fRows.all (fun r=>rowOk r t.fArity)&&ascRows t.fRows)))
theorem validTable_rows {t:TableD}{k:Nat}{x:List Int}(hx:t.fRows[k]?=some x) (h:rowOk x t.fArity=false):validTable t=false:=by
 have:(t.fRows.all (fun r=>rowOk r t.fArity))=false:=by
  rw [Bool.eq_false_iff];intro h2;rw [List.all_eq_true]at h2;rw [h2 x (mem_of_at hx)]at h;cases h
 simp [validTable,this]
theorem validTable_asc {t:TableD}{k:Nat}(hk:k<t.fRows.length) (h:ascAt t.fRows k=false):validTable t=false:=by
 have:ascRows t.fRows=false:=range_all_no hk h
 simp [validTable,this]
set_option maxRecDepth 100000 in
set_option maxHeartbeats 1600000 in
theorem iIsValidTable_c (cst:List Value) (t:TableD) (w:World) (ht:(rTable NB).rep w cst t) :
  Calls Tryz.prog 116 #[.agg cst.toArray] w fun e w'=>e=.returned (.bool (validTable t))/\Below w.heap.size w w':=by
 have rt:=ht
 obtain⟨AtRows,ntRows,ctRows,rfl,htName,htArity,htRows⟩:=rTable_rep.1 ht
 clear ht
 have hB:Below w.heap.size w w:=Below.refl _ _
 have hAt:=(Below.refl (World.heap (w)).size (w)).alloc (Nat.le_refl _) (.cells #[.string t.fName,.int .i64 t.fArity,.slice AtRows ntRows ctRows] 82)
 replace hB:=hB.trans (hAt.mono hB.size)
 have bxt:=Bx.new (w) [.string t.fName,.int .i64 t.fArity,.slice AtRows ntRows ctRows] 82
 clear hAt
 have hn:=htRows.bound
 have HL:=Lib.hid htRows.len
 have kt_0:=bxt 0 _ rfl
 have kt_1:=bxt 1 _ rfl
 have kt_2:=bxt 2 _ rfl
 go_enter Tryz.func116,Tryz.ntmps116
 have HR:=Lib.hid (htRows.below (rSlice_ok NB _ rInt_ok) hB)
 go_wp2
 go_loop [8] (fun i=>∃ k:Nat,k<=ntRows/\i=.int .i64 k/\(t.fRows.take k).all (fun r=>rowOk r t.fArity)=true) (fun i=>ntRows - (intOf i).toNat)
 case atStart=>exact⟨0,Nat.zero_le _,rfl,rfl⟩
 case round =>
  obtain⟨k,hk,rfl,hall⟩:=hrel
  have Hall:=Lib.hid hall;clear hall
  by_cases hlt:k<ntRows
  ·obtain⟨b,off,x,A1,n1,c1,rfl,hc,hx,hxx⟩:=HR.out.row hlt
   cases g:rowOk x t.fArity
   ·have G:=Lib.hid g
    have HV:Hid (validTable t=false):=by show _=_;exact validTable_rows hxx.out g
    clear g
    go_wp2_with (go_at_call 99;refine(irowOk_v G.out hx).mono ?_;rintro e w' ⟨rfl,hww⟩;replace hww:=hww.symm;subst hww)
    go_ret
    exact⟨ret_bool (a:=false) HV.out.symm,hB⟩
   ·have G:=Lib.hid g
    clear g
    go_wp2_with (go_at_call 99;refine(irowOk_v G.out hx).mono ?_;rintro e w' ⟨rfl,hww⟩;replace hww:=hww.symm;subst hww)
    go_round
    case rel=>exact⟨k+1,by omega,by go_num,all_snoc' Hall.out hxx.out G.out⟩
    case measure=>simp [intOf];omega
  ·have HA:Hid (t.fRows.all (fun r=>rowOk r t.fArity)=true):=by show _=_;rw [<- take_all HL.out hlt];exact Hall.out
   clear Hall
   cases c1:nameOk t.fName
   ·have C1:=Lib.hid c1
    have HV:Hid (validTable t=false):=by show _=_;simp [validTable,c1]
    clear c1
    go_wp2_with (go_at_call 114;refine(iname_v C1.out _).mono ?_;rintro e w' ⟨rfl,hww⟩;replace hww:=hww.symm;subst hww)
    go_ret
    exact⟨ret_bool (a:=false) HV.out.symm,hB⟩
   have C1:=Lib.hid c1;clear c1
   cases c2:inR t.fArity 1 3
   ·have C2:=Lib.hid c2
    have HV:Hid (validTable t=false):=by show _=_;simp [validTable,c2]
    clear c2
    go_wp2_with (first|(go_at_call 114;refine(iname_v C1.out _).mono ?_;rintro e w' ⟨rfl,hww⟩;replace hww:=hww.symm;subst hww)|(go_at_call 36;refine(within_v C2.out _).mono ?_;rintro e w' ⟨rfl,hww⟩;replace hww:=hww.symm;subst hww))
    go_ret
    exact⟨ret_bool (a:=false) HV.out.symm,hB⟩
   have C2:=Lib.hid c2;clear c2
   by_cases c3:(ntRows:Int)<=8
   ·have HV:Hid (validTable t=ascRows t.fRows):=by show _=_;simp [validTable,C1.out,C2.out,HA.out,HL.out];intro _;omega
    have hd3:decide (ntRows<=8)=true:=by simp;omega
    go_wp2_with (first|(go_at_call 114;refine(iname_v C1.out _).mono ?_;rintro e w' ⟨rfl,hww⟩;replace hww:=hww.symm;subst hww)|(go_at_call 36;refine(within_v C2.out _).mono ?_;rintro e w' ⟨rfl,hww⟩;replace hww:=hww.symm;subst hww)|(go_at_call 150;refine(iAscRows_c _ _ _ _ _ HR.out).mono ?_;rintro e w9 ⟨rfl,hq⟩))
    go_ret
    exact⟨ret_bool HV.out.symm,hB.trans (hq.below _)⟩
   ·have HV:Hid (validTable t=false):=by show _=_;simp [validTable,HL.out];intro _ _ h;omega
    have hd3:decide (ntRows<=8)=false:=by simp;omega
    go_wp2_with (first|(go_at_call 114;refine(iname_v C1.out _).mono ?_;rintro e w' ⟨rfl,hww⟩;replace hww:=hww.symm;subst hww)|(go_at_call 36;refine(within_v C2.out _).mono ?_;rintro e w' ⟨rfl,hww⟩;replace hww:=hww.symm;subst hww))
    go_ret
    exact⟨ret_bool (a:=false) HV.out.symm,hB⟩
set_option maxRecDepth 100000 in
set_option maxHeartbeats 1600000 in
theorem sIsValidTable_c (cst:List Value) (t:TableD) (w:World) (ht:(rTable NB).rep w cst t) :
  Calls Tryz.prog 129 #[.agg cst.toArray] w fun e w'=>e=.returned (.bool (validTable t))/\Below w.heap.size w w':=by
 have rt:=ht
 obtain⟨AtRows,ntRows,ctRows,rfl,htName,htArity,htRows⟩:=rTable_rep.1 ht
 clear ht
 have hB:Below w.heap.size w w:=Below.refl _ _
 have hAt:=(Below.refl (World.heap (w)).size (w)).alloc (Nat.le_refl _) (.cells #[.string t.fName,.int .i64 t.fArity,.slice AtRows ntRows ctRows] 82)
 replace hB:=hB.trans (hAt.mono hB.size)
 have bxt:=Bx.new (w) [.string t.fName,.int .i64 t.fArity,.slice AtRows ntRows ctRows] 82
 clear hAt
 have hn:=htRows.bound
 have HL:=Lib.hid htRows.len
 obtain⟨wa,hwa⟩:∃ W,W=w.alloc (.cells #[.string t.fName,.int .i64 t.fArity,.slice AtRows ntRows ctRows] 82):=⟨_,rfl⟩
 rw [<- hwa]at hB bxt
 have HR:=Lib.hid (htRows.below (rSlice_ok NB _ rInt_ok) hB)
 go_enter Tryz.func129,Tryz.ntmps129
 go_upto_region 1 with fail
 rw [<- hwa]
 clear hwa
 have kt_0:=bxt 0 _ rfl
 have kt_1:=bxt 1 _ rfl
 have kt_2:=bxt 2 _ rfl
 cases c1:nameOk t.fName
 ·have C1:=Lib.hid c1
  have HV:Hid (validTable t=false):=by show _=_;simp [validTable,c1]
  clear c1
  go_wp2_with (go_at_call 128;refine(sname_v C1.out _).mono ?_;rintro e w' ⟨rfl,hww⟩;replace hww:=hww.symm;subst hww)
  go_ret
  exact⟨ret_bool (a:=false) HV.out.symm,hB⟩
 have C1:=Lib.hid c1;clear c1
 cases c2:inR t.fArity 1 3
 ·have C2:=Lib.hid c2
  have HV:Hid (validTable t=false):=by show _=_;simp [validTable,c2]
  clear c2
  go_wp2_with (first|(go_at_call 128;refine(sname_v C1.out _).mono ?_;rintro e w' ⟨rfl,hww⟩;replace hww:=hww.symm;subst hww)|(go_at_call 35;refine(l1In_v C2.out _).mono ?_;rintro e w' ⟨rfl,hww⟩;replace hww:=hww.symm;subst hww))
  go_ret
  exact⟨ret_bool (a:=false) HV.out.symm,hB⟩
 have C2:=Lib.hid c2;clear c2
 by_cases c3:(8:Int)<ntRows
 ·have HV:Hid (validTable t=false):=by show _=_;simp [validTable,HL.out];intro _ _ h;omega
  have hd3:decide (8<ntRows)=true:=by simp;omega
  go_wp2_with (first|(go_at_call 128;refine(sname_v C1.out _).mono ?_;rintro e w' ⟨rfl,hww⟩;replace hww:=hww.symm;subst hww)|(go_at_call 35;refine(l1In_v C2.out _).mono ?_;rintro e w' ⟨rfl,hww⟩;replace hww:=hww.symm;subst hww))
  go_ret
  exact⟨ret_bool (a:=false) HV.out.symm,hB⟩
 have hd3:decide (8<ntRows)=false:=by simp;omega
 have hn8:ntRows<=8:=by omega
 go_wp2_with (first|(go_at_call 128;refine(sname_v C1.out _).mono ?_;rintro e w' ⟨rfl,hww⟩;replace hww:=hww.symm;subst hww)|(go_at_call 35;refine(l1In_v C2.out _).mono ?_;rintro e w' ⟨rfl,hww⟩;replace hww:=hww.symm;subst hww))
 clear hd3 c3
 go_loopw [3] (fun i wr=>∃ k:Nat,k<=ntRows/\i=.int .i64 k/\(t.fRows.take k).all (fun r=>rowOk r t.fArity)=true/\(List.range k).all (ascAt t.fRows)=true/\Qt wa wr) (fun i _=>ntRows - (intOf i).toNat)
 case atStart=>exact⟨0,Nat.zero_le _,rfl,rfl,rfl,Qt.refl _⟩
 case round =>
  clear kt_0 kt_1 kt_2
  obtain⟨k,hk,rfl,hall,hasc,hq⟩:=hrel
  have Hall:=Lib.hid hall;clear hall
  have Hasc:=Lib.hid hasc;clear hasc
  have HR2:=HR.out.below (rSlice_ok NB _ rInt_ok) hq.belowS
  have bx2:=bxt.below hq.belowS
  have kt_1:=bx2 1 _ rfl
  have kt_2:=bx2 2 _ rfl
  by_cases hlt:k<ntRows
  ·obtain⟨b,off,x,A1,n1,c1,rfl,hc,hx,hxx⟩:=HR2.row hlt
   cases g:rowOk x t.fArity
   ·have G:=Lib.hid g
    have HV:Hid (validTable t=false):=by show _=_;exact validTable_rows hxx.out g
    clear g
    go_wp2
    go_quiet ((go_at_call 102;exact Calls.quiet_of_same (sl4Row_v G.out (hx.drewN rInt_ok _))))
    go_wp2
    go_ret
    exact⟨ret_bool (a:=false) HV.out.symm,hB.trans ((Qt.tr hq ⟨_,rfl⟩).below _)⟩
   have G:=Lib.hid g
   clear g
   by_cases hk0:0<k
   ·obtain⟨j,hj⟩:∃ j,k=j+1:=⟨k - 1,by omega⟩
    obtain⟨b2,off2,y,A2,n2,c2,e2,hc2,hy,hyy⟩:=HR2.row (k:=j) (by omega)
    injection e2 with e2;injection e2 with e2 e3;subst e2;subst e3
    have HA:=Lib.hid (ascAt_s hyy.out (hj▸hxx.out))
    have mj:IntKind.i64.wrap ((k:Int) - 1)=(j:Int):=by rw [IntWalk.i64_in _ (by omega)];omega
    have hjn:j<ntRows:=by omega
    have HJ:=Lib.hid hj;clear hj
    by_cases hlt2:cmpRows y x<0
    ·have hd:decide ((0:Int)<=cmpRows y x)=false:=decide_eq_false (by omega)
     have HB:Hid (ascAt t.fRows k=true):=by show _=_;rw [HJ.out,HA.out];exact decide_eq_true hlt2
     have hd2:¬ (0:Int)<=cmpRows y x:=by omega
     go_wp2
     go_quiet ((first|(go_at_call 102;exact Calls.quiet_of_same (sl4Row_v G.out (hx.drewN rInt_ok _)))|(go_at_call 66;exact Calls.quiet_of (sCompareRows_c _ _ _ _ _ _ y x _ (hy.drewN rInt_ok _) (hx.drewN rInt_ok _)))))
     go_wp2
     go_roundw
     case rel=>exact⟨k+1,by omega,by go_num,all_snoc' Hall.out hxx.out G.out,range_all_yes Hasc.out HB.out,Qt.tr hq ⟨_,rfl⟩⟩
     case measure=>simp [intOf];omega
    ·have hd:decide ((0:Int)<=cmpRows y x)=true:=decide_eq_true (by omega)
     have HB:Hid (ascAt t.fRows k=false):=by show _=_;rw [HJ.out,HA.out];exact decide_eq_false hlt2
     have hd2:(0:Int)<=cmpRows y x:=by omega
     have HV:Hid (validTable t=false):=by show _=_;exact validTable_asc (by have:=HL.out;omega) HB.out
     go_wp2
     go_quiet ((first|(go_at_call 102;exact Calls.quiet_of_same (sl4Row_v G.out (hx.drewN rInt_ok _)))|(go_at_call 66;exact Calls.quiet_of (sCompareRows_c _ _ _ _ _ _ y x _ (hy.drewN rInt_ok _) (hx.drewN rInt_ok _)))))
     go_wp2
     go_ret
     exact⟨ret_bool (a:=false) HV.out.symm,hB.trans ((Qt.tr hq ⟨_,rfl⟩).below _)⟩
   ·have hk0':k=0:=by omega
    have HB:Hid (ascAt t.fRows k=true):=by show _=_;rw [hk0'];rfl
    clear hk0'
    have hd0:decide (0<k)=false:=by simp;omega
    go_wp2
    go_quiet ((go_at_call 102;exact Calls.quiet_of_same (sl4Row_v G.out (hx.drewN rInt_ok _))))
    go_wp2
    go_roundw
    case rel=>exact⟨k+1,by omega,by go_num,all_snoc' Hall.out hxx.out G.out,range_all_yes Hasc.out HB.out,Qt.tr hq ⟨_,rfl⟩⟩
    case measure=>simp [intOf];omega
  ·have HV:Hid (validTable t=true):=by
    show _=_
    have h1:=Hall.out
    rw [take_all HL.out hlt]at h1
    have h2:=Hasc.out
    have hkl:k=t.fRows.length:=by have:=HL.out;omega
    rw [hkl]at h2
    have h3:ascRows t.fRows=true:=h2
    simp [validTable,C1.out,C2.out,h1,h3,HL.out,hn8]
   go_wp2
   go_ret
   exact⟨ret_bool (a:=true) HV.out.symm,hB.trans (hq.below _)⟩
end Go.Proofs.YtiafklphblkpbaaGreat
namespace Go.Proofs.YtiafklphblkpbaaGreat
open Go.RowKit
set_option linter.unusedVariables false
set_option linter.unusedSimpArgs false
theorem RS.eTable {M M':Nat}{w:World}{A:Option Addr}{n cap:Nat}{l:List TableD}(h:RS M (rTable M') w A n cap l) {k:Nat}(hk:k<n) :
  ∃ b off x AR nR cR,A=some ⟨b,off,none⟩/\w.cell? ⟨b,off+k*3,none⟩=some (.string x.fName)/\w.cell? ⟨b,off+k*3+1,none⟩=some (.int .i64 x.fArity)/\w.cell? ⟨b,off+k*3+2,none⟩=some (.slice AR nR cR)/\(rTable M').rep w [.string x.fName,.int .i64 x.fArity,.slice AR nR cR] x/\Hid (l[k]?=some x):=by
 obtain⟨b,off,x,cs,e,hrep,hc,hx⟩:=h.at_ hk
 have hrep2:=hrep
 obtain⟨AR,nR,cR,rfl,_⟩:=rTable_rep.1 hrep
 exact⟨b,off,x,AR,nR,cR,e,hc 0 _ rfl,hc 1 _ rfl,hc 2 _ rfl,hrep2,hx⟩
/-- table i is above the one ahead of it -/
def dbAt (l:List TableD) (i:Nat):Bool:=match i with|0=>true|j+1=>match l[j]?,l[j+1]? with|some a,some b=>Op.bytesLess a.fName.toList b.fName.toList|_,_=>true
theorem dbAt_s {l:List TableD}{j:Nat}{a b:TableD}(ha:l[j]?=some a) (hb:l[j+1]?=some b):dbAt l (j+1)=Op.bytesLess a.fName.toList b.fName.toList:=by simp only [dbAt,ha,hb]
def validDb (d:DatabaseD):Bool:=d.fTables.all validTable&&((List.range d.fTables.length).all (dbAt d.fTables)&&decide (d.fTables.length<=6))
theorem validDb_t {d:DatabaseD}{k:Nat}{x:TableD}(hx:d.fTables[k]?=some x) (h:validTable x=false):validDb d=false:=by
 have:d.fTables.all validTable=false:=by
  rw [Bool.eq_false_iff];intro h2;rw [List.all_eq_true]at h2;rw [h2 x (mem_of_at hx)]at h;cases h
 simp [validDb,this]
theorem validDb_a {d:DatabaseD}{k:Nat}(hk:k<d.fTables.length) (h:dbAt d.fTables k=false):validDb d=false:=by
 simp [validDb,range_all_no hk h]
set_option maxRecDepth 100000 in
set_option maxHeartbeats 1600000 in
theorem sIsValidDatabase_c (csd:List Value) (d:DatabaseD) (w:World) (hd:(rDatabase NB).rep w csd d) :
  Calls Tryz.prog 92 #[.agg csd.toArray] w fun e w'=>e=.returned (.bool (validDb d))/\Below w.heap.size w w':=by
 have rd:=hd
 obtain⟨AdTables,ndTables,cdTables,rfl,hdTables⟩:=rDatabase_rep.1 hd
 clear hd
 have hB:Below w.heap.size w w:=Below.refl _ _
 have hAd:=(Below.refl (World.heap (w)).size (w)).alloc (Nat.le_refl _) (.cells #[.slice AdTables ndTables cdTables] 43)
 replace hB:=hB.trans (hAd.mono hB.size)
 have bxd:=Bx.new (w) [.slice AdTables ndTables cdTables] 43
 clear hAd
 have hn:=hdTables.bound
 have HL:=Lib.hid hdTables.len
 obtain⟨wa,hwa⟩:∃ W,W=w.alloc (.cells #[.slice AdTables ndTables cdTables] 43):=⟨_,rfl⟩
 rw [<- hwa]at hB bxd
 go_enter Tryz.func92,Tryz.ntmps92
 go_upto_region 1 with fail
 rw [<- hwa]
 clear hwa
 have kd_0:=bxd 0 _ rfl
 go_wp2
 go_loopw [3] (fun i wr=>∃ k:Nat,k<=ndTables/\i=.int .i64 k/\(d.fTables.take k).all validTable=true/\(List.range k).all (dbAt d.fTables)=true/\Below wa.heap.size wa wr) (fun i _=>ndTables - (intOf i).toNat)
 case atStart=>exact⟨0,Nat.zero_le _,rfl,rfl,rfl,Below.refl _ _⟩
 case round =>
  clear kd_0
  obtain⟨k,hk,rfl,hall,hasc,hE⟩:=hrel
  have Hall:=Lib.hid hall;clear hall
  have Hasc:=Lib.hid hasc;clear hasc
  have hB2:=hB.trans (hE.mono hB.size)
  have HR:=(hdTables.below (rTable_ok NB) hB2)
  have kd_0:=(bxd.below hE) 0 _ rfl
  by_cases hlt:k<ndTables
  ·obtain⟨b,off,x,AR,nR,cR,rfl,hc0,hc1,hc2,hx,hxx⟩:=HR.eTable hlt
   have hE2:=hE
   cases g:validTable x
   ·have G:=Lib.hid g
    have HV:Hid (validDb d=false):=by show _=_;exact validDb_t hxx.out g
    clear g
    have HSS:Hid (∀ w',Below wr.heap.size wr w'->(w'.cell? ⟨w.heap.size,0,none⟩=some (.slice (some ⟨b,off,none⟩) ndTables cdTables)/\w'.cell? ⟨b,off+k*3,none⟩=some (.string x.fName)/\w'.cell? ⟨b,off+k*3+1,none⟩=some (.int .i64 x.fArity)/\w'.cell? ⟨b,off+k*3+2,none⟩=some (.slice AR nR cR))):=by
     show ∀ w',_->_
     intro w' hb
     exact⟨(bxd.below (hE.trans (hb.mono hE.size))) 0 _ rfl,cells_below hb _ _ hc0,cells_below hb _ _ hc1,cells_below hb _ _ hc2⟩
    go_wp2
    refine hbg HSS.out (Below.refl _ _).drew (fun hHeld=>?_)
    refine tka 0 11 hHeld ?_;simp only [putS]
    refine tka 1 12 hHeld ?_;simp only [putS]
    refine tka 2 13 hHeld ?_;simp only [putS]
    refine tka 3 14 hHeld ?_;simp only [putS]
    refine tka 4 15 hHeld ?_;simp only [putS]
    refine YtiafklphblkpbaaGreat.rd 5 (some 16) fun K hK=>?_
    clear hHeld
    go_simp
    have C:=sIsValidTable_c _ x _ ((rTable_ok NB).keep hx (cells_below (Below.refl wr.heap.size wr).drew))
    rw [G.out]at C
    refine C.mono ?_
    clear C
    rintro e w2 ⟨rfl,hb2⟩
    have hC:Below wr.heap.size wr w2:=(Below.refl wr.heap.size wr).drew.trans (hb2.mono (by simp))
    go_wp2_with fail
    refine hK.out _ _ (HSS.out _ hC) (fun hHeld=>?_)
    clear hK K
    try simp only [putS]
    refine tka 6 17 hHeld ?_;simp only [putS]
    refine tka 7 18 hHeld ?_;simp only [putS]
    refine tks 8 19 hHeld ?_;simp only [putS]
    refine tks 9 20 hHeld ?_;simp only [putS]
    refine tks 10 21 hHeld ?_;simp only [putS]
    refine tks 11 22 hHeld ?_;simp only [putS]
    refine tks 12 23 hHeld ?_;simp only [putS]
    refine tks 13 24 hHeld ?_;simp only [putS]
    refine tks 14 25 hHeld ?_;simp only [putS]
    refine tks 15 26 hHeld ?_;simp only [putS]
    refine tks 16 27 hHeld ?_;simp only [putS]
    refine tks 17 28 hHeld ?_;simp only [putS]
    refine tks 18 29 hHeld ?_;simp only [putS]
    refine tks 19 30 hHeld ?_;simp only [putS]
    refine tks 20 31 hHeld ?_;simp only [putS]
    refine tks 21 32 hHeld ?_;simp only [putS]
    refine tks 22 33 hHeld ?_;simp only [putS]
    refine tks 23 34 hHeld ?_;simp only [putS]
    refine tks 24 35 hHeld ?_;simp only [putS]
    refine tks 25 36 hHeld ?_;simp only [putS]
    refine tka 26 37 hHeld ?_;simp only [putS]
    refine wpAnyH_done (by kernel_rfl) ?_ _
    clear hHeld
    clear HSS
    go_wp2
    go_ret
    exact⟨ret_bool (a:=false) HV.out.symm,hB.trans ((hE2.trans (hC.mono hE2.size)).mono hB.size)⟩
   have G:=Lib.hid g
   clear g
   by_cases hk0:0<k
   ·obtain⟨j,hj⟩:∃ j,k=j+1:=⟨k - 1,by omega⟩
    have hjn:j<ndTables:=by omega
    obtain⟨b2,off2,y,AR2,nR2,cR2,e2,hp0,_,_,_,hyy⟩:=HR.eTable hjn
    injection e2 with e2;injection e2 with e2 e3;subst e2;subst e3
    have HA:=Lib.hid (dbAt_s hyy.out (hj▸hxx.out))
    have mj:IntKind.i64.wrap ((k:Int) - 1)=(j:Int):=by rw [IntWalk.i64_in _ (by omega)];omega
    have hk0':decide (0<k)=true:=by simp [hk0]
    have HJ:=Lib.hid hj;clear hj
    cases hg:Op.bytesLess y.fName.toList x.fName.toList
    ·have HB:Hid (dbAt d.fTables k=false):=by show _=_;rw [HJ.out,HA.out];exact hg
     have HV:Hid (validDb d=false):=by show _=_;exact validDb_a (by have:=HL.out;omega) HB.out
     have HSS:Hid (∀ w',Below wr.heap.size wr w'->(w'.cell? ⟨w.heap.size,0,none⟩=some (.slice (some ⟨b,off,none⟩) ndTables cdTables)/\w'.cell? ⟨b,off+k*3,none⟩=some (.string x.fName)/\w'.cell? ⟨b,off+k*3+1,none⟩=some (.int .i64 x.fArity)/\w'.cell? ⟨b,off+k*3+2,none⟩=some (.slice AR nR cR)/\w'.cell? ⟨b,off+j*3,none⟩=some (.string y.fName))):=by
      show ∀ w',_->_
      intro w' hb
      exact⟨(bxd.below (hE.trans (hb.mono hE.size))) 0 _ rfl,cells_below hb _ _ hc0,cells_below hb _ _ hc1,cells_below hb _ _ hc2,cells_below hb _ _ hp0⟩
     go_wp2
     refine hbg HSS.out (Below.refl _ _).drew (fun hHeld=>?_)
     refine tka 0 11 hHeld ?_;simp only [putS]
     refine tka 1 12 hHeld ?_;simp only [putS]
     refine tka 2 13 hHeld ?_;simp only [putS]
     refine tka 3 14 hHeld ?_;simp only [putS]
     refine tka 4 15 hHeld ?_;simp only [putS]
     refine YtiafklphblkpbaaGreat.rd 5 (some 16) fun K hK=>?_
     clear hHeld
     go_simp
     have C:=sIsValidTable_c _ x _ ((rTable_ok NB).keep hx (cells_below (Below.refl wr.heap.size wr).drew))
     rw [G.out]at C
     refine C.mono ?_
     clear C
     rintro e w2 ⟨rfl,hb2⟩
     have hC:Below wr.heap.size wr w2:=(Below.refl wr.heap.size wr).drew.trans (hb2.mono (by simp))
     go_wp2_with fail
     refine hK.out _ _ (HSS.out _ hC) (fun hHeld=>?_)
     clear hK K
     try simp only [putS]
     refine tka 6 17 hHeld ?_;simp only [putS]
     refine tka 7 18 hHeld ?_;simp only [putS]
     refine tka 8 19 hHeld ?_;simp only [putS]
     refine tka 9 20 hHeld ?_;simp only [putS]
     refine tka 10 21 hHeld ?_;simp only [putS]
     refine tka 11 22 hHeld ?_;simp only [putS]
     refine tka 12 23 hHeld ?_;simp only [putS]
     refine tka 13 24 hHeld ?_;simp only [putS]
     refine tka 14 25 hHeld ?_;simp only [putS]
     refine tka 15 26 hHeld ?_;simp only [putS]
     refine tka 16 27 hHeld ?_;simp only [putS]
     refine tka 17 28 hHeld ?_;simp only [putS]
     refine tka 18 29 hHeld ?_;simp only [putS]
     refine tka 19 30 hHeld ?_;simp only [putS]
     refine tka 20 31 hHeld ?_;simp only [putS]
     refine tka 21 32 hHeld ?_;simp only [putS]
     refine tka 22 33 hHeld ?_;simp only [putS]
     refine tka 23 34 hHeld ?_;simp only [putS]
     refine tka 24 35 hHeld ?_;simp only [putS]
     refine tka 25 36 hHeld ?_;simp only [putS]
     refine tka 26 37 hHeld ?_;simp only [putS]
     refine wpAnyH_done (by kernel_rfl) ?_ _
     clear hHeld
     clear HSS
     go_wp2
     go_ret
     exact⟨ret_bool (a:=false) HV.out.symm,hB.trans ((hE2.trans (hC.mono hE2.size)).mono hB.size)⟩
    ·have HB:Hid (dbAt d.fTables k=true):=by show _=_;rw [HJ.out,HA.out];exact hg
     have HSS:Hid (∀ w',Below wr.heap.size wr w'->(w'.cell? ⟨w.heap.size,0,none⟩=some (.slice (some ⟨b,off,none⟩) ndTables cdTables)/\w'.cell? ⟨b,off+k*3,none⟩=some (.string x.fName)/\w'.cell? ⟨b,off+k*3+1,none⟩=some (.int .i64 x.fArity)/\w'.cell? ⟨b,off+k*3+2,none⟩=some (.slice AR nR cR)/\w'.cell? ⟨b,off+j*3,none⟩=some (.string y.fName))):=by
      show ∀ w',_->_
      intro w' hb
      exact⟨(bxd.below (hE.trans (hb.mono hE.size))) 0 _ rfl,cells_below hb _ _ hc0,cells_below hb _ _ hc1,cells_below hb _ _ hc2,cells_below hb _ _ hp0⟩
     go_wp2
     refine hbg HSS.out (Below.refl _ _).drew (fun hHeld=>?_)
     refine tka 0 11 hHeld ?_;simp only [putS]
     refine tka 1 12 hHeld ?_;simp only [putS]
     refine tka 2 13 hHeld ?_;simp only [putS]
     refine tka 3 14 hHeld ?_;simp only [putS]
     refine tka 4 15 hHeld ?_;simp only [putS]
     refine YtiafklphblkpbaaGreat.rd 5 (some 16) fun K hK=>?_
     clear hHeld
     go_simp
     have C:=sIsValidTable_c _ x _ ((rTable_ok NB).keep hx (cells_below (Below.refl wr.heap.size wr).drew))
     rw [G.out]at C
     refine C.mono ?_
     clear C
     rintro e w2 ⟨rfl,hb2⟩
     have hC:Below wr.heap.size wr w2:=(Below.refl wr.heap.size wr).drew.trans (hb2.mono (by simp))
     go_wp2_with fail
     refine hK.out _ _ (HSS.out _ hC) (fun hHeld=>?_)
     clear hK K
     try simp only [putS]
     refine tka 6 17 hHeld ?_;simp only [putS]
     refine tka 7 18 hHeld ?_;simp only [putS]
     refine tka 8 19 hHeld ?_;simp only [putS]
     refine tka 9 20 hHeld ?_;simp only [putS]
     refine tka 10 21 hHeld ?_;simp only [putS]
     refine tka 11 22 hHeld ?_;simp only [putS]
     refine tka 12 23 hHeld ?_;simp only [putS]
     refine tka 13 24 hHeld ?_;simp only [putS]
     refine tka 14 25 hHeld ?_;simp only [putS]
     refine tka 15 26 hHeld ?_;simp only [putS]
     refine tka 16 27 hHeld ?_;simp only [putS]
     refine tka 17 28 hHeld ?_;simp only [putS]
     refine tka 18 29 hHeld ?_;simp only [putS]
     refine tka 19 30 hHeld ?_;simp only [putS]
     refine tka 20 31 hHeld ?_;simp only [putS]
     refine tka 21 32 hHeld ?_;simp only [putS]
     refine tka 22 33 hHeld ?_;simp only [putS]
     refine tka 23 34 hHeld ?_;simp only [putS]
     refine tka 24 35 hHeld ?_;simp only [putS]
     refine tka 25 36 hHeld ?_;simp only [putS]
     refine tka 26 37 hHeld ?_;simp only [putS]
     refine wpAnyH_done (by kernel_rfl) ?_ _
     clear hHeld
     clear HSS
     go_wp2
     go_roundw
     case rel=>exact⟨k+1,by omega,by go_num,all_snoc' Hall.out hxx.out G.out,range_all_yes Hasc.out HB.out,hE2.trans (hC.mono hE2.size)⟩
     case measure=>simp [intOf];omega
   ·have hk0':decide (0<k)=false:=by simp;omega
    have HB:Hid (dbAt d.fTables k=true):=by
     show _=_
     obtain rfl:k=0:=by omega
     rfl
    have HSS:Hid (∀ w',Below wr.heap.size wr w'->(w'.cell? ⟨w.heap.size,0,none⟩=some (.slice (some ⟨b,off,none⟩) ndTables cdTables)/\w'.cell? ⟨b,off+k*3,none⟩=some (.string x.fName)/\w'.cell? ⟨b,off+k*3+1,none⟩=some (.int .i64 x.fArity)/\w'.cell? ⟨b,off+k*3+2,none⟩=some (.slice AR nR cR))):=by
     show ∀ w',_->_
     intro w' hb
     exact⟨(bxd.below (hE.trans (hb.mono hE.size))) 0 _ rfl,cells_below hb _ _ hc0,cells_below hb _ _ hc1,cells_below hb _ _ hc2⟩
    go_wp2
    refine hbg HSS.out (Below.refl _ _).drew (fun hHeld=>?_)
    refine tka 0 11 hHeld ?_;simp only [putS]
    refine tka 1 12 hHeld ?_;simp only [putS]
    refine tka 2 13 hHeld ?_;simp only [putS]
    refine tka 3 14 hHeld ?_;simp only [putS]
    refine tka 4 15 hHeld ?_;simp only [putS]
    refine YtiafklphblkpbaaGreat.rd 5 (some 16) fun K hK=>?_
    clear hHeld
    go_simp
    have C:=sIsValidTable_c _ x _ ((rTable_ok NB).keep hx (cells_below (Below.refl wr.heap.size wr).drew))
    rw [G.out]at C
    refine C.mono ?_
    clear C
    rintro e w2 ⟨rfl,hb2⟩
    have hC:Below wr.heap.size wr w2:=(Below.refl wr.heap.size wr).drew.trans (hb2.mono (by simp))
    go_wp2_with fail
    refine hK.out _ _ (HSS.out _ hC) (fun hHeld=>?_)
    clear hK K
    try simp only [putS]
    refine tka 6 17 hHeld ?_;simp only [putS]
    refine tka 7 18 hHeld ?_;simp only [putS]
    refine tka 8 19 hHeld ?_;simp only [putS]
    refine tka 9 20 hHeld ?_;simp only [putS]
    refine tka 10 21 hHeld ?_;simp only [putS]
    refine tks 11 22 hHeld ?_;simp only [putS]
    refine tks 12 23 hHeld ?_;simp only [putS]
    refine tks 13 24 hHeld ?_;simp only [putS]
    refine tks 14 25 hHeld ?_;simp only [putS]
    refine tks 15 26 hHeld ?_;simp only [putS]
    refine tks 16 27 hHeld ?_;simp only [putS]
    refine tks 17 28 hHeld ?_;simp only [putS]
    refine tks 18 29 hHeld ?_;simp only [putS]
    refine tks 19 30 hHeld ?_;simp only [putS]
    refine tks 20 31 hHeld ?_;simp only [putS]
    refine tks 21 32 hHeld ?_;simp only [putS]
    refine tks 22 33 hHeld ?_;simp only [putS]
    refine tks 23 34 hHeld ?_;simp only [putS]
    refine tks 24 35 hHeld ?_;simp only [putS]
    refine tka 25 36 hHeld ?_;simp only [putS]
    refine tka 26 37 hHeld ?_;simp only [putS]
    refine wpAnyH_done (by kernel_rfl) ?_ _
    clear hHeld
    clear HSS
    go_wp2
    go_roundw
    case rel=>exact⟨k+1,by omega,by go_num,all_snoc' Hall.out hxx.out G.out,range_all_yes Hasc.out HB.out,hE2.trans (hC.mono hE2.size)⟩
    case measure=>simp [intOf];omega
  ·have HV:Hid (validDb d=decide (ndTables<=6)):=by
    show _=_
    have h1:=Hall.out
    rw [take_all HL.out hlt]at h1
    have h2:=Hasc.out
    have hkl:k=d.fTables.length:=by have:=HL.out;omega
    rw [hkl]at h2
    unfold validDb
    rw [h1,h2,HL.out];rfl
   go_wp2
   go_ret
   exact⟨ret_bool (by rw [HV.out];simp;omega),hB2⟩
set_option maxRecDepth 100000 in
set_option maxHeartbeats 1600000 in
theorem iIsValidDatabase_c (csd:List Value) (d:DatabaseD) (w:World) (hd:(rDatabase NB).rep w csd d) :
  Calls Tryz.prog 87 #[.agg csd.toArray] w fun e w'=>e=.returned (.bool (validDb d))/\Below w.heap.size w w':=by
 have rd:=hd
 obtain⟨AdTables,ndTables,cdTables,rfl,hdTables⟩:=rDatabase_rep.1 hd
 clear hd
 have hB:Below w.heap.size w w:=Below.refl _ _
 have hAd:=(Below.refl (World.heap (w)).size (w)).alloc (Nat.le_refl _) (.cells #[.slice AdTables ndTables cdTables] 43)
 replace hB:=hB.trans (hAd.mono hB.size)
 have bxd:=Bx.new (w) [.slice AdTables ndTables cdTables] 43
 clear hAd
 have hn:=hdTables.bound
 have HL:=Lib.hid hdTables.len
 obtain⟨wa,hwa⟩:∃ W,W=w.alloc (.cells #[.slice AdTables ndTables cdTables] 43):=⟨_,rfl⟩
 rw [<- hwa]at hB bxd
 go_enter Tryz.func87,Tryz.ntmps87
 go_upto_region 1 with fail
 rw [<- hwa]
 clear hwa
 have kd_0:=bxd 0 _ rfl
 go_wp2
 go_loopw [8] (fun i wr=>∃ k:Nat,k<=ndTables/\i=.int .i64 k/\(d.fTables.take k).all validTable=true/\(List.range k).all (dbAt d.fTables)=true/\Below wa.heap.size wa wr) (fun i _=>ndTables - (intOf i).toNat)
 case atStart=>exact⟨0,Nat.zero_le _,rfl,rfl,rfl,Below.refl _ _⟩
 case round =>
  clear kd_0
  obtain⟨k,hk,rfl,hall,hasc,hE⟩:=hrel
  have Hall:=Lib.hid hall;clear hall
  have Hasc:=Lib.hid hasc;clear hasc
  have hB2:=hB.trans (hE.mono hB.size)
  have HR:=(hdTables.below (rTable_ok NB) hB2)
  have kd_0:=(bxd.below hE) 0 _ rfl
  by_cases hlt:k<ndTables
  ·obtain⟨b,off,x,AR,nR,cR,rfl,hc0,hc1,hc2,hx,hxx⟩:=HR.eTable hlt
   obtain⟨wt,hwt⟩:∃ W,W=wr.alloc (.cells #[.string x.fName,.int .i64 x.fArity,.slice AR nR cR] 82):=⟨_,rfl⟩
   have hbt:Below wr.heap.size wr wt:=by rw [hwt];exact(Below.refl wr.heap.size wr).alloc (Nat.le_refl _) _
   have bxt:Bk wt wr.heap.size 82 [.string x.fName,.int .i64 x.fArity,.slice AR nR cR]:=by rw [hwt];exact Bk.new wr _ _
   replace hx:=(rTable_ok NB).keep hx (cells_below hbt)
   have hE2:=hE.trans (hbt.mono hE.size)
   go_upto_region 4 with fail
   rw [<- hwt]
   clear hwt hc0 hc1 hc2 kd_0
   cases g:validTable x
   ·have G:=Lib.hid g
    have HV:Hid (validDb d=false):=by show _=_;exact validDb_t hxx.out g
    clear g
    have HSS:Hid (∀ w',Below wt.heap.size wt w'->(w'.cell? ⟨w.heap.size,0,none⟩=some (.slice (some ⟨b,off,none⟩) ndTables cdTables)/\w'.cell? ⟨wr.heap.size,0,none⟩=some (.string x.fName)/\w'.cell? ⟨wr.heap.size,1,none⟩=some (.int .i64 x.fArity)/\w'.cell? ⟨wr.heap.size,2,none⟩=some (.slice AR nR cR))):=by
     show ∀ w',_->_
     intro w' hb
     exact⟨(bxd.below (hE2.trans (hb.mono hE2.size))) 0 _ rfl,(bxt.below hb).bx 0 _ rfl,(bxt.below hb).bx 1 _ rfl,(bxt.below hb).bx 2 _ rfl⟩
    refine hbg HSS.out (Below.refl _ _).drew (fun hHeld=>?_)
    refine tka 0 13 hHeld ?_;simp only [putS]
    refine YtiafklphblkpbaaGreat.rd 1 (some 14) fun K hK=>?_
    clear hHeld
    go_simp
    have C:=iIsValidTable_c _ x _ ((rTable_ok NB).keep hx (cells_below (Below.refl wt.heap.size wt).drew))
    rw [G.out]at C
    refine C.mono ?_
    clear C
    rintro e w2 ⟨rfl,hb2⟩
    have hC:Below wt.heap.size wt w2:=(Below.refl wt.heap.size wt).drew.trans (hb2.mono (by simp))
    go_wp2_with fail
    refine hK.out _ _ (HSS.out _ hC) (fun hHeld=>?_)
    clear hK K
    try simp only [putS]
    refine tka 2 15 hHeld ?_;simp only [putS]
    refine tka 3 16 hHeld ?_;simp only [putS]
    refine tks 4 17 hHeld ?_;simp only [putS]
    refine tks 5 18 hHeld ?_;simp only [putS]
    refine tks 6 19 hHeld ?_;simp only [putS]
    refine tks 7 20 hHeld ?_;simp only [putS]
    refine tks 8 21 hHeld ?_;simp only [putS]
    refine tks 9 22 hHeld ?_;simp only [putS]
    refine tks 10 23 hHeld ?_;simp only [putS]
    refine tks 11 24 hHeld ?_;simp only [putS]
    refine tks 12 25 hHeld ?_;simp only [putS]
    refine tks 13 26 hHeld ?_;simp only [putS]
    refine tks 14 27 hHeld ?_;simp only [putS]
    refine tks 15 28 hHeld ?_;simp only [putS]
    refine tks 16 29 hHeld ?_;simp only [putS]
    refine tks 17 30 hHeld ?_;simp only [putS]
    refine tka 18 31 hHeld ?_;simp only [putS]
    refine wpAnyH_done (by kernel_rfl) ?_ _
    clear hHeld
    clear HSS
    go_wp2
    go_ret
    exact⟨ret_bool (a:=false) HV.out.symm,hB.trans ((hE2.trans (hC.mono hE2.size)).mono hB.size)⟩
   have G:=Lib.hid g
   clear g
   by_cases hk0:0<k
   ·obtain⟨j,hj⟩:∃ j,k=j+1:=⟨k - 1,by omega⟩
    have hjn:j<ndTables:=by omega
    obtain⟨b2,off2,y,AR2,nR2,cR2,e2,hp0,_,_,_,hyy⟩:=(HR.below (rTable_ok NB) hbt).eTable hjn
    injection e2 with e2;injection e2 with e2 e3;subst e2;subst e3
    have HA:=Lib.hid (dbAt_s hyy.out (hj▸hxx.out))
    have mj:IntKind.i64.wrap ((k:Int) - 1)=(j:Int):=by rw [IntWalk.i64_in _ (by omega)];omega
    have hk0':decide (0<k)=true:=by simp [hk0]
    have HJ:=Lib.hid hj;clear hj
    cases hg:Op.bytesLess y.fName.toList x.fName.toList
    ·have HB:Hid (dbAt d.fTables k=false):=by show _=_;rw [HJ.out,HA.out];exact hg
     have HV:Hid (validDb d=false):=by show _=_;exact validDb_a (by have:=HL.out;omega) HB.out
     have HSS:Hid (∀ w',Below wt.heap.size wt w'->(w'.cell? ⟨w.heap.size,0,none⟩=some (.slice (some ⟨b,off,none⟩) ndTables cdTables)/\w'.cell? ⟨wr.heap.size,0,none⟩=some (.string x.fName)/\w'.cell? ⟨wr.heap.size,1,none⟩=some (.int .i64 x.fArity)/\w'.cell? ⟨wr.heap.size,2,none⟩=some (.slice AR nR cR)/\w'.cell? ⟨b,off+j*3,none⟩=some (.string y.fName))):=by
      show ∀ w',_->_
      intro w' hb
      exact⟨(bxd.below (hE2.trans (hb.mono hE2.size))) 0 _ rfl,(bxt.below hb).bx 0 _ rfl,(bxt.below hb).bx 1 _ rfl,(bxt.below hb).bx 2 _ rfl,cells_below hb _ _ hp0⟩
     refine hbg HSS.out (Below.refl _ _).drew (fun hHeld=>?_)
     refine tka 0 13 hHeld ?_;simp only [putS]
     refine YtiafklphblkpbaaGreat.rd 1 (some 14) fun K hK=>?_
     clear hHeld
     go_simp
     have C:=iIsValidTable_c _ x _ ((rTable_ok NB).keep hx (cells_below (Below.refl wt.heap.size wt).drew))
     rw [G.out]at C
     refine C.mono ?_
     clear C
     rintro e w2 ⟨rfl,hb2⟩
     have hC:Below wt.heap.size wt w2:=(Below.refl wt.heap.size wt).drew.trans (hb2.mono (by simp))
     go_wp2_with fail
     refine hK.out _ _ (HSS.out _ hC) (fun hHeld=>?_)
     clear hK K
     try simp only [putS]
     refine tka 2 15 hHeld ?_;simp only [putS]
     refine tka 3 16 hHeld ?_;simp only [putS]
     refine tka 4 17 hHeld ?_;simp only [putS]
     refine tka 5 18 hHeld ?_;simp only [putS]
     refine tka 6 19 hHeld ?_;simp only [putS]
     refine tka 7 20 hHeld ?_;simp only [putS]
     refine tka 8 21 hHeld ?_;simp only [putS]
     refine tka 9 22 hHeld ?_;simp only [putS]
     refine tka 10 23 hHeld ?_;simp only [putS]
     refine tka 11 24 hHeld ?_;simp only [putS]
     refine tka 12 25 hHeld ?_;simp only [putS]
     refine tka 13 26 hHeld ?_;simp only [putS]
     refine tka 14 27 hHeld ?_;simp only [putS]
     refine tka 15 28 hHeld ?_;simp only [putS]
     refine tka 16 29 hHeld ?_;simp only [putS]
     refine tka 17 30 hHeld ?_;simp only [putS]
     refine tka 18 31 hHeld ?_;simp only [putS]
     refine wpAnyH_done (by kernel_rfl) ?_ _
     clear hHeld
     clear HSS
     go_wp2
     go_ret
     exact⟨ret_bool (a:=false) HV.out.symm,hB.trans ((hE2.trans (hC.mono hE2.size)).mono hB.size)⟩
    ·have HB:Hid (dbAt d.fTables k=true):=by show _=_;rw [HJ.out,HA.out];exact hg
     have HSS:Hid (∀ w',Below wt.heap.size wt w'->(w'.cell? ⟨w.heap.size,0,none⟩=some (.slice (some ⟨b,off,none⟩) ndTables cdTables)/\w'.cell? ⟨wr.heap.size,0,none⟩=some (.string x.fName)/\w'.cell? ⟨wr.heap.size,1,none⟩=some (.int .i64 x.fArity)/\w'.cell? ⟨wr.heap.size,2,none⟩=some (.slice AR nR cR)/\w'.cell? ⟨b,off+j*3,none⟩=some (.string y.fName))):=by
      show ∀ w',_->_
      intro w' hb
      exact⟨(bxd.below (hE2.trans (hb.mono hE2.size))) 0 _ rfl,(bxt.below hb).bx 0 _ rfl,(bxt.below hb).bx 1 _ rfl,(bxt.below hb).bx 2 _ rfl,cells_below hb _ _ hp0⟩
     refine hbg HSS.out (Below.refl _ _).drew (fun hHeld=>?_)
     refine tka 0 13 hHeld ?_;simp only [putS]
     refine YtiafklphblkpbaaGreat.rd 1 (some 14) fun K hK=>?_
     clear hHeld
     go_simp
     have C:=iIsValidTable_c _ x _ ((rTable_ok NB).keep hx (cells_below (Below.refl wt.heap.size wt).drew))
     rw [G.out]at C
     refine C.mono ?_
     clear C
     rintro e w2 ⟨rfl,hb2⟩
     have hC:Below wt.heap.size wt w2:=(Below.refl wt.heap.size wt).drew.trans (hb2.mono (by simp))
     go_wp2_with fail
     refine hK.out _ _ (HSS.out _ hC) (fun hHeld=>?_)
     clear hK K
     try simp only [putS]
     refine tka 2 15 hHeld ?_;simp only [putS]
     refine tka 3 16 hHeld ?_;simp only [putS]
     refine tka 4 17 hHeld ?_;simp only [putS]
     refine tka 5 18 hHeld ?_;simp only [putS]
     refine tka 6 19 hHeld ?_;simp only [putS]
     refine tka 7 20 hHeld ?_;simp only [putS]
     refine tka 8 21 hHeld ?_;simp only [putS]
     refine tka 9 22 hHeld ?_;simp only [putS]
     refine tka 10 23 hHeld ?_;simp only [putS]
     refine tka 11 24 hHeld ?_;simp only [putS]
     refine tka 12 25 hHeld ?_;simp only [putS]
     refine tka 13 26 hHeld ?_;simp only [putS]
     refine tka 14 27 hHeld ?_;simp only [putS]
     refine tka 15 28 hHeld ?_;simp only [putS]
     refine tka 16 29 hHeld ?_;simp only [putS]
     refine tka 17 30 hHeld ?_;simp only [putS]
     refine tka 18 31 hHeld ?_;simp only [putS]
     refine wpAnyH_done (by kernel_rfl) ?_ _
     clear hHeld
     clear HSS
     go_wp2
     go_roundw
     case rel=>exact⟨k+1,by omega,by go_num,all_snoc' Hall.out hxx.out G.out,range_all_yes Hasc.out HB.out,hE2.trans (hC.mono hE2.size)⟩
     case measure=>simp [intOf];omega
   ·have hk0':decide (0<k)=false:=by simp;omega
    have HB:Hid (dbAt d.fTables k=true):=by
     show _=_
     obtain rfl:k=0:=by omega
     rfl
    have HSS:Hid (∀ w',Below wt.heap.size wt w'->(w'.cell? ⟨w.heap.size,0,none⟩=some (.slice (some ⟨b,off,none⟩) ndTables cdTables)/\w'.cell? ⟨wr.heap.size,0,none⟩=some (.string x.fName)/\w'.cell? ⟨wr.heap.size,1,none⟩=some (.int .i64 x.fArity)/\w'.cell? ⟨wr.heap.size,2,none⟩=some (.slice AR nR cR))):=by
     show ∀ w',_->_
     intro w' hb
     exact⟨(bxd.below (hE2.trans (hb.mono hE2.size))) 0 _ rfl,(bxt.below hb).bx 0 _ rfl,(bxt.below hb).bx 1 _ rfl,(bxt.below hb).bx 2 _ rfl⟩
    refine hbg HSS.out (Below.refl _ _).drew (fun hHeld=>?_)
    refine tka 0 13 hHeld ?_;simp only [putS]
    refine YtiafklphblkpbaaGreat.rd 1 (some 14) fun K hK=>?_
    clear hHeld
    go_simp
    have C:=iIsValidTable_c _ x _ ((rTable_ok NB).keep hx (cells_below (Below.refl wt.heap.size wt).drew))
    rw [G.out]at C
    refine C.mono ?_
    clear C
    rintro e w2 ⟨rfl,hb2⟩
    have hC:Below wt.heap.size wt w2:=(Below.refl wt.heap.size wt).drew.trans (hb2.mono (by simp))
    go_wp2_with fail
    refine hK.out _ _ (HSS.out _ hC) (fun hHeld=>?_)
    clear hK K
    try simp only [putS]
    refine tka 2 15 hHeld ?_;simp only [putS]
    refine tka 3 16 hHeld ?_;simp only [putS]
    refine tka 4 17 hHeld ?_;simp only [putS]
    refine tka 5 18 hHeld ?_;simp only [putS]
    refine tka 6 19 hHeld ?_;simp only [putS]
    refine tks 7 20 hHeld ?_;simp only [putS]
    refine tks 8 21 hHeld ?_;simp only [putS]
    refine tks 9 22 hHeld ?_;simp only [putS]
    refine tks 10 23 hHeld ?_;simp only [putS]
    refine tks 11 24 hHeld ?_;simp only [putS]
    refine tks 12 25 hHeld ?_;simp only [putS]
    refine tks 13 26 hHeld ?_;simp only [putS]
    refine tks 14 27 hHeld ?_;simp only [putS]
    refine tks 15 28 hHeld ?_;simp only [putS]
    refine tks 16 29 hHeld ?_;simp only [putS]
    refine tka 17 30 hHeld ?_;simp only [putS]
    refine tka 18 31 hHeld ?_;simp only [putS]
    refine wpAnyH_done (by kernel_rfl) ?_ _
    clear hHeld
    clear HSS
    go_wp2
    go_roundw
    case rel=>exact⟨k+1,by omega,by go_num,all_snoc' Hall.out hxx.out G.out,range_all_yes Hasc.out HB.out,hE2.trans (hC.mono hE2.size)⟩
    case measure=>simp [intOf];omega
  ·have HV:Hid (validDb d=decide (ndTables<=6)):=by
    show _=_
    have h1:=Hall.out
    rw [take_all HL.out hlt]at h1
    have h2:=Hasc.out
    have hkl:k=d.fTables.length:=by have:=HL.out;omega
    rw [hkl]at h2
    unfold validDb
    rw [h1,h2,HL.out];rfl
   go_wp2
   go_ret
   exact⟨ret_bool (by rw [HV.out];simp;omega),hB2⟩
end Go.Proofs.YtiafklphblkpbaaGreat
