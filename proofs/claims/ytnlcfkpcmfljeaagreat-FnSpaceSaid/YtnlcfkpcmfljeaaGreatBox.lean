/-
  Box, Vol, Bix
-/
import Derived.Test.YtnlcfkpcmfljeaaGreatTypes
import Derived.Test.YtnlcfkpcmfljeaaGreatLoc
set_option linter.unusedVariables false
set_option maxHeartbeats 1600000
set_option maxRecDepth 100000
namespace Go.Proofs.YtnlcfkpcmfljeaaGreat
open Go.RowKit
def dom (a b:List Int):Bool:=decide (a.length=b.length)&&(a.zip b).all (fun p=>decide (p.2<=p.1))
theorem zip_at {a b:List Int}{k:Nat}{x y:Int}(hx:a[k]?=some x) (hy:b[k]?=some y):(a.zip b)[k]?=some (x,y):=by
 rw [List.getElem?_zip_eq_some];exact⟨hx,hy⟩
theorem dom_no {a b:List Int}{k:Nat}{x y:Int}(hx:a[k]?=some x) (hy:b[k]?=some y) (h:x<y):dom a b=false:=by
 unfold dom;rw [Bool.and_eq_false_iff];right;rw [List.all_eq_false];exact⟨(x,y),mem_of_at (zip_at hx hy),by simp;omega⟩
theorem dom_len {a b:List Int}(h:a.length≠b.length):dom a b=false:=by simp [dom,h]
theorem dom_yes {a b:List Int}{n k:Nat}(ha:a.length=n) (hb:b.length=n) (hk:¬ k<n) (h:((a.zip b).take k).all (fun p=>decide (p.2<=p.1))=true):dom a b=true:=by
 rw [List.take_of_length_le (by simp;omega)]at h;unfold dom;rw [h,ha,hb];simp
theorem sDominatesLocation_c (A A':Option Addr) (n n' cap cap':Nat) (l l':List Int) (w:World) (hr:RS NB rInt w A n cap l) (hr':RS NB rInt w A' n' cap' l') :
  Calls Tryz.prog 164 #[.slice A n cap,.slice A' n' cap'] w fun e w'=>e=.returned (.bool (dom l l'))/\Qt w w':=by
 have hn:=hr.bound;have hn':=hr'.bound;by_cases hne:n=n'
 ·subst hne
  go_enter Tryz.func164,Tryz.ntmps164
  go_wp2
  go_loopw [5] (fun i wr=>∃ k:Nat,k<=n/\i=.int .i64 k/\((l.zip l').take k).all (fun p=>decide (p.2<=p.1))=true/\∃ q,wr=w.drewN q) (fun i _=>n - (intOf i).toNat)
  case atStart=>exact⟨0,Nat.zero_le _,rfl,rfl,0,rfl⟩
  case round =>
   obtain⟨k,hk,rfl,heq,q,rfl⟩:=hrel;have HE:=Lib.hid heq;clear heq;by_cases hlt:k<n
   ·obtain⟨b,off,x,rfl,hc,hI,hxk⟩:=hr.ati hlt
    obtain⟨b',off',y,rfl,hc',hI',hyk⟩:=hr'.ati hlt;by_cases hx:x<y
    ·have hb:decide (x<y)=true:=by simpa using hx
     go_wp2
     go_quiet (fail)
     go_wp2;go_ret;exact⟨ret_bool (a:=false) (dom_no hxk.out hyk.out hx).symm,(by first|exact⟨_,rfl⟩|(simp only [World.drewN_drewN];exact⟨_,rfl⟩))⟩
    ·have hb:decide (x<y)=false:=by simpa using hx
     have HX:=Lib.hid hx;clear hx;go_wp2
     go_quiet (fail)
     go_wp2;go_roundw
     case rel=>exact⟨k+1,by omega,by go_num,all_snoc' HE.out (zip_at hxk.out hyk.out) (by have:=HX.out;simp;omega),(by first|exact⟨_,rfl⟩|(simp only [World.drewN_drewN];exact⟨_,rfl⟩))⟩
     case measure=>simp [intOf];omega
   ·go_wp2
    go_ret;exact⟨ret_bool (a:=true) (dom_yes hr.len hr'.len (by omega) HE.out).symm,_,rfl⟩
 ·have hb:((n:Int) != (n':Int))=true:=by simp;omega
  go_enter Tryz.func164,Tryz.ntmps164
  go_wp2;go_ret;exact⟨ret_bool (a:=false) (dom_len (by rw [hr.len,hr'.len];exact hne)).symm,Qt.refl _⟩
theorem iDominatesLocation_c (A A':Option Addr) (n n' cap cap':Nat) (l l':List Int) (w:World) (hr:RS NB rInt w A n cap l) (hr':RS NB rInt w A' n' cap' l') :
  Calls Tryz.prog 216 #[.slice A n cap,.slice A' n' cap'] w fun e w'=>e=.returned (.bool (dom l l'))/\Qt w w':=by
 have hn:=hr.bound;have hn':=hr'.bound;by_cases hne:n=n'
 ·subst hne
  go_enter Tryz.func216,Tryz.ntmps216
  go_wp2
  go_loopw [13] (fun i wr=>∃ k:Nat,k<=n/\i=.int .i64 k/\((l.zip l').take k).all (fun p=>decide (p.2<=p.1))=true/\∃ q,wr=w.drewN q) (fun i _=>n - (intOf i).toNat)
  case atStart=>exact⟨0,Nat.zero_le _,rfl,rfl,0,rfl⟩
  case round =>
   obtain⟨k,hk,rfl,heq,q,rfl⟩:=hrel;have HE:=Lib.hid heq;clear heq;by_cases hlt:k<n
   ·obtain⟨b,off,x,rfl,hc,hI,hxk⟩:=hr.ati hlt
    obtain⟨b',off',y,rfl,hc',hI',hyk⟩:=hr'.ati hlt;by_cases hx:x<y
    ·have hb:decide (x<y)=true:=by simpa using hx
     go_wp2
     go_quiet (fail)
     go_wp2;go_ret;exact⟨ret_bool (a:=false) (dom_no hxk.out hyk.out hx).symm,(by first|exact⟨_,rfl⟩|(simp only [World.drewN_drewN];exact⟨_,rfl⟩))⟩
    ·have hb:decide (x<y)=false:=by simpa using hx
     have HX:=Lib.hid hx;clear hx;go_wp2
     go_quiet (fail)
     go_wp2;go_roundw
     case rel=>exact⟨k+1,by omega,by go_num,all_snoc' HE.out (zip_at hxk.out hyk.out) (by have:=HX.out;simp;omega),(by first|exact⟨_,rfl⟩|(simp only [World.drewN_drewN];exact⟨_,rfl⟩))⟩
     case measure=>simp [intOf];omega
   ·go_wp2
    go_ret;exact⟨ret_bool (a:=true) (dom_yes hr.len hr'.len (by omega) HE.out).symm,_,rfl⟩
 ·have hb:((n:Int) != (n':Int))=true:=by simp;omega
  go_enter Tryz.func216,Tryz.ntmps216
  go_wp2;go_ret;exact⟨ret_bool (a:=false) (dom_len (by rw [hr.len,hr'.len];exact hne)).symm,Qt.refl _⟩
def validBox (b:BoxD):Bool:=isLoc b.fLow&&(isLoc b.fHigh&&(decide (0<b.fLow.length)&&dom b.fHigh b.fLow))
theorem iIsValidBox_c (cs:List Value) (x:BoxD) (w:World) (h:(rBox NB).rep w cs x) :
  Calls Tryz.prog 161 #[.agg cs.toArray] w fun e w'=>e=.returned (.bool (validBox x))/\Below w.heap.size w w':=by
 obtain⟨A1,n1,c1,A2,n2,c2,rfl,h1,h2⟩:=rBox_rep.1 h;have hL:=Lib.hid h1.len;have hn1:=h1.bound;clear h;have hB:=(Below.refl w.heap.size w).alloc (Nat.le_refl _) (.cells #[.slice A1 n1 c1,.slice A2 n2 c2] 36);have bx:=Bx.new w [.slice A1 n1 c1,.slice A2 n2 c2] 36;replace h1:=h1.below rInt_ok hB;replace h2:=h2.below rInt_ok hB
 go_enter Tryz.func161,Tryz.ntmps161
 go_wp2_with fail
 refine(iIsLocation_c _ _ _ _ _ h1).mono ?_;rintro e w1 ⟨rfl,hw1⟩;have hb1:=Below.of_eq hw1;clear hw1;replace hB:=hB.trans (hb1.mono hB.size);replace bx:=bx.below hb1;replace h1:=h1.below rInt_ok hb1;replace h2:=h2.below rInt_ok hb1;clear hb1;have b0:=bx 0 _ rfl;have b1:=bx 1 _ rfl;cases e1:isLoc x.fLow
 ·go_wp2
  go_ret;exact⟨ret_bool (a:=false) (by simp [validBox,e1]),hB⟩
 cases e2:isLoc x.fHigh
 ·go_wp2_with (go_at_call 144;refine(iIsLocation_c _ _ _ _ _ h2).mono ?_;rintro e w' ⟨rfl,rfl⟩)
  go_ret;exact⟨ret_bool (a:=false) (by simp [validBox,e2]),hB⟩
 by_cases e3:0<n1
 rotate_left
 ·go_wp2_with (go_at_call 144;refine(iIsLocation_c _ _ _ _ _ h2).mono ?_;rintro e w' ⟨rfl,rfl⟩)
  go_ret;exact⟨ret_bool (a:=false) (by have:decide (0<x.fLow.length)=false:=decide_eq_false (by rw [hL.out];omega);simp [validBox,this]),hB⟩
 have d3:decide ((0:Int)<(n1:Int))=true:=by simp;omega
 go_wp2_with (first|(go_at_call 144;refine(iIsLocation_c _ _ _ _ _ h2).mono ?_;rintro e w' ⟨rfl,rfl⟩)|(go_at_call 216;refine(iDominatesLocation_c _ _ _ _ _ _ _ _ _ h2 h1).mono ?_;rintro e w2 ⟨rfl,hq⟩))
 go_ret;exact⟨ret_bool (by have:decide (0<x.fLow.length)=true:=decide_eq_true (by rw [hL.out];omega);simp [validBox,e1,e2,this]),hB.trans ((hq.below _).mono hB.size)⟩
theorem sIsValidBox_c (cs:List Value) (x:BoxD) (w:World) (h:(rBox NB).rep w cs x) :
  Calls Tryz.prog 93 #[.agg cs.toArray] w fun e w'=>e=.returned (.bool (validBox x))/\Below w.heap.size w w':=by
 obtain⟨A1,n1,c1,A2,n2,c2,rfl,h1,h2⟩:=rBox_rep.1 h;have hL:=Lib.hid h1.len;have hn1:=h1.bound;clear h;have hB:=(Below.refl w.heap.size w).alloc (Nat.le_refl _) (.cells #[.slice A1 n1 c1,.slice A2 n2 c2] 36);have bx:=Bx.new w [.slice A1 n1 c1,.slice A2 n2 c2] 36;replace h1:=h1.below rInt_ok hB;replace h2:=h2.below rInt_ok hB;by_cases e3:0<n1
 rotate_left
 ·have d3:decide ((0:Int)<(n1:Int))=false:=by simp;omega
  go_enter Tryz.func93,Tryz.ntmps93
  go_wp2;go_ret;exact⟨ret_bool (a:=false) (by have:decide (0<x.fLow.length)=false:=decide_eq_false (by rw [hL.out];omega);simp [validBox,this]),hB⟩
 have d3:decide ((0:Int)<(n1:Int))=true:=by simp;omega
 have HP:Hid (decide (0<x.fLow.length)=true):=decide_eq_true (by rw [hL.out];omega)
 go_enter Tryz.func93,Tryz.ntmps93
 go_wp2_with fail
 refine(sIsLocation_c _ _ _ _ _ h1).mono ?_;rintro e w1 ⟨rfl,hw1⟩;have hb1:=Below.of_eq hw1;clear hw1;replace hB:=hB.trans (hb1.mono hB.size);replace bx:=bx.below hb1;replace h1:=h1.below rInt_ok hb1;replace h2:=h2.below rInt_ok hb1;clear hb1;have b0:=bx 0 _ rfl;have b1:=bx 1 _ rfl;cases e1:isLoc x.fLow
 ·go_wp2
  go_ret;exact⟨ret_bool (a:=false) (by simp [validBox,e1]),hB⟩
 cases e2:isLoc x.fHigh
 ·go_wp2_with (go_at_call 130;refine(sIsLocation_c _ _ _ _ _ h2).mono ?_;rintro e w' ⟨rfl,rfl⟩)
  go_ret;exact⟨ret_bool (a:=false) (by simp [validBox,e2]),hB⟩
 go_wp2_with (first|(go_at_call 130;refine(sIsLocation_c _ _ _ _ _ h2).mono ?_;rintro e w' ⟨rfl,rfl⟩)|(go_at_call 164;refine(sDominatesLocation_c _ _ _ _ _ _ _ _ _ h2 h1).mono ?_;rintro e w2 ⟨rfl,hq⟩))
 go_ret;exact⟨ret_bool (by have:=HP.out;simp [validBox,e1,e2,this]),hB.trans ((hq.below _).mono hB.size)⟩
def widths (b:BoxD):List Int:=(b.fHigh.zip b.fLow).map (fun p=>p.1 - p.2+1)
def prod (l:List Int):Int:=l.foldl (·*·) 1
def volume (b:BoxD):Int:=prod (widths b)
def boxVol (b:BoxD):Int:=if validBox b then min (volume b) 401 else 0
theorem prod_snoc {l:List Int}{k:Nat}{x:Int}(h:l[k]?=some x):prod (l.take (k+1))=prod (l.take k)*x:=by
 unfold prod;rw [take_snoc h,List.foldl_append];rfl
theorem widths_at {b:BoxD}{k:Nat}{x y:Int}(hx:b.fHigh[k]?=some x) (hy:b.fLow[k]?=some y):(widths b)[k]?=some (x - y+1):=by
 unfold widths;rw [List.getElem?_map,zip_at hx hy];rfl
theorem validBox_parts {b:BoxD}(h:validBox b=true):isLoc b.fLow=true/\isLoc b.fHigh=true/\0<b.fLow.length/\b.fHigh.length=b.fLow.length/\∀ (k:Nat) (x y:Int),b.fHigh[k]?=some x->b.fLow[k]?=some y->y<=x:=by
 unfold validBox dom at h;simp only [Bool.and_eq_true,decide_eq_true_eq,List.all_eq_true]at h;refine⟨h.1,h.2.1,h.2.2.1,h.2.2.2.1,fun k x y hx hy=>?_⟩;exact h.2.2.2.2 (x,y) (mem_of_at (zip_at hx hy))
theorem isLoc_at {l:List Int}(h:isLoc l=true):l.length<=16/\∀ (k:Nat) (x:Int),l[k]?=some x->0<=x/\x<=7:=by
 unfold isLoc at h;simp only [Bool.and_eq_true,decide_eq_true_eq,List.all_eq_true]at h;exact⟨h.2,fun k x hx=>inR_t.1 (h.1 x (mem_of_at hx))⟩
theorem width_bd {b:BoxD}(h:validBox b=true) {k:Nat}{x y:Int}(hx:b.fHigh[k]?=some x) (hy:b.fLow[k]?=some y):1<=x - y+1/\x - y+1<=8:=by
 obtain⟨h1,h2,_,_,h5⟩:=validBox_parts h;have:=(isLoc_at h1).2 k y hy;have:=(isLoc_at h2).2 k x hx;have:=h5 k x y hx hy;omega
theorem prod_bd {l:List Int}(h:∀ x∈l,1<=x/\x<=8):1<=prod l/\prod l<=8 ^ l.length:=by
 unfold prod
 suffices ∀ (a:Int) (m:Nat),1<=a->a<=8 ^ m->1<=l.foldl (·*·) a/\l.foldl (·*·) a<=8 ^ (m+l.length) by simpa using this 1 0 (by omega) (by simp)
 induction l with
 | nil=>intro a m h1 h2;simpa using ⟨h1,h2⟩
 | cons x l ih =>
  intro a m h1 h2;have hx:=h x List.mem_cons_self;have e1:1<=a*x:=by have:=Int.mul_le_mul h1 hx.1 (by omega) (by omega);simpa using this
  have e2:a*x<=8 ^ (m+1):=by rw [Int.pow_succ];exact Int.mul_le_mul h2 hx.2 (by omega) (Int.pow_nonneg (by omega))
  have:=ih (fun y hy=>h y (List.mem_cons_of_mem _ hy)) (a*x) (m+1) e1 e2;simp only [List.foldl_cons,List.length_cons];rw [show m+(l.length+1)=m+1+l.length from by omega];exact this
theorem min_step {a x:Int}(_ha:1<=a) (hx:1<=x):min 401 (min a 401*x)=min (a*x) 401:=by
 by_cases h:a<=401
 ·rw [Int.min_eq_left h];exact Int.min_comm _ _
 ·have e1:min a 401=401:=Int.min_eq_right (by omega)
  have e2:(401:Int)<=401*x:=by omega
  have e3:(401:Int)<=a*x:=by have:=Int.mul_le_mul (a:=401) (b:=1) (c:=a) (d:=x) (by omega) hx (by omega) (by omega);simpa using this
  rw [e1,Int.min_eq_left e2,Int.min_eq_right e3]
theorem widths_mem {b:BoxD}(h:validBox b=true):∀ x∈widths b,1<=x/\x<=8:=by
 intro x hx;unfold widths at hx;obtain⟨⟨a,c⟩,hm,rfl⟩:=List.mem_map.1 hx;obtain⟨k,hk,he⟩:=List.getElem_of_mem hm;have hz:(b.fHigh.zip b.fLow)[k]?=some (a,c):=by rw [List.getElem?_eq_getElem hk,he]
 rw [List.getElem?_zip_eq_some]at hz;exact width_bd h hz.1 hz.2
theorem widths_len {b:BoxD}(h:validBox b=true):(widths b).length=b.fLow.length:=by
 obtain⟨_,_,_,h4,_⟩:=validBox_parts h;simp [widths,h4]
theorem prod_take_bd {b:BoxD}(h:validBox b=true) (k:Nat):1<=prod ((widths b).take k)/\prod ((widths b).take k)<=281474976710656:=by
 have h1:=prod_bd (l:=(widths b).take k) fun x hx=>widths_mem h x (List.mem_of_mem_take hx);refine⟨h1.1,Int.le_trans h1.2 ?_⟩
 have hl:((widths b).take k).length<=16:=by
  have:=(isLoc_at (validBox_parts h).1).1;rw [List.length_take,widths_len h];omega
 have h3:8 ^ ((widths b).take k).length<=8 ^ 16:=Nat.pow_le_pow_right (by omega) hl;have h4:((8 ^ ((widths b).take k).length:Nat):Int)<=((8 ^ 16:Nat):Int):=Int.ofNat_le.2 h3;rw [Int.natCast_pow]at h4;exact Int.le_trans h4 (by decide)
theorem iVolume_c (cs:List Value) (x:BoxD) (w:World) (h:(rBox NB).rep w cs x) (hv:validBox x=true) :
  Calls Tryz.prog 162 #[.agg cs.toArray] w fun e w'=>e=.returned (.int .i64 (volume x))/\Below w.heap.size w w':=by
 obtain⟨A1,n1,c1,A2,n2,c2,rfl,h1,h2⟩:=rBox_rep.1 h;have hn1:=h1.bound;have HV:=Lib.hid hv;clear hv h;have hlen:n2=n1:=by rw [<- h1.len,<- h2.len];exact(validBox_parts HV.out).2.2.2.1
 subst hlen;have HW:=Lib.hid ((widths_len HV.out).trans h1.len)
 go_enter Tryz.func162,Tryz.ntmps162
 go_wp2
 go_loopw [3,8] (fun v i wr=>∃ (k:Nat) (p:Int),k<=n2/\i=.int .i64 k/\v=.int .i64 p/\p=prod ((widths x).take k)/\Below w.heap.size w wr/\Bx wr w.heap.size [.slice A1 n2 c1,.slice A2 n2 c2]) (fun _ i _=>n2 - (intOf i).toNat)
 case atStart=>exact⟨0,1,Nat.zero_le _,rfl,rfl,rfl,bal,Bx.new w [.slice A1 n2 c1,.slice A2 n2 c2] _⟩
 case round =>
  obtain⟨k,p,hk,rfl,rfl,hp,hB,bx⟩:=hrel;have HP:=Lib.hid hp;clear hp;have b0:=bx 0 _ rfl;have b1:=bx 1 _ rfl;by_cases hlt:k<n2
  ·obtain⟨b,off,y,rfl,hc,hI,hy⟩:=(h1.below rInt_ok hB).ati hlt
   obtain⟨b',off',z,rfl,hc',hI',hz⟩:=(h2.below rInt_ok hB).ati hlt;have hw:=width_bd HV.out hz.out hy.out;have HS:=Lib.hid (prod_snoc (widths_at hz.out hy.out));have p1:=prod_take_bd HV.out k;have p2:=prod_take_bd HV.out (k+1);rw [HS.out,<- HP.out]at p2;rw [<- HP.out]at p1;have y1:=hI.lo;have y2:=hI.hi;have z1:=hI'.lo;have z2:=hI'.hi
   have l1:=(isLoc_at (validBox_parts HV.out).1).2 k y hy.out;have l2:=(isLoc_at (validBox_parts HV.out).2.1).2 k z hz.out;have m1:IntKind.i64.wrap (z - y)=z - y:=IntWalk.i64_in _ (by omega);have m2:IntKind.i64.wrap (z - y+1)=z - y+1:=IntWalk.i64_in _ (by omega);have m3:IntKind.i64.wrap (p*(z - y+1))=p*(z - y+1):=IntWalk.i64_in _ (by omega);go_wp2
   go_quiet (fail)
   clear m1 m2 m3;go_wp2;go_roundw
   case rel=>exact⟨k+1,p*(z - y+1),by omega,by go_num,rfl,by rw [HS.out,HP.out],below_drewN hB _,bx⟩
   case measure=>simp [intOf];omega
  ·go_wp2
   go_ret;exact⟨ret_int (by rw [HP.out,List.take_of_length_le (by rw [HW.out];omega)];rfl),hB⟩
theorem iBoxVolume_c (cs:List Value) (x:BoxD) (w:World) (h:(rBox NB).rep w cs x) :
  Calls Tryz.prog 88 #[.agg cs.toArray] w fun e w'=>e=.returned (.int .i64 (boxVol x))/\Below w.heap.size w w':=by
 have hrep:=h;obtain⟨A1,n1,c1,A2,n2,c2,rfl,h1,h2⟩:=rBox_rep.1 h;clear h h1 h2;have hB:=(Below.refl w.heap.size w).alloc (Nat.le_refl _) (.cells #[.slice A1 n1 c1,.slice A2 n2 c2] 36);have bx:=Bx.new w [.slice A1 n1 c1,.slice A2 n2 c2] 36
 go_enter Tryz.func88,Tryz.ntmps88
 go_wp2_with fail
 refine(iIsValidBox_c _ x _ ((rBox_ok NB).keep hrep (cells_below hB))).mono ?_;rintro e w1 ⟨rfl,hb1⟩;replace hB:=hB.trans (hb1.mono hB.size);replace bx:=bx.below hb1;clear hb1;have b0:=bx 0 _ rfl;have b1:=bx 1 _ rfl;cases hv:validBox x
 ·go_wp2
  go_ret;exact⟨ret_int (a:=0) (by simp [boxVol,hv]),hB⟩
 ·have HV:=Lib.hid hv
  go_wp2_with fail
  refine(iVolume_c _ x _ ((rBox_ok NB).keep hrep (cells_below hB)) hv).mono ?_;rintro e w2 ⟨rfl,hb2⟩;replace hB:=hB.trans (hb2.mono hB.size);have HX:Hid (boxVol x=min (volume x) 401):=by show boxVol x=_;simp [boxVol,hv]
  generalize volume x=v at *;by_cases hm:v<=401
  all_goals
   go_wp2;go_ret;exact⟨ret_int (by rw [HX.out];omega),hB⟩
theorem sBoxVolume_c (cs:List Value) (x:BoxD) (w:World) (h:(rBox NB).rep w cs x) :
  Calls Tryz.prog 33 #[.agg cs.toArray] w fun e w'=>e=.returned (.int .i64 (boxVol x))/\Below w.heap.size w w':=by
 have hrep:=h;obtain⟨A1,n1,c1,A2,n2,c2,rfl,h1,h2⟩:=rBox_rep.1 h;clear h;have hn1:=h1.bound;have hB:=(Below.refl w.heap.size w).alloc (Nat.le_refl _) (.cells #[.slice A1 n1 c1,.slice A2 n2 c2] 36);have bx:=Bx.new w [.slice A1 n1 c1,.slice A2 n2 c2] 36
 go_enter Tryz.func33,Tryz.ntmps33
 go_wp2_with fail
 refine(sIsValidBox_c _ x _ ((rBox_ok NB).keep hrep (cells_below hB))).mono ?_;rintro e w1 ⟨rfl,hb1⟩;replace hB:=hB.trans (hb1.mono hB.size);replace bx:=bx.below hb1;clear hb1;cases hv:validBox x
 ·go_wp2
  go_ret;exact⟨ret_int (a:=0) (by simp [boxVol,hv]),hB⟩
 have HX:Hid (boxVol x=min (volume x) 401):=by show boxVol x=_;simp [boxVol,hv]
 have HV:=Lib.hid hv;have hlen:n2=n1:=by rw [<- h1.len,<- h2.len];exact(validBox_parts hv).2.2.2.1
 subst hlen;have HW:=Lib.hid ((widths_len hv).trans h1.len);go_wp2
 go_loopw [3,4] (fun v i wr=>∃ (k:Nat) (p:Int),k<=n2/\i=.int .i64 k/\v=.int .i64 p/\1<=p/\p<=401/\p=min (prod ((widths x).take k)) 401/\Below w.heap.size w wr/\Bx wr w.heap.size [.slice A1 n2 c1,.slice A2 n2 c2]) (fun _ i _=>n2 - (intOf i).toNat)
 case atStart=>exact⟨0,1,Nat.zero_le _,rfl,rfl,by omega,by omega,rfl,hB,bx⟩
 case round =>
  clear hB bx;obtain⟨k,p,hk,rfl,rfl,p1,p2,hp,hB,bx⟩:=hrel;have HP:=Lib.hid hp;clear hp;have b0:=bx 0 _ rfl;have b1:=bx 1 _ rfl;by_cases hlt:k<n2
  ·obtain⟨b,off,y,rfl,hc,hI,hy⟩:=(h1.below rInt_ok hB).ati hlt
   obtain⟨b',off',z,rfl,hc',hI',hz⟩:=(h2.below rInt_ok hB).ati hlt;have hw:=width_bd HV.out hz.out hy.out;have HS:=Lib.hid (prod_snoc (widths_at hz.out hy.out));have q1:=prod_take_bd HV.out k;have HM:Hid (min 401 (p*(z - y+1))=min (prod ((widths x).take (k+1))) 401):=by show _=_;rw [HS.out,HP.out];exact min_step q1.1 hw.1
   have l1:=(isLoc_at (validBox_parts HV.out).1).2 k y hy.out;have l2:=(isLoc_at (validBox_parts HV.out).2.1).2 k z hz.out;have u1:1<=p*(z - y+1):=by have:=Int.mul_le_mul p1 hw.1 (by omega) (by omega);simpa using this
   have u2:p*(z - y+1)<=401*8:=Int.mul_le_mul p2 hw.2 (by omega) (by omega);have m1:IntKind.i64.wrap (z - y)=z - y:=IntWalk.i64_in _ (by omega);have m2:IntKind.i64.wrap (z - y+1)=z - y+1:=IntWalk.i64_in _ (by omega);have m3:IntKind.i64.wrap (p*(z - y+1))=p*(z - y+1):=IntWalk.i64_in _ (by omega);by_cases hm:p*(z - y+1)<401
   ·have dm:decide (p*(z - y+1)<401)=true:=by simpa using hm
    go_wp2
    go_quiet (fail)
    clear m1 m2 m3;go_wp2;go_roundw
    case rel=>exact⟨k+1,p*(z - y+1),by omega,by go_num,rfl,by omega,by omega,by rw [<- HM.out];omega,below_drewN hB _,bx⟩
    case measure=>simp [intOf];omega
   ·have dm:decide (p*(z - y+1)<401)=false:=by simpa using hm
    go_wp2
    go_quiet (fail)
    clear m1 m2 m3;go_wp2;go_roundw
    case rel=>exact⟨k+1,401,by omega,by go_num,rfl,by omega,by omega,by rw [<- HM.out];omega,below_drewN hB _,bx⟩
    case measure=>simp [intOf];omega
  ·go_wp2
   go_ret;exact⟨ret_int (by rw [HX.out,HP.out,List.take_of_length_le (by rw [HW.out];omega)];rfl),hB⟩
def inBox (x:BoxD) (l:List Int):Bool:=validBox x&&(dom l x.fLow&&dom x.fHigh l)
def idxSteps (x:BoxD) (l:List Int):List (Int × Int):=(widths x).zip ((l.zip x.fLow).map (fun p=>p.1 - p.2))
def idxF (s:List (Int × Int)):Int:=s.foldl (fun n p=>n*p.1+p.2) 0
def boxIndex (x:BoxD) (l:List Int):Int:=if inBox x l then idxF (idxSteps x l) else -1
theorem dom_at {a b:List Int}(h:dom a b=true):a.length=b.length/\∀ (k:Nat) (x y:Int),a[k]?=some x->b[k]?=some y->y<=x:=by
 unfold dom at h;simp only [Bool.and_eq_true,decide_eq_true_eq,List.all_eq_true]at h;exact⟨h.1,fun k x y hx hy=>h.2 (x,y) (mem_of_at (zip_at hx hy))⟩
theorem inBox_parts {x:BoxD}{l:List Int}(h:inBox x l=true):validBox x=true/\l.length=x.fLow.length/\x.fHigh.length=x.fLow.length/\(∀ (k:Nat) (a b:Int),l[k]?=some a->x.fLow[k]?=some b->b<=a)/\∀ (k:Nat) (a b:Int),x.fHigh[k]?=some a->l[k]?=some b->b<=a:=by
 unfold inBox at h;simp only [Bool.and_eq_true]at h;obtain⟨h1,h2,h3⟩:=h;exact⟨h1,(dom_at h2).1,(validBox_parts h1).2.2.2.1,(dom_at h2).2,(dom_at h3).2⟩
theorem idxF_snoc {s:List (Int × Int)}{k:Nat}{p:Int × Int}(h:s[k]?=some p):idxF (s.take (k+1))=idxF (s.take k)*p.1+p.2:=by
 unfold idxF;rw [take_snoc h,List.foldl_append];rfl
theorem idxSteps_at {x:BoxD}{l:List Int}{k:Nat}{a y z:Int}(ha:l[k]?=some a) (hy:x.fLow[k]?=some y) (hz:x.fHigh[k]?=some z):(idxSteps x l)[k]?=some (z - y+1,a - y):=by
 unfold idxSteps;rw [List.getElem?_zip_eq_some];refine⟨widths_at hz hy,?_⟩;rw [List.getElem?_map,zip_at ha hy];rfl
theorem idxSteps_len {x:BoxD}{l:List Int}(h:inBox x l=true):(idxSteps x l).length=l.length:=by
 obtain⟨h1,h2,h3,_⟩:=inBox_parts h;simp [idxSteps,widths_len h1];omega
theorem idx_bd {p P W d:Int}(h0:0<=p) (hp:p<P) (hW:1<=W) (hd:0<=d) (hd2:d<W):0<=p*W+d/\p*W+d<P*W:=by
 have e1:0<=p*W:=Int.mul_nonneg h0 (by omega);have e2:p*W<=(P - 1)*W:=Int.mul_le_mul_of_nonneg_right (by omega) (by omega);rw [Int.sub_mul,Int.one_mul]at e2;omega
theorem iIsInBox_c (csx:List Value) (x:BoxD) (Al:Option Addr) (nl cl:Nat) (l:List Int) (w:World) (hx:(rBox NB).rep w csx x) (hl:RS NB rInt w Al nl cl l) :
  Calls Tryz.prog 217 #[.agg csx.toArray,.slice Al nl cl] w fun e w'=>e=.returned (.bool (inBox x l))/\Below w.heap.size w w':=by
 have rx:=hx;obtain⟨AxLow,nxLow,cxLow,AxHigh,nxHigh,cxHigh,rfl,hxLow,hxHigh⟩:=rBox_rep.1 hx;clear hx;obtain⟨hB,bxx⟩:=op1 w [.slice AxLow nxLow cxLow,.slice AxHigh nxHigh cxHigh] 36
 go_enter Tryz.func217,Tryz.ntmps217
 go_wp2_with fail
 refine(iIsValidBox_c _ x _ ((rBox_ok NB).keep rx (cells_below hB))).mono ?_;rintro e w1 ⟨rfl,hb1⟩;replace hB:=hB.trans (hb1.mono hB.size);replace bxx:=bxx.below hb1;clear hb1;cases e1:validBox x
 ·go_wp2
  go_ret;exact⟨ret_bool (a:=false) (by simp [inBox,e1]),hB⟩
 have kx_0:=bxx 0 _ rfl;have kx_1:=bxx 1 _ rfl
 go_wp2_with fail
 refine(iDominatesLocation_c _ _ _ _ _ _ _ _ _ (hl.below rInt_ok hB) (hxLow.below rInt_ok hB)).mono ?_;rintro e w2 ⟨rfl,hq2⟩;have hb2:=hq2.belowS;clear hq2;replace hB:=hB.trans (hb2.mono hB.size);replace bxx:=bxx.below hb2;clear hb2 kx_0 kx_1;cases e2:dom l x.fLow
 ·go_wp2
  go_ret;exact⟨ret_bool (a:=false) (by simp [inBox,e2]),hB⟩
 have kx_0:=bxx 0 _ rfl;have kx_1:=bxx 1 _ rfl
 go_wp2_with fail
 refine(iDominatesLocation_c _ _ _ _ _ _ _ _ _ (hxHigh.below rInt_ok hB) (hl.below rInt_ok hB)).mono ?_;rintro e w3 ⟨rfl,hq3⟩;have hb3:=hq3.belowS;clear hq3;replace hB:=hB.trans (hb3.mono hB.size);replace bxx:=bxx.below hb3;clear hb3 kx_0 kx_1;go_wp2;go_ret;exact⟨ret_bool (by simp [inBox,e1,e2]),hB⟩
theorem iBoxIndex_c (csx:List Value) (x:BoxD) (Al:Option Addr) (nl cl:Nat) (l:List Int) (w:World) (hx:(rBox NB).rep w csx x) (hl:RS NB rInt w Al nl cl l) :
  Calls Tryz.prog 163 #[.agg csx.toArray,.slice Al nl cl] w fun e w'=>e=.returned (.int .i64 (boxIndex x l))/\Below w.heap.size w w':=by
 have hnl:=hl.bound;have HL:=Lib.hid hl.len;have rx:=hx;obtain⟨AxLow,nxLow,cxLow,AxHigh,nxHigh,cxHigh,rfl,hxLow,hxHigh⟩:=rBox_rep.1 hx;clear hx;obtain⟨hB,bxx⟩:=op1 w [.slice AxLow nxLow cxLow,.slice AxHigh nxHigh cxHigh] 36
 go_enter Tryz.func163,Tryz.ntmps163
 go_wp2_with fail
 refine(iIsInBox_c _ x _ _ _ _ _ ((rBox_ok NB).keep rx (cells_below hB)) (hl.below rInt_ok hB)).mono ?_;rintro e w1 ⟨rfl,hb1⟩;replace hB:=hB.trans (hb1.mono hB.size);replace bxx:=bxx.below hb1;clear hb1;cases e1:inBox x l
 ·go_wp2
  go_ret;exact⟨ret_int (a:=-1) (by simp [boxIndex,e1]),hB⟩
 have HE:=Lib.hid e1;clear e1;have HX:Hid (boxIndex x l=idxF (idxSteps x l)):=by show boxIndex x l=_;simp [boxIndex,HE.out]
 have hn1:nxLow=nl:=by rw [<- hxLow.len,<- hl.len];exact(inBox_parts HE.out).2.1.symm
 have hn2:nxHigh=nl:=by rw [<- hxHigh.len,<- hl.len];exact((inBox_parts HE.out).2.2.1).trans (inBox_parts HE.out).2.1.symm
 subst hn1;subst hn2;have HZ:=Lib.hid ((idxSteps_len HE.out).trans HL.out);have hV:=Lib.hid (inBox_parts HE.out).1;go_wp2
 go_loopw [5,14] (fun v i wr=>∃ (k:Nat) (p:Int),k<=nxHigh/\i=.int .i64 k/\v=.int .i64 p/\0<=p/\p<prod ((widths x).take k)/\p=idxF ((idxSteps x l).take k)/\Below w.heap.size w wr/\Bx wr w.heap.size [.slice AxLow nxHigh cxLow,.slice AxHigh nxHigh cxHigh]) (fun _ i _=>nxHigh - (intOf i).toNat)
 case atStart=>exact⟨0,0,Nat.zero_le _,rfl,rfl,by omega,by simp [prod],rfl,hB,bxx⟩
 case round =>
  clear hB bxx;obtain⟨k,p,hk,rfl,rfl,p0,p1,hp,hB,bxx⟩:=hrel;have HP:=Lib.hid hp;clear hp;have kx_0:=bxx 0 _ rfl;have kx_1:=bxx 1 _ rfl;by_cases hlt:k<nxHigh
  ·obtain⟨b,off,a,rfl,hc,hI,ha⟩:=(hl.below rInt_ok hB).ati hlt
   obtain⟨b1,off1,y,rfl,hc1,hI1,hy⟩:=(hxLow.below rInt_ok hB).ati hlt;obtain⟨b2,off2,z,rfl,hc2,hI2,hz⟩:=(hxHigh.below rInt_ok hB).ati hlt;have hw:=width_bd hV.out hz.out hy.out;have q1:=(inBox_parts HE.out).2.2.2.1 k a y ha.out hy.out;have q2:=(inBox_parts HE.out).2.2.2.2 k z a hz.out ha.out;have l1:=(isLoc_at (validBox_parts hV.out).1).2 k y hy.out;have l2:=(isLoc_at (validBox_parts hV.out).2.1).2 k z hz.out;have HS:=Lib.hid (prod_snoc (widths_at hz.out hy.out));have pb:=(prod_take_bd hV.out (k+1)).2;have HI:=Lib.hid (idxF_snoc (idxSteps_at ha.out hy.out hz.out));have nb:=idx_bd p0 p1 hw.1 (d:=a - y) (by omega) (by omega)
   rw [<- HS.out]at nb;have u0:0<=p*(z - y+1):=Int.mul_nonneg p0 (by omega);obtain⟨P,hP⟩:∃ P,P=prod ((widths x).take (k+1)):=⟨_,rfl⟩;rw [<- hP]at nb pb;have HPP:=Lib.hid hP;clear hP;have m1:IntKind.i64.wrap (z - y)=z - y:=IntWalk.i64_in _ (by omega);have m2:IntKind.i64.wrap (z - y+1)=z - y+1:=IntWalk.i64_in _ (by omega);have m3:IntKind.i64.wrap (p*(z - y+1))=p*(z - y+1):=IntWalk.i64_in _ (by omega);have m4:IntKind.i64.wrap (p*(z - y+1)+a)=p*(z - y+1)+a:=IntWalk.i64_in _ (by omega);have m5:IntKind.i64.wrap (p*(z - y+1)+a - y)=p*(z - y+1)+a - y:=IntWalk.i64_in _ (by omega);go_wp2
   go_quiet (fail)
   clear m1 m2 m3 m4 m5;go_wp2;go_roundw
   case rel=>exact⟨k+1,p*(z - y+1)+a - y,by omega,by go_num,rfl,by omega,by rw [<- HPP.out];omega,by rw [HI.out,<- HP.out];show _=_+(a - y);omega,below_drewN hB _,bxx⟩
   case measure=>simp [intOf];omega
  ·go_wp2
   go_ret;exact⟨ret_int (by rw [HX.out,HP.out,List.take_of_length_le (by rw [HZ.out];omega)]),hB⟩
end Go.Proofs.YtnlcfkpcmfljeaaGreat
