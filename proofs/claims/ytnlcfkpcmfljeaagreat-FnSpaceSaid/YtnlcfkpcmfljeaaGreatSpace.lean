/-
  Space
-/
import Derived.Test.YtnlcfkpcmfljeaaGreatBloc
set_option linter.unusedSimpArgs false
set_option linter.unusedVariables false
set_option maxHeartbeats 1600000
set_option maxRecDepth 100000
namespace Go.Proofs.YtnlcfkpcmfljeaaGreat
open Go.RowKit
def okPair (plans:Nat) (p:Int × Int):Bool:=inR p.1 1 1000000000000&&inR p.2 0 ((plans:Int) - 1)
def validSpace (s:SpaceD):Bool :=
 inR (boxVol s.fBox) 1 400&&(decide ((s.fCosts.length:Int)=boxVol s.fBox)&&(decide ((s.fChoices.length:Int)=boxVol s.fBox)&&(s.fCosts.zip s.fChoices).all (okPair s.fPlans.length)))
theorem zipAt {α β:Type}{a:List α}{b:List β}{k:Nat}{x:α}{y:β}(hx:a[k]?=some x) (hy:b[k]?=some y):(a.zip b)[k]?=some (x,y):=by
 rw [List.getElem?_zip_eq_some];exact⟨hx,hy⟩
theorem all_no {α:Type}{p:α->Bool}{l:List α}{k:Nat}{x:α}(h:l[k]?=some x) (hx:p x=false):l.all p=false:=by
 rw [List.all_eq_false];exact⟨x,mem_of_at h,by simp [hx]⟩
theorem iIsValidSpace_c (cs:List Value) (x:SpaceD) (w:World) (h:(rSpace NB).rep w cs x) :
  Calls Tryz.prog 27 #[.agg cs.toArray] w fun e w'=>e=.returned (.bool (validSpace x))/\Below w.heap.size w w':=by
 obtain⟨A1,n1,c1,A2,n2,c2,A3,n3,c3,A4,n4,c4,A5,n5,c5,rfl,h1,h2,h3,h4,h5⟩:=rSpace_rep.1 h;clear h;have hn3:=h3.bound;have hn4:=h4.bound;have hn5:=h5.bound;have H3:=Lib.hid h3.len;have H4:=Lib.hid h4.len;have H5:=Lib.hid h5.len;have hB:=(Below.refl w.heap.size w).alloc (Nat.le_refl _) (.cells #[.slice A1 n1 c1,.slice A2 n2 c2,.slice A3 n3 c3,.slice A4 n4 c4,.slice A5 n5 c5] 39);have bx:=Bx.new w [.slice A1 n1 c1,.slice A2 n2 c2,.slice A3 n3 c3,.slice A4 n4 c4,.slice A5 n5 c5] 39
 go_enter Tryz.func27,Tryz.ntmps27
 go_wp2_with fail
 refine(iBoxVolume_c _ x.fBox _ (rBox_rep.2 ⟨A1,n1,c1,A2,n2,c2,rfl,h1.below rInt_ok hB,h2.below rInt_ok hB⟩)).mono ?_;rintro e w1 ⟨rfl,hb1⟩;replace hB:=hB.trans (hb1.mono hB.size);replace bx:=bx.below hb1;clear hb1;generalize hv:boxVol x.fBox=v;have HV:=Lib.hid hv;clear hv;have b2:=bx 2 _ rfl;have b3:=bx 3 _ rfl;cases e1:inR v 1 400
 ·go_wp2_with (go_at_call 89;refine(within_c _ _ _ _).mono ?_;rintro e w' ⟨rfl,rfl⟩)
  go_ret;exact⟨ret_bool (a:=false) (by rw [validSpace,HV.out,e1];rfl),hB⟩
 have e1':=inR_t.1 e1;by_cases e2:(n3:Int)=v
 rotate_left
 ·have d2:((n3:Int) != v)=true:=by simp [e2]
  go_wp2_with (go_at_call 89;refine(within_c _ _ _ _).mono ?_;rintro e w' ⟨rfl,rfl⟩)
  go_ret;exact⟨ret_bool (a:=false) (by rw [validSpace,HV.out,H3.out,decide_eq_false e2];simp),hB⟩
 have d2:((n3:Int) != v)=false:=by simp [e2]
 by_cases e3:(n4:Int)=v
 rotate_left
 ·have d3:((n4:Int) != v)=true:=by simp [e3]
  have E2:=Lib.hid e2;clear e2
  go_wp2_with (go_at_call 89;refine(within_c _ _ _ _).mono ?_;rintro e w' ⟨rfl,rfl⟩)
  go_ret;exact⟨ret_bool (a:=false) (by rw [validSpace,HV.out,H4.out,decide_eq_false e3];simp),hB⟩
 have d3:((n4:Int) != v)=false:=by simp [e3]
 have HF:Hid (validSpace x=(x.fCosts.zip x.fChoices).all (okPair x.fPlans.length)):=by show _=_;rw [validSpace,HV.out,H3.out,H4.out,e1,decide_eq_true e2,decide_eq_true e3];simp
 have hnn:n4=n3:=by omega
 subst hnn;have hz:(x.fCosts.zip x.fChoices).length=n4:=by rw [List.length_zip,H3.out,H4.out];omega
 have HZ:=Lib.hid hz;clear hz;have E2:=Lib.hid e2;obtain⟨v',rfl⟩:∃ v':Nat,v=v':=⟨n4,e2.symm⟩;obtain rfl:v'=n4:=by omega
 clear e2 e3 b2 b3;have b2:=bx 2 _ rfl;have b3:=bx 3 _ rfl
 go_wp2_with (go_at_call 89;refine(within_c _ _ _ _).mono ?_;rintro e w' ⟨rfl,rfl⟩)
 go_loopw [29] (fun i wr=>∃ k:Nat,k<=v'/\i=.int .i64 k/\((x.fCosts.zip x.fChoices).take k).all (okPair x.fPlans.length)=true/\Below w.heap.size w wr/\Bx wr w.heap.size [.slice A1 n1 c1,.slice A2 n2 c2,.slice A3 v' c3,.slice A4 v' c4,.slice A5 n5 c5]) (fun i _=>v' - (intOf i).toNat)
 case atStart=>exact⟨0,Nat.zero_le _,rfl,rfl,hB,bx⟩
 case round =>
  clear b2 b3 hB bx;obtain⟨k,hk,rfl,hall,hB,bx⟩:=hrel;have HA:=Lib.hid hall;clear hall;have b2:=bx 2 _ rfl;have b3:=bx 3 _ rfl;have b4:=bx 4 _ rfl;by_cases hlt:k<v'
  ·obtain⟨b,off,y,rfl,hc,hI,hy⟩:=(h3.below rInt_ok hB).ati hlt
   obtain⟨b',off',z,rfl,hc',hI',hz⟩:=(h4.below rInt_ok hB).ati hlt;have m1:IntKind.i64.wrap ((n5:Int) - 1)=(n5:Int) - 1:=IntWalk.i64_in _ (by omega);cases g1:inR y 1 1000000000000
   ·have K1:=Lib.hid (fun W=>within_v g1 W)
    have G1:=Lib.hid g1;clear g1;go_wp2
    go_quiet ((go_at_call_of 89 (Value.int IntKind.i64 y);exact Calls.quiet_of_same (K1.out _)))
    clear m1;go_wp2;go_ret;exact⟨ret_bool (a:=false) (by rw [HF.out];exact(all_no (zipAt hy.out hz.out) (by simp [okPair,G1.out])).symm),below_drewN hB _⟩
   cases g2:inR z 0 ((n5:Int) - 1)
   all_goals
    have K1:=Lib.hid (fun W=>within_v g1 W);have K2:=Lib.hid (fun W=>within_v g2 W);have G1:=Lib.hid g1;clear g1;have G2:=Lib.hid g2;clear g2;go_wp2
    go_quiet ((first|(go_at_call_of 89 (Value.int IntKind.i64 y);exact Calls.quiet_of_same (K1.out _))|(go_at_call_of 89 (Value.int IntKind.i64 z);exact Calls.quiet_of_same (K2.out _))))
    clear m1;go_wp2
   ·go_ret
    exact⟨ret_bool (a:=false) (by rw [HF.out];exact(all_no (zipAt hy.out hz.out) (by simp [okPair,H5.out,G2.out])).symm),below_drewN hB _⟩
   ·go_roundw
    case rel=>exact⟨k+1,by omega,by go_num,all_snoc' HA.out (zipAt hy.out hz.out) (by simp [okPair,H5.out,G1.out,G2.out]),below_drewN hB _,bx⟩
    case measure=>simp [intOf];omega
  ·go_wp2
   go_ret;exact⟨ret_bool (a:=true) (by rw [HF.out,<- HA.out,List.take_of_length_le (by rw [HZ.out];omega)]),hB⟩
theorem validSpace_parts {x:SpaceD}(h:validSpace x=true):validBox x.fBox=true/\1<=volume x.fBox/\volume x.fBox<=400/\(x.fCosts.length:Int)=volume x.fBox/\(x.fChoices.length:Int)=volume x.fBox /\
  (∀ (k:Nat) (c:Int),x.fCosts[k]?=some c->1<=c/\c<=1000000000000)/\∀ (k:Nat) (c:Int),x.fChoices[k]?=some c->0<=c/\c<x.fPlans.length:=by
 unfold validSpace at h;simp only [Bool.and_eq_true,decide_eq_true_eq,List.all_eq_true]at h;obtain⟨h1,h2,h3,h4⟩:=h;have h1:=inR_t.1 h1
 have hv:validBox x.fBox=true:=by
  cases hv:validBox x.fBox
  ·simp [boxVol,hv]at h1
  ·rfl
 have hb:boxVol x.fBox=volume x.fBox:=by
  have:boxVol x.fBox=min (volume x.fBox) 401:=by simp [boxVol,hv]
  omega
 rw [hb]at h1 h2 h3;refine⟨hv,h1.1,h1.2,h2,h3,fun k c hk=>?_,fun k c hk=>?_⟩
 ·have hl:=lt_of_at hk
  have hz:x.fChoices[k]?=some (x.fChoices[k]'(by omega)):=List.getElem?_eq_getElem (by omega);have:=h4 _ (mem_of_at (zipAt hk hz));simp only [okPair,Bool.and_eq_true]at this;exact inR_t.1 this.1
 ·have hl:=lt_of_at hk
  have hz:x.fCosts[k]?=some (x.fCosts[k]'(by omega)):=List.getElem?_eq_getElem (by omega);have:=h4 _ (mem_of_at (zipAt hz hk));simp only [okPair,Bool.and_eq_true]at this;have:=inR_t.1 this.2;exact⟨this.1,by have:=this.2;omega⟩
def spaceIdx (x:SpaceD) (l:List Int):Int:=if validSpace x then boxIndex x.fBox l else -1
def spaceCost (x:SpaceD) (l:List Int):Int:=if 0<=spaceIdx x l then (x.fCosts[(spaceIdx x l).toNat]?).getD 0 else -1
theorem idx_take_bd {x:BoxD}{l:List Int}(h:inBox x l=true) (k:Nat) (hk:k<=l.length):0<=idxF ((idxSteps x l).take k)/\idxF ((idxSteps x l).take k)<prod ((widths x).take k):=by
 induction k with
 | zero=>simp [idxF,prod]
 | succ k ih =>
  obtain⟨h0,h1⟩:=ih (by omega);obtain⟨g1,g2,g3,g4,g5⟩:=inBox_parts h;have ha:l[k]?=some (l[k]'(by omega)):=List.getElem?_eq_getElem (by omega);have hy:x.fLow[k]?=some (x.fLow[k]'(by omega)):=List.getElem?_eq_getElem (by omega);have hz:x.fHigh[k]?=some (x.fHigh[k]'(by omega)):=List.getElem?_eq_getElem (by omega);rw [idxF_snoc (idxSteps_at ha hy hz),prod_snoc (widths_at hz hy)];have hw:=width_bd g1 hz hy;have q1:=g4 k _ _ ha hy;have q2:=g5 k _ _ hz ha;exact idx_bd h0 h1 hw.1 (by omega) (by simp only;omega)
theorem boxIndex_lt {x:BoxD}{l:List Int}:-1<=boxIndex x l/\(0<=boxIndex x l->inBox x l=true)/\(0<=boxIndex x l->boxIndex x l<volume x):=by
 cases h:inBox x l
 ·simp [boxIndex,h]
 ·obtain⟨h1,h2⟩:=idx_take_bd h l.length (Nat.le_refl _)
  rw [List.take_of_length_le (by rw [idxSteps_len h];exact Nat.le_refl _),List.take_of_length_le (by rw [widths_len (inBox_parts h).1,(inBox_parts h).2.1];exact Nat.le_refl _)]at h2;rw [List.take_of_length_le (by rw [idxSteps_len h];exact Nat.le_refl _)]at h1;simp only [boxIndex,h,if_true];exact⟨by omega,fun _=>trivial,fun _=>h2⟩
theorem spaceIdx_at {x:SpaceD}{l:List Int}(h:0<=spaceIdx x l):validSpace x=true/\∃ k:Nat,spaceIdx x l=k/\k<x.fCosts.length/\k<x.fChoices.length:=by
 cases hv:validSpace x
 ·simp [spaceIdx,hv]at h
 ·have e:spaceIdx x l=boxIndex x.fBox l:=by simp [spaceIdx,hv]
  rw [e]at h ⊢;obtain⟨_,_,_,g4,g5,_⟩:=validSpace_parts hv;have:=boxIndex_lt.2.2 h;exact⟨rfl,(boxIndex x.fBox l).toNat,by omega,by omega,by omega⟩
theorem iSpaceIndex_c (csx:List Value) (x:SpaceD) (Al:Option Addr) (nl cl:Nat) (l:List Int) (w:World) (hx:(rSpace NB).rep w csx x) (hl:RS NB rInt w Al nl cl l) :
  Calls Tryz.prog 94 #[.agg csx.toArray,.slice Al nl cl] w fun e w'=>e=.returned (.int .i64 (spaceIdx x l))/\Below w.heap.size w w':=by
 have rx:=hx;obtain⟨Ax_i,nx_i,cx_i,Ax_h,nx_h,cx_h,Ax_y,nx_y,cx_y,Ax_q,nx_q,cx_q,Ax_a4,nx_a4,cx_a4,rfl,hx_i,hx_h,hx_y,hx_q,hx_a4⟩:=rSpace_rep.1 hx;clear hx;obtain⟨hB,bxx⟩:=op1 w [.slice Ax_i nx_i cx_i,.slice Ax_h nx_h cx_h,.slice Ax_y nx_y cx_y,.slice Ax_q nx_q cx_q,.slice Ax_a4 nx_a4 cx_a4] 39
 go_enter Tryz.func94,Tryz.ntmps94
 go_wp2_with fail
 refine(iIsValidSpace_c _ x _ ((rSpace_ok NB).keep rx (cells_below hB))).mono ?_;rintro e w1 ⟨rfl,hb1⟩;replace hB:=hB.trans (hb1.mono hB.size);replace bxx:=bxx.below hb1;clear hb1;cases e1:validSpace x
 ·go_wp2
  go_ret;exact⟨ret_int (a:=-1) (by simp [spaceIdx,e1]),hB⟩
 have kx_0:=bxx 0 _ rfl;have kx_1:=bxx 1 _ rfl
 go_wp2_with fail
 refine(iBoxIndex_c _ x.fBox _ _ _ _ _ (rBox_rep.2 ⟨Ax_i,nx_i,cx_i,Ax_h,nx_h,cx_h,rfl,hx_i.below rInt_ok hB,hx_h.below rInt_ok hB⟩) (hl.below rInt_ok hB)).mono ?_;rintro e w2 ⟨rfl,hb2⟩;replace hB:=hB.trans (hb2.mono hB.size);replace bxx:=bxx.below hb2;clear hb2 kx_0 kx_1;go_wp2;go_ret;exact⟨ret_int (by simp [spaceIdx,e1]),hB⟩
theorem iSpaceCost_c (csx:List Value) (x:SpaceD) (Al:Option Addr) (nl cl:Nat) (l:List Int) (w:World) (hx:(rSpace NB).rep w csx x) (hl:RS NB rInt w Al nl cl l) :
  Calls Tryz.prog 35 #[.agg csx.toArray,.slice Al nl cl] w fun e w'=>e=.returned (.int .i64 (spaceCost x l))/\Below w.heap.size w w':=by
 have hnC:=hx;have rx:=hx;obtain⟨Ax_i,nx_i,cx_i,Ax_h,nx_h,cx_h,Ax_y,nx_y,cx_y,Ax_q,nx_q,cx_q,Ax_a4,nx_a4,cx_a4,rfl,hx_i,hx_h,hx_y,hx_q,hx_a4⟩:=rSpace_rep.1 hx;clear hx;obtain⟨hB,bxx⟩:=op1 w [.slice Ax_i nx_i cx_i,.slice Ax_h nx_h cx_h,.slice Ax_y nx_y cx_y,.slice Ax_q nx_q cx_q,.slice Ax_a4 nx_a4 cx_a4] 39;have hb1:=hx_y.bound;have HL:=Lib.hid hx_y.len
 go_enter Tryz.func35,Tryz.ntmps35
 go_wp2_with fail
 refine(iSpaceIndex_c _ x _ _ _ _ _ ((rSpace_ok NB).keep rx (cells_below hB)) (hl.below rInt_ok hB)).mono ?_;rintro e w1 ⟨rfl,hb1⟩;replace hB:=hB.trans (hb1.mono hB.size);replace bxx:=bxx.below hb1;clear hb1;by_cases e1:0<=spaceIdx x l
 ·obtain⟨hv,k,hk,hk1,hk2⟩:=spaceIdx_at e1
  have HX:Hid (spaceCost x l=(x.fCosts[k]?).getD 0):=by show spaceCost x l=_;rw [spaceCost,if_pos e1,hk];simp
  rw [hk];clear hk e1;have hk1':k<nx_y:=by rw [<- HL.out];exact hk1
  have kx_2:=bxx 2 _ rfl;obtain⟨b,off,y,rfl,hc,hI,hy⟩:=(hx_y.below rInt_ok hB).ati hk1';go_wp2;go_ret;exact⟨ret_int (by rw [HX.out,hy.out];rfl),hB⟩
 ·have h2:spaceIdx x l<0:=by omega
  go_wp2;go_ret;exact⟨ret_int (a:=-1) (by rw [spaceCost,if_neg (by omega)]),hB⟩
def minOf:List Int->Int
 | []=>0
 | c::cs=>cs.foldl min c
def maxOf:List Int->Int
 | []=>0
 | c::cs=>cs.foldl max c
theorem minOf_eq {l:List Int}{c:Int}(h:l[0]?=some c):minOf l=l.foldl min c:=by
 cases l with
 | nil=>simp at h
 | cons a l=>simp at h;subst h;simp [minOf]
theorem maxOf_eq {l:List Int}{c:Int}(h:l[0]?=some c):maxOf l=l.foldl max c:=by
 cases l with
 | nil=>simp at h
 | cons a l=>simp at h;subst h;simp [maxOf]
theorem fold_snoc (f:Int->Int->Int) (c:Int) {l:List Int}{k:Nat}{x:Int}(h:l[k]?=some x):(l.take (k+1)).foldl f c=f ((l.take k).foldl f c) x:=by
 rw [take_snoc h,List.foldl_append];rfl
theorem take1 {l:List Int}{c:Int}(f:Int->Int->Int) (hf:f c c=c) (h:l[0]?=some c):(l.take 1).foldl f c=c:=by
 cases l with
 | nil=>simp at h
 | cons a l=>simp at h;subst h;simpa using hf
theorem slicesMin_c (A:Option Addr) (n cap:Nat) (l:List Int) (w:World) (hr:RS NB rInt w A n cap l) (hn0:0<n) :
  Calls Tryz.prog 91 #[.slice A n cap] w fun e w'=>e=.returned (.int .i64 (minOf l))/\w'=w:=by
 have hn:=hr.bound;obtain⟨b0,off0,c0,rfl,hc0,hI0,h00⟩:=hr.ati hn0;have HM:=Lib.hid (minOf_eq h00.out);have hc0':w.cell? ⟨b0,off0,none⟩=some (.int .i64 c0):=by simpa using hc0
 go_enter Tryz.func91,Tryz.ntmps91
 go_wp2
 go_loop [3,4] (fun v i=>∃ (k:Nat) (m:Int),1<=k/\k<=n/\i=.int .i64 k/\v=.int .i64 m/\m=(l.take k).foldl min c0) (fun _ i=>n - (intOf i).toNat)
 case atStart=>exact⟨1,c0,Nat.le_refl _,by omega,rfl,rfl,(take1 min (by omega) h00.out).symm⟩
 case round =>
  obtain⟨k,m,hk1,hk,rfl,rfl,hm⟩:=hrel;have HK:=Lib.hid hm;clear hm;by_cases hlt:k<n
  ·obtain⟨b,off,x,e1,hc,hI,hx⟩:=hr.ati hlt
   injection e1 with e1;injection e1 with e1 e2;subst e1;subst e2;have HS:=Lib.hid (fold_snoc min c0 hx.out);by_cases hlt2:x<m
   ·have dm:decide (x<m)=true:=by simpa using hlt2
    go_wp2;go_round
    case rel=>exact⟨k+1,x,by omega,by omega,by go_num,rfl,by rw [HS.out,<- HK.out];omega⟩
    case measure=>simp [intOf];omega
   ·have dm:decide (x<m)=false:=by simpa using hlt2
    go_wp2;go_round
    case rel=>exact⟨k+1,m,by omega,by omega,by go_num,rfl,by rw [HS.out,<- HK.out];omega⟩
    case measure=>simp [intOf];omega
  ·go_wp2
   go_ret;exact⟨ret_int (by rw [HM.out,HK.out,take_all hr.len (by omega)]),rfl⟩
theorem slicesMax_c (A:Option Addr) (n cap:Nat) (l:List Int) (w:World) (hr:RS NB rInt w A n cap l) (hn0:0<n) :
  Calls Tryz.prog 92 #[.slice A n cap] w fun e w'=>e=.returned (.int .i64 (maxOf l))/\w'=w:=by
 have hn:=hr.bound;obtain⟨b0,off0,c0,rfl,hc0,hI0,h00⟩:=hr.ati hn0;have HM:=Lib.hid (maxOf_eq h00.out);have hc0':w.cell? ⟨b0,off0,none⟩=some (.int .i64 c0):=by simpa using hc0
 go_enter Tryz.func92,Tryz.ntmps92
 go_wp2
 go_loop [3,4] (fun v i=>∃ (k:Nat) (m:Int),1<=k/\k<=n/\i=.int .i64 k/\v=.int .i64 m/\m=(l.take k).foldl max c0) (fun _ i=>n - (intOf i).toNat)
 case atStart=>exact⟨1,c0,Nat.le_refl _,by omega,rfl,rfl,(take1 max (by omega) h00.out).symm⟩
 case round =>
  obtain⟨k,m,hk1,hk,rfl,rfl,hm⟩:=hrel;have HK:=Lib.hid hm;clear hm;by_cases hlt:k<n
  ·obtain⟨b,off,x,e1,hc,hI,hx⟩:=hr.ati hlt
   injection e1 with e1;injection e1 with e1 e2;subst e1;subst e2;have HS:=Lib.hid (fold_snoc max c0 hx.out);by_cases hlt2:m<x
   ·have dm:decide (m<x)=true:=by simpa using hlt2
    go_wp2;go_round
    case rel=>exact⟨k+1,x,by omega,by omega,by go_num,rfl,by rw [HS.out,<- HK.out];omega⟩
    case measure=>simp [intOf];omega
   ·have dm:decide (m<x)=false:=by simpa using hlt2
    go_wp2;go_round
    case rel=>exact⟨k+1,m,by omega,by omega,by go_num,rfl,by rw [HS.out,<- HK.out];omega⟩
    case measure=>simp [intOf];omega
  ·go_wp2
   go_ret;exact⟨ret_int (by rw [HM.out,HK.out,take_all hr.len (by omega)]),rfl⟩
def costRange (x:SpaceD):Int × Int:=if validSpace x then (minOf x.fCosts,maxOf x.fCosts) else (0,0)
theorem iCostRange_c (csx:List Value) (x:SpaceD) (w:World) (hx:(rSpace NB).rep w csx x) :
  Calls Tryz.prog 29 #[.agg csx.toArray] w fun e w'=>e=.returned (.tuple #[.int .i64 (costRange x).1,.int .i64 (costRange x).2])/\Below w.heap.size w w':=by
 have rx:=hx;obtain⟨Ax_i,nx_i,cx_i,Ax_h,nx_h,cx_h,Ax_y,nx_y,cx_y,Ax_q,nx_q,cx_q,Ax_a4,nx_a4,cx_a4,rfl,hx_i,hx_h,hx_y,hx_q,hx_a4⟩:=rSpace_rep.1 hx;clear hx;obtain⟨hB,bxx⟩:=op1 w [.slice Ax_i nx_i cx_i,.slice Ax_h nx_h cx_h,.slice Ax_y nx_y cx_y,.slice Ax_q nx_q cx_q,.slice Ax_a4 nx_a4 cx_a4] 39;have HL:=Lib.hid hx_y.len
 go_enter Tryz.func29,Tryz.ntmps29
 go_wp2_with fail
 refine(iIsValidSpace_c _ x _ ((rSpace_ok NB).keep rx (cells_below hB))).mono ?_;rintro e w1 ⟨rfl,hb1⟩;replace hB:=hB.trans (hb1.mono hB.size);replace bxx:=bxx.below hb1;clear hb1;cases e1:validSpace x
 ·go_wp2
  go_ret2;exact⟨ret_ints (a:=0) (b:=0) (by simp [costRange,e1]) (by simp [costRange,e1]),hB⟩
 have kx_2:=bxx 2 _ rfl;have h0:0<nx_y:=by have:=validSpace_parts e1;have:=HL.out;omega
 have R3:=(hx_y.below rInt_ok hB);have K1:=Lib.hid (fun q=>slicesMin_c _ _ _ _ _ (R3.drewN rInt_ok q) h0);have K2:=Lib.hid (fun q=>slicesMax_c _ _ _ _ _ (R3.drewN rInt_ok q) h0)
 go_wp2_with fail
 go_quiet (first|(go_at_call 91;exact Calls.quiet_of_same (slicesMin_c _ _ _ _ _ (R3.keep rInt_ok (fun _ _ h=>h)) h0))|(go_at_call 92;exact Calls.quiet_of_same (slicesMax_c _ _ _ _ _ (R3.keep rInt_ok (fun _ _ h=>h)) h0)))
 go_wp2;go_ret2;exact⟨ret_ints (by simp [costRange,e1]) (by simp [costRange,e1]),below_drewN hB _⟩
def idxG (n:Int) (s:List (Int × Int)):Int:=s.foldl (fun n p=>n*p.1+p.2) n
def FitD:List Int->List Int->Prop
 | [],[]=>True
 | v::ws,d::ds=>0<=d/\d<v/\FitD ws ds
 | _,_=>False
theorem digs_idx:∀ (ws ds:List Int),FitD ws ds->∀ n:Int,digs ws (idxG n (ws.zip ds))=(ds,n)
 | [],[],_,n=>rfl
 | v::ws,d::ds,h,n=>by
  obtain⟨h0,h1,h2⟩:=h;have ih:=digs_idx ws ds h2 (n*v+d);show(((digs ws (idxG (n*v+d) (ws.zip ds))).2 % v)::(digs ws (idxG (n*v+d) (ws.zip ds))).1,(digs ws (idxG (n*v+d) (ws.zip ds))).2 / v)=_;rw [ih];simp only;have e1:(n*v+d) % v=d:=by rw [Int.add_comm,Int.add_mul_emod_self_right];exact Int.emod_eq_of_lt h0 h1
  have e2:(n*v+d) / v=n:=by rw [Int.add_comm,Int.add_mul_ediv_right _ _ (by omega),Int.ediv_eq_zero_of_lt h0 h1,Int.zero_add]
  rw [e1,e2]
 | [],_::_,h,_=>by cases h
 | _::_,[],h,_=>by cases h
theorem idx_digs:∀ (ws:List Int),(∀ v∈ws,1<=v)->∀ i:Int,idxG (digs ws i).2 (ws.zip (digs ws i).1)=i/\FitD ws (digs ws i).1
 | [],_,i=>⟨rfl,trivial⟩
 | v::ws,h,i=>by
  have hv:=h v List.mem_cons_self;obtain⟨h1,h2⟩:=idx_digs ws (fun x hx=>h x (List.mem_cons_of_mem _ hx)) i;refine⟨?_,Int.emod_nonneg _ (by omega),Int.emod_lt_of_pos _ (by omega),h2⟩;show idxG ((digs ws i).2 / v*v+(digs ws i).2 % v) (ws.zip (digs ws i).1)=i;rw [Int.mul_comm,Int.mul_ediv_add_emod];exact h1
theorem fit_len:∀ {ws ds:List Int},FitD ws ds->ws.length=ds.length
 | [],[],_=>rfl
 | _::_,_::_,h=>by simp [fit_len h.2.2]
 | [],_::_,h=>by cases h
 | _::_,[],h=>by cases h
theorem fit_at:∀ {ws ds:List Int}{k:Nat}{v d:Int},FitD ws ds->ws[k]?=some v->ds[k]?=some d->0<=d/\d<v
 | _::_,_::_,0,v,d,h,h1,h2=>by simp at h1 h2;subst h1;subst h2;exact⟨h.1,h.2.1⟩
 | _::_,_::_,k+1,v,d,h,h1,h2=>by simp at h1 h2;exact fit_at h.2.2 h1 h2
 | [],[],_,_,_,_,h1,_=>by simp at h1
 | [],_::_,_,_,_,h,_,_=>by cases h
 | _::_,[],_,_,_,h,_,_=>by cases h
theorem fit_of:∀ {ws ds:List Int},ws.length=ds.length->(∀ (k:Nat) (v d:Int),ws[k]?=some v->ds[k]?=some d->0<=d/\d<v)->FitD ws ds
 | [],[],_,_=>trivial
 | v::ws,d::ds,h,hk=>⟨(hk 0 v d rfl rfl).1,(hk 0 v d rfl rfl).2,fit_of (by simpa using h) (fun k v d h1 h2=>hk (k+1) v d (by simpa using h1) (by simpa using h2))⟩
 | [],_::_,h,_=>by simp at h
 | _::_,[],h,_=>by simp at h
def digL (b:BoxD) (l:List Int):List Int:=(l.zip b.fLow).map (fun p=>p.1 - p.2)
theorem digL_at {b:BoxD}{l:List Int}{k:Nat}{x y:Int}(hx:l[k]?=some x) (hy:b.fLow[k]?=some y):(digL b l)[k]?=some (x - y):=by
 unfold digL;rw [List.getElem?_map,zipAt hx hy];rfl
theorem add_digL {b:BoxD}{l:List Int}(h:l.length=b.fLow.length):List.zipWith (·+·) b.fLow (digL b l)=l:=by
 refine List.ext_getElem? fun k=>?_;by_cases hk:k<l.length
 ·have hx:=List.getElem?_eq_getElem hk
  have hy:=List.getElem?_eq_getElem (l:=b.fLow) (i:=k) (by omega);rw [List.getElem?_zipWith,hy,digL_at hx hy,hx];simp;omega
 ·rw [List.getElem?_eq_none (by rw [List.length_zipWith];omega),List.getElem?_eq_none (by omega)]
theorem dom_of {a b:List Int}(h:a.length=b.length) (hk:∀ (k:Nat) (x y:Int),a[k]?=some x->b[k]?=some y->y<=x):dom a b=true:=by
 unfold dom;simp only [Bool.and_eq_true,decide_eq_true_eq,List.all_eq_true];refine⟨h,fun p hp=>?_⟩;obtain⟨k,hk2⟩:=List.getElem?_of_mem hp;rw [List.getElem?_zip_eq_some]at hk2;exact hk k p.1 p.2 hk2.1 hk2.2
theorem inBox_of {b:BoxD}{l:List Int}(hv:validBox b=true) (hl:l.length=b.fLow.length) (h1:∀ (k:Nat) (x y:Int),l[k]?=some x->b.fLow[k]?=some y->y<=x) (h2:∀ (k:Nat) (x y:Int),b.fHigh[k]?=some x->l[k]?=some y->y<=x):inBox b l=true:=by
 unfold inBox;rw [hv,dom_of hl h1,dom_of (by rw [(validBox_parts hv).2.2.2.1,hl]) h2];rfl
theorem fit_digL {b:BoxD}{l:List Int}(h:inBox b l=true):FitD (widths b) (digL b l):=by
 obtain⟨h1,h2,h3,h4,h5⟩:=inBox_parts h;refine fit_of (by unfold widths digL;simp;omega) fun k v d hv hd=>?_;have hk:k<l.length:=by have:=lt_of_at hd;unfold digL at this;simp at this;omega
 have hx:=List.getElem?_eq_getElem hk;have hy:=List.getElem?_eq_getElem (l:=b.fLow) (i:=k) (by omega);have hz:=List.getElem?_eq_getElem (l:=b.fHigh) (i:=k) (by omega);rw [digL_at hx hy]at hd;rw [widths_at hz hy]at hv;injection hd with hd;injection hv with hv;have:=h4 k _ _ hx hy;have:=h5 k _ _ hz hx;omega
theorem idx_loc {b:BoxD}{l:List Int}(h:inBox b l=true):0<=boxIndex b l/\boxLoc b (boxIndex b l)=(l,true):=by
 have hv:=(inBox_parts h).1;have e:boxIndex b l=idxG 0 ((widths b).zip (digL b l)):=by unfold boxIndex;rw [h];rfl
 have hd:=digs_idx _ _ (fit_digL h) 0;rw [<- e]at hd
 have h0:0<=boxIndex b l:=by
  have:=idx_take_bd h l.length (Nat.le_refl _);rw [List.take_of_length_le (by rw [idxSteps_len h];exact Nat.le_refl _)]at this;rw [e];exact this.1
 have h1:=(boxIndex_lt (x:=b) (l:=l)).2.2 h0;refine⟨h0,?_⟩;unfold boxLoc;rw [hv,decide_eq_true h0,decide_eq_true h1];unfold locOf;rw [hd];show(List.zipWith (·+·) b.fLow (digL b l),true)=_;rw [add_digL (inBox_parts h).2.1]
theorem loc_in {b:BoxD}(hv:validBox b=true) {i:Int}(h0:0<=i) (h1:i<volume b):∃ l,boxLoc b i=(l,true)/\inBox b l=true/\boxIndex b l=i:=by
 have hw:=widths_mem hv;obtain⟨hi,hf⟩:=idx_digs (widths b) (fun v hv=>(hw v hv).1) i
 have hz:(digs (widths b) i).2=0:=by
  rw [digs_zero h0 (fun v hv=>(hw v hv).1)];exact Int.ediv_eq_zero_of_lt h0 h1
 rw [hz]at hi;have hp:=validBox_parts hv;have hl:=fit_len hf;rw [widths_len hv]at hl;have hlen:(locOf b i).length=b.fLow.length:=by unfold locOf;rw [List.length_zipWith];omega
 have hat:∀ (k:Nat) (x y:Int),(locOf b i)[k]?=some x->b.fLow[k]?=some y->(digs (widths b) i).1[k]?=some (x - y):=by
  intro k x y hx hy;unfold locOf at hx;have hd:=List.getElem?_eq_getElem (l:=(digs (widths b) i).1) (i:=k) (by have:=lt_of_at hy;omega);rw [List.getElem?_zipWith,hy,hd]at hx;simp at hx;rw [hd,<- hx];congr 1;omega
 have hin:inBox b (locOf b i)=true:=by
  refine inBox_of hv hlen (fun k x y hx hy=>?_) (fun k z x hz hx=>?_)
  ·have hz:=List.getElem?_eq_getElem (l:=b.fHigh) (i:=k) (by have:=lt_of_at hy;omega)
   have:=fit_at hf (widths_at hz hy) (hat k x y hx hy);omega
  ·have hy:=List.getElem?_eq_getElem (l:=b.fLow) (i:=k) (by have:=lt_of_at hx;omega)
   have:=fit_at hf (widths_at hz hy) (hat k x _ hx hy);omega
 refine⟨locOf b i,?_,hin,?_⟩
 ·unfold boxLoc;rw [hv,decide_eq_true h0,decide_eq_true h1];rfl
 ·have e:digL b (locOf b i)=(digs (widths b) i).1:=by
   refine List.ext_getElem? fun k=>?_;by_cases hk:k<b.fLow.length
   ·have hy:=List.getElem?_eq_getElem hk
    have hx:=List.getElem?_eq_getElem (l:=locOf b i) (i:=k) (by omega);rw [digL_at hx hy,hat k _ _ hx hy]
   ·rw [List.getElem?_eq_none (by unfold digL;simp;omega),List.getElem?_eq_none (by omega)]
  have:boxIndex b (locOf b i)=idxG 0 ((widths b).zip (digL b (locOf b i))):=by unfold boxIndex;rw [hin];rfl
  rw [this,e];exact hi
end Go.Proofs.YtnlcfkpcmfljeaaGreat
