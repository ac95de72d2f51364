/-
  Space
-/
import Derived.Test.YtcfmidbioecdcaaGreatBox
namespace Go.Proofs.YtcfmidbioecdcaaGreat
open Go.RowKit

def okPair (plans:Nat) (p:Int × Int):Bool:=inR p.1 1 1000000000000&&inR p.2 0 ((plans:Int) - 1)
def validSpace (s:SpaceD):Bool :=
 inR (boxVol s.fBox) 1 400&&(decide ((s.fCosts.length:Int)=boxVol s.fBox)&&(decide ((s.fChoices.length:Int)=boxVol s.fBox)&&(s.fCosts.zip s.fChoices).all (okPair s.fPlans.length)))
theorem zipAt {α β:Type}{a:List α}{b:List β}{k:Nat}{x:α}{y:β}(hx:a[k]?=some x) (hy:b[k]?=some y):(a.zip b)[k]?=some (x,y):=by
 rw [List.getElem?_zip_eq_some];exact⟨hx,hy⟩
theorem all_no {α:Type}{p:α->Bool}{l:List α}{k:Nat}{x:α}(h:l[k]?=some x) (hx:p x=false):l.all p=false:=by
 rw [List.all_eq_false];exact⟨x,mem_of_at h,by simp [hx]⟩

set_option maxRecDepth 100000 in
set_option maxHeartbeats 1600000 in
theorem iIsValidSpace_c (cs:List Value) (x:SpaceD) (w:World) (h:(rSpace NB).rep w cs x) :
  Calls Tryz.prog 45 #[.agg cs.toArray] w fun e w'=>e=.returned (.bool (validSpace x))/\Below w.heap.size w w':=by
 obtain⟨A1,n1,c1,A2,n2,c2,A3,n3,c3,A4,n4,c4,A5,n5,c5,rfl,h1,h2,h3,h4,h5⟩:=rSpace_rep.1 h
 clear h
 have hn3:=h3.bound
 have hn4:=h4.bound
 have hn5:=h5.bound
 have H3:=Lib.hid h3.len
 have H4:=Lib.hid h4.len
 have H5:=Lib.hid h5.len
 have hB:=(Below.refl w.heap.size w).alloc (Nat.le_refl _) (.cells #[.slice A1 n1 c1,.slice A2 n2 c2,.slice A3 n3 c3,.slice A4 n4 c4,.slice A5 n5 c5] 57)
 have bx:=Bx.new w [.slice A1 n1 c1,.slice A2 n2 c2,.slice A3 n3 c3,.slice A4 n4 c4,.slice A5 n5 c5] 57
 go_enter Tryz.func45,Tryz.ntmps45
 go_wp2_with fail
 refine(iBoxVolume_c _ x.fBox _ (rBox_rep.2 ⟨A1,n1,c1,A2,n2,c2,rfl,h1.below rInt_ok hB,h2.below rInt_ok hB⟩)).mono ?_
 rintro e w1 ⟨rfl,hb1⟩
 replace hB:=hB.trans (hb1.mono hB.size)
 replace bx:=bx.below hb1
 clear hb1
 generalize hv:boxVol x.fBox=v
 have HV:=Lib.hid hv;clear hv
 have b2:=bx 2 _ rfl
 have b3:=bx 3 _ rfl
 cases e1:inR v 1 400
 ·go_wp2_with (go_at_call 46;refine(within_c _ _ _ _).mono ?_;rintro e w' ⟨rfl,rfl⟩)
  go_ret
  exact⟨ret_bool (a:=false) (by rw [validSpace,HV.out,e1];rfl),hB⟩
 have e1':=inR_t.1 e1
 by_cases e2:(n3:Int)=v
 rotate_left
 ·have d2:((n3:Int) != v)=true:=by simp [e2]
  go_wp2_with (go_at_call 46;refine(within_c _ _ _ _).mono ?_;rintro e w' ⟨rfl,rfl⟩)
  go_ret
  exact⟨ret_bool (a:=false) (by rw [validSpace,HV.out,H3.out,decide_eq_false e2];simp),hB⟩
 have d2:((n3:Int) != v)=false:=by simp [e2]
 by_cases e3:(n4:Int)=v
 rotate_left
 ·have d3:((n4:Int) != v)=true:=by simp [e3]
  have E2:=Lib.hid e2;clear e2
  go_wp2_with (go_at_call 46;refine(within_c _ _ _ _).mono ?_;rintro e w' ⟨rfl,rfl⟩)
  go_ret
  exact⟨ret_bool (a:=false) (by rw [validSpace,HV.out,H4.out,decide_eq_false e3];simp),hB⟩
 have d3:((n4:Int) != v)=false:=by simp [e3]
 have HF:Hid (validSpace x=(x.fCosts.zip x.fChoices).all (okPair x.fPlans.length)):=by show _=_;rw [validSpace,HV.out,H3.out,H4.out,e1,decide_eq_true e2,decide_eq_true e3];simp
 have hnn:n4=n3:=by omega
 subst hnn
 have hz:(x.fCosts.zip x.fChoices).length=n4:=by rw [List.length_zip,H3.out,H4.out];omega
 have HZ:=Lib.hid hz;clear hz
 have E2:=Lib.hid e2
 obtain⟨v',rfl⟩:∃ v':Nat,v=v':=⟨n4,e2.symm⟩
 obtain rfl:v'=n4:=by omega
 clear e2 e3 b2 b3
 have b2:=bx 2 _ rfl
 have b3:=bx 3 _ rfl
 go_wp2_with (go_at_call 46;refine(within_c _ _ _ _).mono ?_;rintro e w' ⟨rfl,rfl⟩)
 go_loopw [29] (fun i wr=>∃ k:Nat,k<=v'/\i=.int .i64 k/\((x.fCosts.zip x.fChoices).take k).all (okPair x.fPlans.length)=true/\Below w.heap.size w wr/\Bx wr w.heap.size [.slice A1 n1 c1,.slice A2 n2 c2,.slice A3 v' c3,.slice A4 v' c4,.slice A5 n5 c5]) (fun i _=>v' - (intOf i).toNat)
 case atStart=>exact⟨0,Nat.zero_le _,rfl,rfl,hB,bx⟩
 case round =>
  clear b2 b3 hB bx
  obtain⟨k,hk,rfl,hall,hB,bx⟩:=hrel
  have HA:=Lib.hid hall;clear hall
  have b2:=bx 2 _ rfl
  have b3:=bx 3 _ rfl
  have b4:=bx 4 _ rfl
  by_cases hlt:k<v'
  ·obtain⟨b,off,y,rfl,hc,hI,hy⟩:=(h3.below rInt_ok hB).ati hlt
   obtain⟨b',off',z,rfl,hc',hI',hz⟩:=(h4.below rInt_ok hB).ati hlt
   have m1:IntKind.i64.wrap ((n5:Int) - 1)=(n5:Int) - 1:=IntWalk.i64_in _ (by omega)
   cases g1:inR y 1 1000000000000
   ·have K1:=Lib.hid (fun W=>within_v g1 W)
    have G1:=Lib.hid g1;clear g1
    go_wp2
    go_quiet ((go_at_call_of 46 (Value.int IntKind.i64 y);exact Calls.quiet_of_same (K1.out _)))
    clear m1
    go_wp2
    go_ret
    exact⟨ret_bool (a:=false) (by rw [HF.out];exact(all_no (zipAt hy.out hz.out) (by simp [okPair,G1.out])).symm),below_drewN hB _⟩
   cases g2:inR z 0 ((n5:Int) - 1)
   all_goals
    have K1:=Lib.hid (fun W=>within_v g1 W)
    have K2:=Lib.hid (fun W=>within_v g2 W)
    have G1:=Lib.hid g1;clear g1
    have G2:=Lib.hid g2;clear g2
    go_wp2
    go_quiet ((first|(go_at_call_of 46 (Value.int IntKind.i64 y);exact Calls.quiet_of_same (K1.out _))|(go_at_call_of 46 (Value.int IntKind.i64 z);exact Calls.quiet_of_same (K2.out _))))
    clear m1
    go_wp2
   ·go_ret
    exact⟨ret_bool (a:=false) (by rw [HF.out];exact(all_no (zipAt hy.out hz.out) (by simp [okPair,H5.out,G2.out])).symm),below_drewN hB _⟩
   ·go_roundw
    case rel=>exact⟨k+1,by omega,by go_num,all_snoc' HA.out (zipAt hy.out hz.out) (by simp [okPair,H5.out,G1.out,G2.out]),below_drewN hB _,bx⟩
    case measure=>simp [intOf];omega
  ·go_wp2
   go_ret
   exact⟨ret_bool (a:=true) (by rw [HF.out,<- HA.out,List.take_of_length_le (by rw [HZ.out];omega)]),hB⟩
set_option maxRecDepth 100000 in
set_option maxHeartbeats 1600000 in
theorem sIsValidSpace_c (cs:List Value) (x:SpaceD) (w:World) (h:(rSpace NB).rep w cs x) :
  Calls Tryz.prog 29 #[.agg cs.toArray] w fun e w'=>e=.returned (.bool (validSpace x))/\Below w.heap.size w w':=by
 obtain⟨A1,n1,c1,A2,n2,c2,A3,n3,c3,A4,n4,c4,A5,n5,c5,rfl,h1,h2,h3,h4,h5⟩:=rSpace_rep.1 h
 clear h
 have hn3:=h3.bound
 have hn4:=h4.bound
 have hn5:=h5.bound
 have H3:=Lib.hid h3.len
 have H4:=Lib.hid h4.len
 have H5:=Lib.hid h5.len
 have hB:=(Below.refl w.heap.size w).alloc (Nat.le_refl _) (.cells #[.slice A1 n1 c1,.slice A2 n2 c2,.slice A3 n3 c3,.slice A4 n4 c4,.slice A5 n5 c5] 57)
 have bx:=Bx.new w [.slice A1 n1 c1,.slice A2 n2 c2,.slice A3 n3 c3,.slice A4 n4 c4,.slice A5 n5 c5] 57
 go_enter Tryz.func29,Tryz.ntmps29
 go_wp2_with fail
 refine(sBoxVolume_c _ x.fBox _ (rBox_rep.2 ⟨A1,n1,c1,A2,n2,c2,rfl,h1.below rInt_ok hB,h2.below rInt_ok hB⟩)).mono ?_
 rintro e w1 ⟨rfl,hb1⟩
 replace hB:=hB.trans (hb1.mono hB.size)
 replace bx:=bx.below hb1
 clear hb1
 generalize hv:boxVol x.fBox=v
 have HV:=Lib.hid hv;clear hv
 have b2:=bx 2 _ rfl
 have b3:=bx 3 _ rfl
 cases e1:inR v 1 400
 ·go_wp2_with (go_at_call 30;refine(l1In_c _ _ _ _).mono ?_;rintro e w' ⟨rfl,rfl⟩)
  go_ret
  exact⟨ret_bool (a:=false) (by rw [validSpace,HV.out,e1];rfl),hB⟩
 have e1':=inR_t.1 e1
 by_cases e2:(n3:Int)=v
 rotate_left
 ·have d2:((n3:Int) != v)=true:=by simp [e2]
  go_wp2_with (go_at_call 30;refine(l1In_c _ _ _ _).mono ?_;rintro e w' ⟨rfl,rfl⟩)
  go_ret
  exact⟨ret_bool (a:=false) (by rw [validSpace,HV.out,H3.out,decide_eq_false e2];simp),hB⟩
 have d2:((n3:Int) != v)=false:=by simp [e2]
 by_cases e3:(n4:Int)=v
 rotate_left
 ·have d3:((n4:Int) != v)=true:=by simp [e3]
  have E2:=Lib.hid e2;clear e2
  go_wp2_with (go_at_call 30;refine(l1In_c _ _ _ _).mono ?_;rintro e w' ⟨rfl,rfl⟩)
  go_ret
  exact⟨ret_bool (a:=false) (by rw [validSpace,HV.out,H4.out,decide_eq_false e3];simp),hB⟩
 have d3:((n4:Int) != v)=false:=by simp [e3]
 have HF:Hid (validSpace x=(x.fCosts.zip x.fChoices).all (okPair x.fPlans.length)):=by show _=_;rw [validSpace,HV.out,H3.out,H4.out,e1,decide_eq_true e2,decide_eq_true e3];simp
 have hnn:n4=n3:=by omega
 subst hnn
 have hz:(x.fCosts.zip x.fChoices).length=n4:=by rw [List.length_zip,H3.out,H4.out];omega
 have HZ:=Lib.hid hz;clear hz
 have E2:=Lib.hid e2
 obtain⟨v',rfl⟩:∃ v':Nat,v=v':=⟨n4,e2.symm⟩
 obtain rfl:v'=n4:=by omega
 clear e2 e3 b2 b3
 have b2:=bx 2 _ rfl
 have b3:=bx 3 _ rfl
 go_wp2_with (go_at_call 30;refine(l1In_c _ _ _ _).mono ?_;rintro e w' ⟨rfl,rfl⟩)
 go_loopw [4] (fun i wr=>∃ k:Nat,k<=v'/\i=.int .i64 k/\((x.fCosts.zip x.fChoices).take k).all (okPair x.fPlans.length)=true/\Below w.heap.size w wr/\Bx wr w.heap.size [.slice A1 n1 c1,.slice A2 n2 c2,.slice A3 v' c3,.slice A4 v' c4,.slice A5 n5 c5]) (fun i _=>v' - (intOf i).toNat)
 case atStart=>exact⟨0,Nat.zero_le _,rfl,rfl,hB,bx⟩
 case round =>
  clear b2 b3 hB bx
  obtain⟨k,hk,rfl,hall,hB,bx⟩:=hrel
  have HA:=Lib.hid hall;clear hall
  have b2:=bx 2 _ rfl
  have b3:=bx 3 _ rfl
  have b4:=bx 4 _ rfl
  by_cases hlt:k<v'
  ·obtain⟨b,off,y,rfl,hc,hI,hy⟩:=(h3.below rInt_ok hB).ati hlt
   obtain⟨b',off',z,rfl,hc',hI',hz⟩:=(h4.below rInt_ok hB).ati hlt
   have m1:IntKind.i64.wrap ((n5:Int) - 1)=(n5:Int) - 1:=IntWalk.i64_in _ (by omega)
   cases g1:inR y 1 1000000000000
   ·have K1:=Lib.hid (fun W=>l1In_v g1 W)
    have G1:=Lib.hid g1;clear g1
    go_wp2
    go_quiet ((go_at_call_of 30 (Value.int IntKind.i64 y);exact Calls.quiet_of_same (K1.out _)))
    clear m1
    go_wp2
    go_ret
    exact⟨ret_bool (a:=false) (by rw [HF.out];exact(all_no (zipAt hy.out hz.out) (by simp [okPair,G1.out])).symm),below_drewN hB _⟩
   cases g2:inR z 0 ((n5:Int) - 1)
   all_goals
    have K1:=Lib.hid (fun W=>l1In_v g1 W)
    have K2:=Lib.hid (fun W=>l1In_v g2 W)
    have G1:=Lib.hid g1;clear g1
    have G2:=Lib.hid g2;clear g2
    go_wp2
    go_quiet ((first|(go_at_call_of 30 (Value.int IntKind.i64 y);exact Calls.quiet_of_same (K1.out _))|(go_at_call_of 30 (Value.int IntKind.i64 z);exact Calls.quiet_of_same (K2.out _))))
    clear m1
    go_wp2
   ·go_ret
    exact⟨ret_bool (a:=false) (by rw [HF.out];exact(all_no (zipAt hy.out hz.out) (by simp [okPair,H5.out,G2.out])).symm),below_drewN hB _⟩
   ·go_roundw
    case rel=>exact⟨k+1,by omega,by go_num,all_snoc' HA.out (zipAt hy.out hz.out) (by simp [okPair,H5.out,G1.out,G2.out]),below_drewN hB _,bx⟩
    case measure=>simp [intOf];omega
  ·go_wp2
   go_ret
   exact⟨ret_bool (a:=true) (by rw [HF.out,<- HA.out,List.take_of_length_le (by rw [HZ.out];omega)]),hB⟩
end Go.Proofs.YtcfmidbioecdcaaGreat
