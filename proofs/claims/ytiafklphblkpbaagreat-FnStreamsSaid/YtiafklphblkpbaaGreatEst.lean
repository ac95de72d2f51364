/-
  Est
-/
import Derived.Test.YtiafklphblkpbaaGreatEqLib
import Derived.Test.YtiafklphblkpbaaGreatEqObs
import Derived.Test.YtiafklphblkpbaaGreatStrP
namespace Go.Proofs.YtiafklphblkpbaaGreat
open Go.RowKit
theorem stm_eq (x y:StreamD):(x=y)↔(x.fVars=y.fVars/\x.fRows=y.fRows):=by cases x;cases y;simp
set_option maxHeartbeats 800000 in
theorem iEqualStreams_c (cs cs':List Value) (x y:StreamD) (w:World) (h:(rStream NB).rep w cs x) (h':(rStream NB).rep w cs' y) :
  Calls Tryz.prog 22 #[.agg cs.toArray,.agg cs'.toArray] w fun e w'=>e=.returned (.bool (decide (x=y)))/\Below w.heap.size w w':=by
 obtain⟨A1,n1,c1,A2,n2,c2,rfl,h1,h2⟩:=rStream_rep.1 h
 obtain⟨A3,n3,c3,A4,n4,c4,rfl,h3,h4⟩:=rStream_rep.1 h'
 clear h h'
 have hA:=(Below.refl w.heap.size w).alloc (Nat.le_refl _) (.cells #[.slice A1 n1 c1,.slice A2 n2 c2] 51)
 have hB:=hA.alloc (by simp) (.cells #[.slice A3 n3 c3,.slice A4 n4 c4] 51)
 have bx:=(Bx.new w [.slice A1 n1 c1,.slice A2 n2 c2] 51).below ((Below.refl _ _).alloc (Nat.le_refl _) (.cells #[.slice A3 n3 c3,.slice A4 n4 c4] 51))
 have by_:=Bx.new (w.alloc (.cells #[.slice A1 n1 c1,.slice A2 n2 c2] 51)) [.slice A3 n3 c3,.slice A4 n4 c4] 51
 simp only [World.size_alloc]at by_
 go_enter Tryz.func22,Tryz.ntmps22
 go_wp2_with fail
 refine(equalInts_c _ _ _ _ _ _ _ _ _ (h1.below rInt_ok hB) (h3.below rInt_ok hB)).mono ?_
 rintro e w1 ⟨rfl,hq⟩
 have hb1:=hq.below (World.heap ((w.alloc (.cells #[.slice A1 n1 c1,.slice A2 n2 c2] 51)).alloc (.cells #[.slice A3 n3 c3,.slice A4 n4 c4] 51))).size
 clear hq hA
 replace hB:=hB.trans (hb1.mono hB.size)
 replace bx:=bx.below hb1
 replace by_:=by_.below hb1
 clear hb1
 have b0:=bx 1 _ rfl
 have b1:=by_ 1 _ rfl
 by_cases e1:x.fVars=y.fVars
 ·have d1:decide (x.fVars=y.fVars)=true:=by simp [e1]
  have E1:=Lib.hid e1;clear e1
  go_wp2_with fail
  refine(equalRows_c _ _ _ _ _ _ _ _ _ (h2.below (rSlice_ok _ _ rInt_ok) hB) (h4.below (rSlice_ok _ _ rInt_ok) hB)).mono ?_
  rintro e w2 ⟨rfl,hq⟩
  replace hB:=hB.trans ((hq.below w1.heap.size).mono hB.size)
  go_wp2
  go_ret
  exact⟨ret_bool (by rw [decide_eq_decide,stm_eq,E1.out];simp),hB⟩
 ·have d1:decide (x.fVars=y.fVars)=false:=by simp [e1]
  go_wp2
  go_ret
  exact⟨ret_bool (a:=false) (by symm;rw [decide_eq_false_iff_not,stm_eq];exact fun hh=>e1 hh.1),hB⟩
set_option maxRecDepth 100000 in
set_option maxHeartbeats 800000 in
theorem sEqualStreams_c (cs cs':List Value) (x y:StreamD) (w:World) (h:(rStream NB).rep w cs x) (h':(rStream NB).rep w cs' y) :
  Calls Tryz.prog 27 #[.agg cs.toArray,.agg cs'.toArray] w fun e w'=>e=.returned (.bool (decide (x=y)))/\Below w.heap.size w w':=by
 obtain⟨A1,n1,c1,A2,n2,c2,rfl,h1,h2⟩:=rStream_rep.1 h
 obtain⟨A3,n3,c3,A4,n4,c4,rfl,h3,h4⟩:=rStream_rep.1 h'
 clear h h'
 have hn2:=h2.bound
 have hn4:=h4.bound
 have hA:=(Below.refl w.heap.size w).alloc (Nat.le_refl _) (.cells #[.slice A1 n1 c1,.slice A2 n2 c2] 51)
 have hB:=hA.alloc (by simp) (.cells #[.slice A3 n3 c3,.slice A4 n4 c4] 51)
 have bx:=(Bx.new w [.slice A1 n1 c1,.slice A2 n2 c2] 51).below ((Below.refl _ _).alloc (Nat.le_refl _) (.cells #[.slice A3 n3 c3,.slice A4 n4 c4] 51))
 have by_:=Bx.new (w.alloc (.cells #[.slice A1 n1 c1,.slice A2 n2 c2] 51)) [.slice A3 n3 c3,.slice A4 n4 c4] 51
 simp only [World.size_alloc]at by_
 go_enter Tryz.func27,Tryz.ntmps27
 go_wp2_with fail
 refine(sCompareRows_c _ _ _ _ _ _ _ _ _ (h1.below rInt_ok hB) (h3.below rInt_ok hB)).mono ?_
 rintro e w1 ⟨rfl,hq⟩
 have hb1:=hq.below (World.heap ((w.alloc (.cells #[.slice A1 n1 c1,.slice A2 n2 c2] 51)).alloc (.cells #[.slice A3 n3 c3,.slice A4 n4 c4] 51))).size
 clear hq hA
 replace hB:=hB.trans (hb1.mono hB.size)
 replace bx:=bx.below hb1
 replace by_:=by_.below hb1
 clear hb1
 by_cases e1:x.fVars=y.fVars
 ·have d1:(cmpRows x.fVars y.fVars != 0)=false:=by simp [cmpRows_zero.2 e1]
  have E1:=Lib.hid e1;clear e1
  have b0:=bx 1 _ rfl
  have b1:=by_ 1 _ rfl
  by_cases hne:n2=n4
  ·subst hne
   go_wp2
   go_loopw [5] (fun i wr=>∃ k:Nat,k<=n2/\i=.int .i64 k/\x.fRows.take k=y.fRows.take k/\Below w.heap.size w wr/\Bx wr w.heap.size [.slice A1 n1 c1,.slice A2 n2 c2]/\Bx wr (w.heap.size+1) [.slice A3 n3 c3,.slice A4 n2 c4]) (fun i _=>n2 - (intOf i).toNat)
   case atStart=>exact⟨0,Nat.zero_le _,rfl,rfl,hB,bx,by_⟩
   case round =>
    clear b0 b1 bx by_ hB
    obtain⟨k,hk,rfl,heq,hB,bx,by_⟩:=hrel
    have HE:=Lib.hid heq;clear heq
    have b0:=bx 1 _ rfl
    have b1:=by_ 1 _ rfl
    by_cases hlt:k<n2
    ·obtain⟨b,off,r,Ar,nr,cr,rfl,hc,hrx,hxk⟩:=(h2.below (rSlice_ok _ _ rInt_ok) hB).row hlt
     obtain⟨b',off',r',Ar',nr',cr',rfl,hc',hrx',hxk'⟩:=(h4.below (rSlice_ok _ _ rInt_ok) hB).row hlt
     go_wp2_with fail
     go_still_tail 10,(by kernel_rfl)
     go_wp2_with fail
     refine(sCompareRows_c _ _ _ _ _ _ _ _ wr.drew (hrx.keep rInt_ok (fun _ _ h=>h)) (hrx'.keep rInt_ok (fun _ _ h=>h))).mono ?_
     rintro e w2 ⟨rfl,hq⟩
     have hb2:=hq.below wr.heap.size
     clear hq
     replace hB:=hB.drew.trans (hb2.mono hB.size)
     replace bx:=Bx.below (w:=wr.drew) bx hb2
     replace by_:=Bx.below (w:=wr.drew) by_ hb2
     by_cases hx:r=r'
     ·have hbb:(cmpRows r r' != 0)=false:=by simp [cmpRows_zero.2 hx]
      have HX:=Lib.hid hx;clear hx
      go_wp2
      go_roundw
      case rel=>exact⟨k+1,by omega,by go_num,take_eq_snoc HE.out hxk.out (HX.out▸hxk'.out),hB,bx,by_⟩
      case measure=>simp [intOf];omega
     ·have hbb:(cmpRows r r' != 0)=true:=by simp [cmpRows_zero,hx]
      go_wp2
      go_ret
      exact⟨ret_bool (a:=false) (by symm;rw [decide_eq_false_iff_not,stm_eq];exact fun hh=>ne_of_at hxk.out hxk'.out hx hh.2),hB⟩
    ·go_wp2
     go_ret
     have e2:x.fRows=y.fRows:=by rw [<- take_all h2.len hlt,<- take_all h4.len hlt];exact HE.out
     exact⟨ret_bool (a:=true) (by symm;rw [decide_eq_true_iff,stm_eq];exact⟨E1.out,e2⟩),hB⟩
  ·have hbb:((n2:Int) != (n4:Int))=true:=by simp;omega
   go_wp2
   go_ret
   exact⟨ret_bool (a:=false) (by symm;rw [decide_eq_false_iff_not,stm_eq];exact fun hh=>hne (by rw [<- h2.len,<- h4.len,hh.2])),hB⟩
 ·have d1:(cmpRows x.fVars y.fVars != 0)=true:=by simp [cmpRows_zero,e1]
  go_wp2
  go_ret
  exact⟨ret_bool (a:=false) (by symm;rw [decide_eq_false_iff_not,stm_eq];exact fun hh=>e1 hh.1),hB⟩
end Go.Proofs.YtiafklphblkpbaaGreat
