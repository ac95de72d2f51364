/-
  Notes
-/
import Derived.Test.YtadgmjdafkihfaaGreatTypes
import Derived.Test.YtadgmjdafkihfaaGreatSpace
import Derived.Test.YtadgmjdafkihfaaGreatLoc
import Derived.Deep.RegionHeld3
import Derived.Deep.DrawnRows
namespace Go.Proofs.YtadgmjdafkihfaaGreat
open Go.RowKit

theorem countP_snoc {α:Type}(p:α->Bool) {l:List α}{k:Nat}{x:α}(h:l[k]?=some x):(l.take (k+1)).countP p=(l.take k).countP p+if p x then 1 else 0:=by
 rw [take_snoc h,List.countP_append];simp [List.countP_cons]
theorem countP_take_le {α:Type}(p:α->Bool) (l:List α) (k:Nat):(l.take k).countP p<=k:=Nat.le_trans List.countP_le_length (by simp;omega)


theorem all_snocG {α:Type}{l:List α}{p:α->Bool}{k:Nat}{x:α}(h:(l.take k).all p=true) (hx:l[k]?=some x) (hp:p x=true):(l.take (k+1)).all p=true:=by
 rw [take_snoc hx,List.all_append,h];simp [hp]
end Go.Proofs.YtadgmjdafkihfaaGreat
namespace Go.Proofs.YtadgmjdafkihfaaGreat
open Go.RowKit
set_option linter.unusedVariables false

def countIn (x:SpaceD) (l:List Int) (p:Int->Bool):Nat:=if validSpace x then l.countP p else 0

set_option maxRecDepth 100000 in
set_option maxHeartbeats 1600000 in
theorem iCountWithin_c (cs:List Value) (x:SpaceD) (q:Int) (w:World) (h:(rSpace NB).rep w cs x) :
  Calls Tryz.prog 13 #[.agg cs.toArray,.int .i64 q] w fun e w'=>e=.returned (.int .i64 ((countIn x x.fCosts (fun c=>decide (c<=q)):Nat):Int))/\Below w.heap.size w w':=by
 have hrep:=h
 obtain⟨A1,n1,c1,A2,n2,c2,A3,n3,c3,A4,n4,c4,A5,n5,c5,rfl,h1,h2,h3,h4,h5⟩:=rSpace_rep.1 h
 clear h h1 h2 h5
 have hn3:=h3.bound
 have hn4:=h4.bound
 have hB:=(Below.refl w.heap.size w).alloc (Nat.le_refl _) (.cells #[.slice A1 n1 c1,.slice A2 n2 c2,.slice A3 n3 c3,.slice A4 n4 c4,.slice A5 n5 c5] 29)
 have bx:=Bx.new w [.slice A1 n1 c1,.slice A2 n2 c2,.slice A3 n3 c3,.slice A4 n4 c4,.slice A5 n5 c5] 29
 go_enter Tryz.func13,Tryz.ntmps13
 go_wp2_with fail
 refine(iIsValidSpace_c _ x _ ((rSpace_ok NB).keep hrep (cells_below hB))).mono ?_
 rintro e w1 ⟨rfl,hb1⟩
 replace hB:=hB.trans (hb1.mono hB.size)
 replace bx:=bx.below hb1
 clear hb1
 have bI:=bx 2 _ rfl
 cases hv:validSpace x
 ·go_wp2
  go_ret
  exact⟨ret_int (a:=0) (by simp [countIn,hv]),hB⟩
 have HV:=Lib.hid hv;clear hv
 go_wp2
 go_loopw [5,14] (fun c i wr=>∃ k m:Nat,k<=n3/\i=.int .i64 k/\c=.int .i64 m/\m<=k/\m=((x.fCosts.take k).countP (fun c=>decide (c<=q)):Nat)/\Below w.heap.size w wr) (fun _ i _=>n3 - (intOf i).toNat)
 case atStart=>exact⟨0,0,Nat.zero_le _,rfl,rfl,Nat.le_refl _,rfl,hB⟩
 case round =>
  clear hB bx bI
  obtain⟨k,m,hk,rfl,rfl,hmk,hm,hB⟩:=hrel
  have HM:=Lib.hid hm;clear hm
  by_cases hlt:k<n3
  ·obtain⟨b,off,y,rfl,hc,hI,hy⟩:=(h3.below rInt_ok hB).ati hlt
   have HS:=Lib.hid (countP_snoc (fun c=>decide (c<=q)) hy.out)
   by_cases hx:y<=q
   ·have d1:decide (y<=q)=true:=by simpa using hx
    go_wp2
    go_roundw
    case rel=>exact⟨k+1,m+1,by omega,by go_num,by go_num,by omega,by rw [HS.out,<- HM.out];simp [hx],hB⟩
    case measure=>simp [intOf];omega
   ·have d1:decide (y<=q)=false:=by simpa using hx
    go_wp2
    go_roundw
    case rel=>exact⟨k+1,m,by omega,by go_num,by go_num,by omega,by rw [HS.out,<- HM.out];simp [hx],hB⟩
    case measure=>simp [intOf];omega
  ·go_wp2
   go_ret
   exact⟨ret_int (by rw [HM.out,take_all h3.len hlt,countIn,HV.out];rfl),hB⟩
set_option maxRecDepth 100000 in
set_option maxHeartbeats 1600000 in
theorem iPlanShare_c (cs:List Value) (x:SpaceD) (q:Int) (w:World) (h:(rSpace NB).rep w cs x) :
  Calls Tryz.prog 43 #[.agg cs.toArray,.int .i64 q] w fun e w'=>e=.returned (.int .i64 ((countIn x x.fChoices (fun c=>c==q):Nat):Int))/\Below w.heap.size w w':=by
 have hrep:=h
 obtain⟨A1,n1,c1,A2,n2,c2,A3,n3,c3,A4,n4,c4,A5,n5,c5,rfl,h1,h2,h3,h4,h5⟩:=rSpace_rep.1 h
 clear h h1 h2 h5
 have hn3:=h3.bound
 have hn4:=h4.bound
 have hB:=(Below.refl w.heap.size w).alloc (Nat.le_refl _) (.cells #[.slice A1 n1 c1,.slice A2 n2 c2,.slice A3 n3 c3,.slice A4 n4 c4,.slice A5 n5 c5] 29)
 have bx:=Bx.new w [.slice A1 n1 c1,.slice A2 n2 c2,.slice A3 n3 c3,.slice A4 n4 c4,.slice A5 n5 c5] 29
 go_enter Tryz.func43,Tryz.ntmps43
 go_wp2_with fail
 refine(iIsValidSpace_c _ x _ ((rSpace_ok NB).keep hrep (cells_below hB))).mono ?_
 rintro e w1 ⟨rfl,hb1⟩
 replace hB:=hB.trans (hb1.mono hB.size)
 replace bx:=bx.below hb1
 clear hb1
 have bI:=bx 3 _ rfl
 cases hv:validSpace x
 ·go_wp2
  go_ret
  exact⟨ret_int (a:=0) (by simp [countIn,hv]),hB⟩
 have HV:=Lib.hid hv;clear hv
 go_wp2
 go_loopw [5,14] (fun c i wr=>∃ k m:Nat,k<=n4/\i=.int .i64 k/\c=.int .i64 m/\m<=k/\m=((x.fChoices.take k).countP (fun c=>c==q):Nat)/\Below w.heap.size w wr) (fun _ i _=>n4 - (intOf i).toNat)
 case atStart=>exact⟨0,0,Nat.zero_le _,rfl,rfl,Nat.le_refl _,rfl,hB⟩
 case round =>
  clear hB bx bI
  obtain⟨k,m,hk,rfl,rfl,hmk,hm,hB⟩:=hrel
  have HM:=Lib.hid hm;clear hm
  by_cases hlt:k<n4
  ·obtain⟨b,off,y,rfl,hc,hI,hy⟩:=(h4.below rInt_ok hB).ati hlt
   have HS:=Lib.hid (countP_snoc (fun c=>c==q) hy.out)
   by_cases hx:y=q
   ·have d1:(y==q)=true:=by simp [hx]
    have HX:=Lib.hid hx;clear hx
    go_wp2
    go_roundw
    case rel=>exact⟨k+1,m+1,by omega,by go_num,by go_num,by omega,by rw [HS.out,<- HM.out];simp [HX.out],hB⟩
    case measure=>simp [intOf];omega
   ·have d1:(y==q)=false:=by simp [hx]
    go_wp2
    go_roundw
    case rel=>exact⟨k+1,m,by omega,by go_num,by go_num,by omega,by rw [HS.out,<- HM.out];simp [hx],hB⟩
    case measure=>simp [intOf];omega
  ·go_wp2
   go_ret
   exact⟨ret_int (by rw [HM.out,take_all h4.len hlt,countIn,HV.out];rfl),hB⟩
set_option maxRecDepth 100000 in
set_option maxHeartbeats 1600000 in
theorem sCountWithin_c (cs:List Value) (x:SpaceD) (q:Int) (w:World) (h:(rSpace NB).rep w cs x) :
  Calls Tryz.prog 14 #[.agg cs.toArray,.int .i64 q] w fun e w'=>e=.returned (.int .i64 ((countIn x x.fCosts (fun c=>decide (c<=q)):Nat):Int))/\Below w.heap.size w w':=by
 have hrep:=h
 obtain⟨A1,n1,c1,A2,n2,c2,A3,n3,c3,A4,n4,c4,A5,n5,c5,rfl,h1,h2,h3,h4,h5⟩:=rSpace_rep.1 h
 clear h h1 h2 h5
 have hn3:=h3.bound
 have hn4:=h4.bound
 have hB:=(Below.refl w.heap.size w).alloc (Nat.le_refl _) (.cells #[.slice A1 n1 c1,.slice A2 n2 c2,.slice A3 n3 c3,.slice A4 n4 c4,.slice A5 n5 c5] 29)
 have bx:=Bx.new w [.slice A1 n1 c1,.slice A2 n2 c2,.slice A3 n3 c3,.slice A4 n4 c4,.slice A5 n5 c5] 29
 go_enter Tryz.func14,Tryz.ntmps14
 go_wp2
 go_loopw [5,6] (fun c i wr=>∃ k m:Nat,k<=n3/\(0<k->validSpace x=true)/\i=.int .i64 k/\c=.int .i64 m/\m<=k/\m=((x.fCosts.take k).countP (fun c=>decide (c<=q)):Nat)/\Below w.heap.size w wr/\Bx wr w.heap.size [.slice A1 n1 c1,.slice A2 n2 c2,.slice A3 n3 c3,.slice A4 n4 c4,.slice A5 n5 c5]) (fun _ i _=>n3 - (intOf i).toNat)
 case atStart=>exact⟨0,0,Nat.zero_le _,by omega,rfl,rfl,Nat.le_refl _,rfl,hB,bx⟩
 case round =>
  clear hB bx
  obtain⟨k,m,hk,hkv,rfl,rfl,hmk,hm,hB,bx⟩:=hrel
  have HM:=Lib.hid hm;clear hm
  have HK:=Lib.hid hkv;clear hkv
  have z0:=bx 0 _ rfl
  have z1:=bx 1 _ rfl
  have z2:=bx 2 _ rfl
  have z3:=bx 3 _ rfl
  have z4:=bx 4 _ rfl
  by_cases hlt:k<n3
  ·obtain⟨b,off,y,rfl,hc,hI,hy⟩:=(h3.below rInt_ok hB).ati hlt
   have HS:=Lib.hid (countP_snoc (fun c=>decide (c<=q)) hy.out)
   have dk:decide (k<n3)=true:=by simp [hlt]
   go_wp2_with fail
   refine(sIsValidSpace_c _ x _ ((rSpace_ok NB).keep hrep (cells_below hB))).mono ?_
   rintro e w1 ⟨rfl,hb1⟩
   replace hB:=hB.trans (hb1.mono hB.size)
   replace bx:=bx.below hb1
   replace hc:=cells_below hb1 _ _ hc
   clear hb1 z0 z1 z2 z3 z4
   have bI:=bx 2 _ rfl
   cases hv:validSpace x
   ·go_wp2
    go_ret
    have hk0:k=0:=by rcases Nat.eq_zero_or_pos k with h0|h0;exact h0;rw [HK.out h0]at hv;cases hv
    exact⟨ret_int (by rw [HM.out,hk0,countIn,hv];simp),hB⟩
   have HV:=Lib.hid hv;clear hv
   by_cases hx:y<=q
   ·have d1:decide (y<=q)=true:=by simpa using hx
    go_wp2
    go_roundw
    case rel=>exact⟨k+1,m+1,by omega,fun _=>HV.out,by go_num,by go_num,by omega,by rw [HS.out,<- HM.out];simp [hx],hB,bx⟩
    case measure=>simp [intOf];omega
   ·have d1:decide (y<=q)=false:=by simpa using hx
    go_wp2
    go_roundw
    case rel=>exact⟨k+1,m,by omega,fun _=>HV.out,by go_num,by go_num,by omega,by rw [HS.out,<- HM.out];simp [hx],hB,bx⟩
    case measure=>simp [intOf];omega
  ·have dk:decide (k<n3)=false:=by simp;omega
   go_wp2
   go_ret
   refine⟨ret_int ?_,hB⟩
   rw [HM.out,take_all h3.len (by omega)]
   cases hv:validSpace x
   ·have hk0:k=0:=by rcases Nat.eq_zero_or_pos k with h0|h0;exact h0;rw [HK.out h0]at hv;cases hv
    have:x.fCosts=[]:=List.eq_nil_of_length_eq_zero (by rw [h3.len];omega)
    rw [countIn,hv,this];simp
   ·rw [countIn,hv];rfl
end Go.Proofs.YtadgmjdafkihfaaGreat
namespace Go.Proofs.YtadgmjdafkihfaaGreat
open Go.RowKit
set_option linter.unusedVariables false

def fpStep (ch:List Int) (out:List Int) (k:Int):List Int:=if inR k 0 ((ch.length:Int) - 1) then (if hasI out ((ch[k.toNat]?).getD 0) then out else out++[(ch[k.toNat]?).getD 0]) else out
def fpFold (ch f:List Int):List Int:=f.foldl (fpStep ch) []
theorem fpFold_snoc {ch f:List Int}{k:Nat}{x:Int}(h:f[k]?=some x):fpFold ch (f.take (k+1))=fpStep ch (fpFold ch (f.take k)) x:=by
 unfold fpFold;rw [take_snoc h,List.foldl_append];rfl
theorem fpFold_len (ch f:List Int):(fpFold ch f).length<=f.length:=by
 unfold fpFold
 suffices ∀ out:List Int,(f.foldl (fpStep ch) out).length<=out.length+f.length by simpa using this []
 induction f with
 | nil=>intro out;simp
 | cons x f ih =>
  intro out
  refine Nat.le_trans (ih _) ?_
  have:(fpStep ch out x).length<=out.length+1:=by unfold fpStep;split;split<;>simp;simp
  simp only [List.length_cons];omega
def frontierPlans (s:SpaceD) (f:List Int):List Int:=if validSpace s then fpFold s.fChoices f else []
set_option maxRecDepth 100000 in
set_option maxHeartbeats 1600000 in
theorem iFrontierPlans_c (csx:List Value) (x:SpaceD) (Af:Option Addr) (nf cf:Nat) (f:List Int) (w:World) (hx:(rSpace NB).rep w csx x) (hf:RS NB rInt w Af nf cf f) :
  Calls Tryz.prog 16 #[.agg csx.toArray,.slice Af nf cf] w (RetS 3 rInt (frontierPlans x f) w):=by
 have rx:=hx
 obtain⟨AxBoxLow,nxBoxLow,cxBoxLow,AxBoxHigh,nxBoxHigh,cxBoxHigh,AxCosts,nxCosts,cxCosts,AxChoices,nxChoices,cxChoices,AxPlans,nxPlans,cxPlans,rfl,hxBoxLow,hxBoxHigh,hxCosts,hxChoices,hxPlans⟩:=rSpace_rep.1 hx
 clear hx
 have hB:Below w.heap.size w w:=Below.refl _ _
 have hAx:=(Below.refl (World.heap (w)).size (w)).alloc (Nat.le_refl _) (.cells #[.slice AxBoxLow nxBoxLow cxBoxLow,.slice AxBoxHigh nxBoxHigh cxBoxHigh,.slice AxCosts nxCosts cxCosts,.slice AxChoices nxChoices cxChoices,.slice AxPlans nxPlans cxPlans] 29)
 replace hB:=hB.trans (hAx.mono hB.size)
 have bxx:=Bx.new (w) [.slice AxBoxLow nxBoxLow cxBoxLow,.slice AxBoxHigh nxBoxHigh cxBoxHigh,.slice AxCosts nxCosts cxCosts,.slice AxChoices nxChoices cxChoices,.slice AxPlans nxPlans cxPlans] 29
 clear hAx
 have hnf:=hf.bound
 have hn4:=hxChoices.bound
 have HL:=Lib.hid hxChoices.len
 go_enter Tryz.func16,Tryz.ntmps16
 go_wp2_with fail
 refine(iIsValidSpace_c _ x _ ((rSpace_ok NB).keep rx (cells_below hB))).mono ?_
 rintro e w1 ⟨rfl,hb1⟩
 replace hB:=hB.trans (hb1.mono hB.size)
 replace bxx:=bxx.below hb1
 clear hb1
 cases e1:validSpace x
 ·go_wp2
  go_ret
  exact⟨_,_,_,rfl,by simp only [frontierPlans,e1];exact MS.nil _ (Nat.zero_le _),hB⟩
 have HV:=Lib.hid e1;clear e1
 have HF:Hid (frontierPlans x f=fpFold x.fChoices f):=by show frontierPlans x f=_;simp [frontierPlans,HV.out]
 go_wp2
 go_loopw [5,14] (fun v i wr=>∃ (k n c:Nat) (A:Option Addr),k<=nf/\n<=k/\i=.int .i64 k/\v=.slice A n c/\MS w1.heap.size NB 3 rInt wr A n c (fpFold x.fChoices (f.take k))/\Below w1.heap.size w1 wr) (fun _ i _=>nf - (intOf i).toNat)
 case atStart=>exact⟨0,0,0,_,Nat.zero_le _,Nat.le_refl _,rfl,rfl,MS.empty _ (Nat.le_refl _),(Below.refl _ _).alloc (Nat.le_refl _) _⟩
 case round =>
  obtain⟨k,n,c,A,hk,hnk,rfl,rfl,hM,hE⟩:=hrel
  have hB2:=hB.trans (hE.mono hB.size)
  have hRo:=hM.rs rInt_ok
  have kx_3:=bxx.below hE 3 _ rfl
  by_cases hlt:k<nf
  ·obtain⟨b,off,y,rfl,hc,hI,hy⟩:=(hf.below rInt_ok hB2).ati hlt
   have HS:=Lib.hid (fpFold_snoc (ch:=x.fChoices) hy.out)
   have m1:IntKind.i64.wrap ((nxChoices:Int) - 1)=(nxChoices:Int) - 1:=IntWalk.i64_in _ (by omega)
   cases g1:inR y 0 ((nxChoices:Int) - 1)
   ·have G1:=Lib.hid g1
    go_wp2_with (go_at_call 62;refine(within_c _ _ _ _).mono ?_;rintro e w' ⟨rfl,rfl⟩)
    go_roundw
    case rel=>exact⟨k+1,n,c,_,by omega,by omega,by go_num,rfl,by rw [HS.out,fpStep,HL.out,G1.out];exact hM,hE⟩
    case measure=>simp [intOf];omega
   have g1':=inR_t.1 g1
   obtain⟨j,rfl⟩:∃ j:Nat,y=j:=⟨y.toNat,by omega⟩
   have hj:j<nxChoices:=by omega
   obtain⟨b2,off2,z,rfl,hc2,hI2,hz⟩:=(hxChoices.below rInt_ok hB2).ati hj
   have HS2:Hid (fpFold x.fChoices (f.take (k+1))=if hasI (fpFold x.fChoices (f.take k)) z then fpFold x.fChoices (f.take k) else fpFold x.fChoices (f.take k)++[z]):=by
    show _=_
    rw [HS.out,fpStep,HL.out,g1];simp only [Int.toNat_natCast,hz.out,Option.getD_some,if_true]
   clear HS
   cases g2:hasI (fpFold x.fChoices (f.take k)) z
   ·have G2:=Lib.hid g2
    go_wp2_with (first|(go_at_call 62;refine(within_c _ _ _ _).mono ?_;rintro e w' ⟨rfl,rfl⟩)|(go_at_call 63;refine(slicesContains_q _ _ _ _ _ _ hRo).mono ?_;rintro e w' ⟨rfl,rfl⟩)|(at_builtin;refine wpList_app (r:=rInt) rfl _ _ 24 rfl _ 8 eiInt rInt_ok rfl hM ((Below.refl _ _).alloc (Nat.le_refl _) _) hE.size ⟨w'.heap.size,0,none⟩ rfl [] [.int .i64 z] z ⟨rfl,rfl,hI2⟩ (Fr.nil _) (cell_one_new _ _ _) (by unfold NB;omega) (Nat.le_refl _) (by omega) ?_;intro A2 k2 w2 hM2 hb2 hg2))
    go_roundw
    case rel=>exact⟨k+1,n+1,k2,_,by omega,by omega,by go_num,rfl,by rw [HS2.out,G2.out];exact hM2,(hE.alloc hE.size _).trans hb2⟩
    case measure=>simp [intOf];omega
   ·have G2:=Lib.hid g2
    go_wp2_with (first|(go_at_call 62;refine(within_c _ _ _ _).mono ?_;rintro e w' ⟨rfl,rfl⟩)|(go_at_call 63;refine(slicesContains_q _ _ _ _ _ _ hRo).mono ?_;rintro e w' ⟨rfl,rfl⟩))
    go_roundw
    case rel=>exact⟨k+1,n,c,_,by omega,by omega,by go_num,rfl,by rw [HS2.out,G2.out];exact hM,hE⟩
    case measure=>simp [intOf];omega
  ·go_wp2
   go_ret
   exact⟨_,_,_,rfl,by rw [HF.out,<- take_all hf.len hlt];exact hM.base hB.size,hB2⟩
set_option maxRecDepth 100000 in
set_option maxHeartbeats 1600000 in
theorem sFrontierPlans_c (csx:List Value) (x:SpaceD) (Af:Option Addr) (nf cf:Nat) (f:List Int) (w:World) (hx:(rSpace NB).rep w csx x) (hf:RS NB rInt w Af nf cf f) :
  Calls Tryz.prog 17 #[.agg csx.toArray,.slice Af nf cf] w (RetS 3 rInt (frontierPlans x f) w):=by
 have rx:=hx
 obtain⟨AxBoxLow,nxBoxLow,cxBoxLow,AxBoxHigh,nxBoxHigh,cxBoxHigh,AxCosts,nxCosts,cxCosts,AxChoices,nxChoices,cxChoices,AxPlans,nxPlans,cxPlans,rfl,hxBoxLow,hxBoxHigh,hxCosts,hxChoices,hxPlans⟩:=rSpace_rep.1 hx
 clear hx
 have hB:Below w.heap.size w w:=Below.refl _ _
 have hAx:=(Below.refl (World.heap (w)).size (w)).alloc (Nat.le_refl _) (.cells #[.slice AxBoxLow nxBoxLow cxBoxLow,.slice AxBoxHigh nxBoxHigh cxBoxHigh,.slice AxCosts nxCosts cxCosts,.slice AxChoices nxChoices cxChoices,.slice AxPlans nxPlans cxPlans] 29)
 replace hB:=hB.trans (hAx.mono hB.size)
 have bxx:=Bx.new (w) [.slice AxBoxLow nxBoxLow cxBoxLow,.slice AxBoxHigh nxBoxHigh cxBoxHigh,.slice AxCosts nxCosts cxCosts,.slice AxChoices nxChoices cxChoices,.slice AxPlans nxPlans cxPlans] 29
 clear hAx
 have hnf:=hf.bound
 have hn4:=hxChoices.bound
 have HL:=Lib.hid hxChoices.len
 obtain⟨w0,hw0⟩:∃ w0,w0=w.alloc (.cells #[.slice AxBoxLow nxBoxLow cxBoxLow,.slice AxBoxHigh nxBoxHigh cxBoxHigh,.slice AxCosts nxCosts cxCosts,.slice AxChoices nxChoices cxChoices,.slice AxPlans nxPlans cxPlans] 29):=⟨_,rfl⟩
 rw [<- hw0]at hB bxx
 have hz0:w0.heap.size=w.heap.size+1:=by rw [hw0];simp
 have HW:=Lib.hid hw0;clear hw0
 go_enter Tryz.func17,Tryz.ntmps17
 go_wp2
 go_loopw [5,6] (fun v i wr=>∃ (k n c:Nat) (A:Option Addr),k<=nf/\n<=k/\i=.int .i64 k/\v=.slice A n c/\(0<k->validSpace x=true)/\MS w0.heap.size NB 3 rInt wr A n c (fpFold x.fChoices (f.take k))/\Below w0.heap.size w0 wr) (fun _ i _=>nf - (intOf i).toNat)
 case atStart=>exact⟨0,0,0,_,Nat.zero_le _,Nat.le_refl _,rfl,rfl,by omega,by have:=MS.empty (B:=w0.heap.size) (M:=NB) (e:=3) (r:=rInt) w0 (Nat.le_refl _);rw [HW.out]at this ⊢;simpa [fpFold]using this,by rw [HW.out];exact(Below.refl _ _).alloc (Nat.le_refl _) _⟩
 case round =>
  obtain⟨k,n,c,A,hk,hnk,rfl,rfl,hkv,hM,hE⟩:=hrel
  have HK:=Lib.hid hkv;clear hkv
  have hB2:=hB.trans (hE.mono hB.size)
  have kx_0:=bxx.below hE 0 _ rfl
  have kx_1:=bxx.below hE 1 _ rfl
  have kx_2:=bxx.below hE 2 _ rfl
  have kx_3:=bxx.below hE 3 _ rfl
  have kx_4:=bxx.below hE 4 _ rfl
  by_cases hlt:k<nf
  ·have dk:decide (k<nf)=true:=by simp [hlt]
   obtain⟨b,off,y,rfl,hc,hI,hy⟩:=(hf.below rInt_ok hB2).ati hlt
   have HS:=Lib.hid (fpFold_snoc (ch:=x.fChoices) hy.out)
   go_wp2_with fail
   refine(sIsValidSpace_c _ x _ ((rSpace_ok NB).keep rx (cells_below hB2))).mono ?_
   rintro e w1 ⟨rfl,hb1⟩
   replace hE:=hE.trans (hb1.mono hE.size)
   replace hM:=hM.below rInt_ok hb1
   replace hc:=cells_below hb1 _ _ hc
   clear hB2 hb1 kx_0 kx_1 kx_2 kx_3 kx_4
   have hB2:=hB.trans (hE.mono hB.size)
   have kx_3:=bxx.below hE 3 _ rfl
   have hRo:=hM.rs rInt_ok
   cases hv:validSpace x
   ·go_wp2
    go_ret
    have hk0:k=0:=by rcases Nat.eq_zero_or_pos k with h0|h0;exact h0;rw [HK.out h0]at hv;cases hv
    refine⟨_,_,_,rfl,?_,hB2⟩
    subst hk0
    have h2:=hM.base hB.size
    simp only [frontierPlans,hv]
    exact h2
   have HV:=Lib.hid hv;clear hv
   have m1:IntKind.i64.wrap ((nxChoices:Int) - 1)=(nxChoices:Int) - 1:=IntWalk.i64_in _ (by omega)
   cases g1:inR y 0 ((nxChoices:Int) - 1)
   ·have G1:=Lib.hid g1;
    have K1:=Lib.hid (fun W=>l1In_v g1 W);clear g1
    go_wp2
    go_quiet ((go_at_call_of 61 (Value.int IntKind.i64 y);exact Calls.quiet_of_same (K1.out _)))
    clear m1
    go_wp2
    go_roundw
    case rel=>exact⟨k+1,n,c,_,by omega,by omega,by go_num,rfl,fun _=>HV.out,by rw [HS.out,fpStep,HL.out,G1.out];exact hM.below rInt_ok (below_drewN (Below.refl _ _) _),below_drewN hE _⟩
    case measure=>simp [intOf];omega
   have g1':=inR_t.1 g1
   obtain⟨j,rfl⟩:∃ j:Nat,y=j:=⟨y.toNat,by omega⟩
   have hj:j<nxChoices:=by omega
   obtain⟨b2,off2,z,rfl,hc2,hI2,hz⟩:=(hxChoices.below rInt_ok hB2).ati hj
   have HS2:Hid (fpFold x.fChoices (f.take (k+1))=if hasI (fpFold x.fChoices (f.take k)) z then fpFold x.fChoices (f.take k) else fpFold x.fChoices (f.take k)++[z]):=by
    show _=_
    rw [HS.out,fpStep,HL.out,g1];simp only [Int.toNat_natCast,hz.out,Option.getD_some,if_true]
   clear HS
   have K1:=Lib.hid (fun W=>l1In_v g1 W);clear g1
   have hjI:(j:Int)<(nxChoices:Int):=by omega
   cases g2:hasI (fpFold x.fChoices (f.take k)) z
   ·have G2:=Lib.hid g2
    go_wp2
    go_quiet (first|(go_at_call_of 61 (Value.int IntKind.i64 (j:Int));exact Calls.quiet_of_same (K1.out _))|(go_at_call 64;exact Calls.quiet_of_same (l7Has_v G2.out (hRo.drewN rInt_ok _))))
    clear m1
    go_wp2
    obtain⟨wq,hwq⟩:∃ wq,wq=w1.drewN nq:=⟨_,rfl⟩
    rw [<- hwq]
    have hEq:Below w0.heap.size w0 wq:=by rw [hwq];exact below_drewN hE _
    have hMq:MS w0.heap.size NB 3 rInt wq A n c (fpFold x.fChoices (f.take k)):=by rw [hwq];exact hM.below rInt_ok (below_drewN (Below.refl _ _) _)
    clear hwq
    have SS:∀ w',Below w0.heap.size w0 w'->w'.cell? ⟨w.heap.size,3,none⟩=some (.slice (some ⟨b2,off2,none⟩) nxChoices cxChoices)/\w'.cell? ⟨b,off+k,none⟩=some (.int .i64 j)/\w'.cell? ⟨b2,off2+j,none⟩=some (.int .i64 z):=by
     intro w' hb
     have hbb:=hB.trans (hb.mono hB.size)
     refine⟨bxx.below hb 3 _ rfl,?_,?_⟩
     ·obtain⟨_,_,y',e1,c1,_,q1⟩:=(hf.below rInt_ok hbb).ati hlt
      injection e1 with e1;injection e1 with e1 e2;subst e1;subst e2
      have:y'=j:=by have:=q1.out;rw [hy.out]at this;injection this with this;exact this.symm
      rw [c1,this]
     ·obtain⟨_,_,y',e1,c1,_,q1⟩:=(hxChoices.below rInt_ok hbb).ati hj
      injection e1 with e1;injection e1 with e1 e2;subst e1;subst e2
      have:y'=z:=by have:=q1.out;rw [hz.out]at this;injection this with this;exact this.symm
      rw [c1,this]
    have HSS:=Lib.hid SS;clear SS
    have hj0:(0:Int)<=(j:Int):=by omega
    go_region_held3 (fun w'=>w'.cell? ⟨w.heap.size,3,none⟩=some (.slice (some ⟨b2,off2,none⟩) nxChoices cxChoices)/\w'.cell? ⟨b,off+k,none⟩=some (.int .i64 j)/\w'.cell? ⟨b2,off2+j,none⟩=some (.int .i64 z)) (first|exact HSS.out _ hEq.drew|exact HSS.out _ (hEq.drew.alloc hEq.size _)|exact HSS.out _ ((hEq.drew.alloc hEq.size _).trans (by assumption))) ((refine step_appf (r:=rInt) (by rfl) _ _ 24 (by rfl) _ 8 eiInt rInt_ok rInt_flat (by rfl) hMq (((Below.refl _ _).drew).alloc (Nat.le_refl _) _) hEq.size (by rfl) (RS.one1 1 (Nat.le_refl _) wq.drew z _ hI2) (by unfold NB;omega) (Nat.le_refl _) (by omega) ?_;intro A2 k2 w2 hM2 hb2 hg2))
    go_wp2
    go_roundw
    case rel=>exact⟨k+1,n+1,k2,_,by omega,by omega,by go_num,rfl,fun _=>HV.out,by rw [HS2.out,G2.out];exact hM2,(hEq.drew.alloc hEq.size _).trans hb2⟩
    case measure=>simp [intOf];omega
   ·have G2:=Lib.hid g2
    go_wp2
    go_quiet (first|(go_at_call_of 61 (Value.int IntKind.i64 (j:Int));exact Calls.quiet_of_same (K1.out _))|(go_at_call 64;exact Calls.quiet_of_same (l7Has_v G2.out (hRo.drewN rInt_ok _))))
    clear m1
    go_wp2
    go_roundw
    case rel=>exact⟨k+1,n,c,_,by omega,by omega,by go_num,rfl,fun _=>HV.out,by rw [HS2.out,G2.out];exact hM.below rInt_ok (below_drewN (Below.refl _ _) _),below_drewN hE _⟩
    case measure=>simp [intOf];omega
  ·have dk:decide (k<nf)=false:=by simp;omega
   go_wp2
   go_ret
   refine⟨_,_,_,rfl,?_,hB2⟩
   have h2:=hM.base hB.size
   rw [take_all hf.len (by omega)]at h2
   cases hv:validSpace x
   ·have hk0:k=0:=by rcases Nat.eq_zero_or_pos k with h0|h0;exact h0;rw [HK.out h0]at hv;cases hv
    have:f=[]:=List.eq_nil_of_length_eq_zero (by rw [hf.len];omega)
    subst this
    simp only [frontierPlans,hv]
    exact h2
   ·simp only [frontierPlans,hv,if_true];exact h2
end Go.Proofs.YtadgmjdafkihfaaGreat
