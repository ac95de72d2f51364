/-
  Spc
-/
import Derived.Test.YtcfmidbioecdcaaGreatSpace
import Derived.Test.YtcfmidbioecdcaaGreatBox
namespace Go.Proofs.YtcfmidbioecdcaaGreat
open Go.RowKit
set_option linter.unusedVariables false

theorem validSpace_parts {x:SpaceD}(h:validSpace x=true):validBox x.fBox=true/\1<=volume x.fBox/\volume x.fBox<=400/\(x.fCosts.length:Int)=volume x.fBox/\(x.fChoices.length:Int)=volume x.fBox /\
  (∀ (k:Nat) (c:Int),x.fCosts[k]?=some c->1<=c/\c<=1000000000000)/\∀ (k:Nat) (c:Int),x.fChoices[k]?=some c->0<=c/\c<x.fPlans.length:=by
 unfold validSpace at h
 simp only [Bool.and_eq_true,decide_eq_true_eq,List.all_eq_true]at h
 obtain⟨h1,h2,h3,h4⟩:=h
 have h1:=inR_t.1 h1
 have hv:validBox x.fBox=true:=by
  cases hv:validBox x.fBox
  ·simp [boxVol,hv]at h1
  ·rfl
 have hb:boxVol x.fBox=volume x.fBox:=by
  have:boxVol x.fBox=min (volume x.fBox) 401:=by simp [boxVol,hv]
  omega
 rw [hb]at h1 h2 h3
 refine⟨hv,h1.1,h1.2,h2,h3,fun k c hk=>?_,fun k c hk=>?_⟩
 ·have hl:=lt_of_at hk
  have hz:x.fChoices[k]?=some (x.fChoices[k]'(by omega)):=List.getElem?_eq_getElem (by omega)
  have:=h4 _ (mem_of_at (zipAt hk hz))
  simp only [okPair,Bool.and_eq_true]at this
  exact inR_t.1 this.1
 ·have hl:=lt_of_at hk
  have hz:x.fCosts[k]?=some (x.fCosts[k]'(by omega)):=List.getElem?_eq_getElem (by omega)
  have:=h4 _ (mem_of_at (zipAt hz hk))
  simp only [okPair,Bool.and_eq_true]at this
  have:=inR_t.1 this.2
  exact⟨this.1,by have:=this.2;omega⟩
def spaceIdx (x:SpaceD) (l:List Int):Int:=if validSpace x then boxIndex x.fBox l else -1
def spaceCost (x:SpaceD) (l:List Int):Int:=if 0<=spaceIdx x l then (x.fCosts[(spaceIdx x l).toNat]?).getD 0 else -1
theorem idx_take_bd {x:BoxD}{l:List Int}(h:inBox x l=true) (k:Nat) (hk:k<=l.length):0<=idxF ((idxSteps x l).take k)/\idxF ((idxSteps x l).take k)<prod ((widths x).take k):=by
 induction k with
 | zero=>simp [idxF,prod]
 | succ k ih =>
  obtain⟨h0,h1⟩:=ih (by omega)
  obtain⟨g1,g2,g3,g4,g5⟩:=inBox_parts h
  have ha:l[k]?=some (l[k]'(by omega)):=List.getElem?_eq_getElem (by omega)
  have hy:x.fLow[k]?=some (x.fLow[k]'(by omega)):=List.getElem?_eq_getElem (by omega)
  have hz:x.fHigh[k]?=some (x.fHigh[k]'(by omega)):=List.getElem?_eq_getElem (by omega)
  rw [idxF_snoc (idxSteps_at ha hy hz),prod_snoc (widths_at hz hy)]
  have hw:=width_bd g1 hz hy
  have q1:=g4 k _ _ ha hy
  have q2:=g5 k _ _ hz ha
  exact idx_bd h0 h1 hw.1 (by omega) (by simp only;omega)
theorem boxIndex_lt {x:BoxD}{l:List Int}:-1<=boxIndex x l/\(0<=boxIndex x l->inBox x l=true)/\(0<=boxIndex x l->boxIndex x l<volume x):=by
 cases h:inBox x l
 ·simp [boxIndex,h]
 ·obtain⟨h1,h2⟩:=idx_take_bd h l.length (Nat.le_refl _)
  rw [List.take_of_length_le (by rw [idxSteps_len h];exact Nat.le_refl _),List.take_of_length_le (by rw [widths_len (inBox_parts h).1,(inBox_parts h).2.1];exact Nat.le_refl _)]at h2
  rw [List.take_of_length_le (by rw [idxSteps_len h];exact Nat.le_refl _)]at h1
  simp only [boxIndex,h,if_true]
  exact⟨by omega,fun _=>trivial,fun _=>h2⟩
theorem spaceIdx_at {x:SpaceD}{l:List Int}(h:0<=spaceIdx x l):validSpace x=true/\∃ k:Nat,spaceIdx x l=k/\k<x.fCosts.length/\k<x.fChoices.length:=by
 cases hv:validSpace x
 ·simp [spaceIdx,hv]at h
 ·have e:spaceIdx x l=boxIndex x.fBox l:=by simp [spaceIdx,hv]
  rw [e]at h ⊢
  obtain⟨_,_,_,g4,g5,_⟩:=validSpace_parts hv
  have:=boxIndex_lt.2.2 h
  exact⟨rfl,(boxIndex x.fBox l).toNat,by omega,by omega,by omega⟩

/-! ### the least and the greatest -/
def minOf:List Int->Int
 | []=>0
 | c::cs=>cs.foldl min c
def maxOf:List Int->Int
 | []=>0
 | c::cs=>cs.foldl max c
theorem minOf_eq {l:List Int}{c:Int}(h:l[0]?=some c):minOf l=l.foldl min c:=by
 cases l with
 | nil=>simp at h
 | cons a l=>simp at h;subst h;simp [minOf]
theorem maxOf_eq {l:List Int}{c:Int}(h:l[0]?=some c):maxOf l=l.foldl max c:=by
 cases l with
 | nil=>simp at h
 | cons a l=>simp at h;subst h;simp [maxOf]
theorem fold_snoc (f:Int->Int->Int) (c:Int) {l:List Int}{k:Nat}{x:Int}(h:l[k]?=some x):(l.take (k+1)).foldl f c=f ((l.take k).foldl f c) x:=by
 rw [take_snoc h,List.foldl_append];rfl
theorem take1 {l:List Int}{c:Int}(f:Int->Int->Int) (hf:f c c=c) (h:l[0]?=some c):(l.take 1).foldl f c=c:=by
 cases l with
 | nil=>simp at h
 | cons a l=>simp at h;subst h;simpa using hf

set_option maxHeartbeats 800000 in
theorem slicesMin_c (A:Option Addr) (n cap:Nat) (l:List Int) (w:World) (hr:RS NB rInt w A n cap l) (hn0:0<n) :
  Calls Tryz.prog 84 #[.slice A n cap] w fun e w'=>e=.returned (.int .i64 (minOf l))/\w'=w:=by
 have hn:=hr.bound
 obtain⟨b0,off0,c0,rfl,hc0,hI0,h00⟩:=hr.ati hn0
 have HM:=Lib.hid (minOf_eq h00.out)
 have hc0':w.cell? ⟨b0,off0,none⟩=some (.int .i64 c0):=by simpa using hc0
 go_enter Tryz.func84,Tryz.ntmps84
 go_wp2
 go_loop [3,4] (fun v i=>∃ (k:Nat) (m:Int),1<=k/\k<=n/\i=.int .i64 k/\v=.int .i64 m/\m=(l.take k).foldl min c0) (fun _ i=>n - (intOf i).toNat)
 case atStart=>exact⟨1,c0,Nat.le_refl _,by omega,rfl,rfl,(take1 min (by omega) h00.out).symm⟩
 case round =>
  obtain⟨k,m,hk1,hk,rfl,rfl,hm⟩:=hrel
  have HK:=Lib.hid hm;clear hm
  by_cases hlt:k<n
  ·obtain⟨b,off,x,e1,hc,hI,hx⟩:=hr.ati hlt
   injection e1 with e1;injection e1 with e1 e2;subst e1;subst e2
   have HS:=Lib.hid (fold_snoc min c0 hx.out)
   by_cases hlt2:x<m
   ·have dm:decide (x<m)=true:=by simpa using hlt2
    go_wp2
    go_round
    case rel=>exact⟨k+1,x,by omega,by omega,by go_num,rfl,by rw [HS.out,<- HK.out];omega⟩
    case measure=>simp [intOf];omega
   ·have dm:decide (x<m)=false:=by simpa using hlt2
    go_wp2
    go_round
    case rel=>exact⟨k+1,m,by omega,by omega,by go_num,rfl,by rw [HS.out,<- HK.out];omega⟩
    case measure=>simp [intOf];omega
  ·go_wp2
   go_ret
   exact⟨ret_int (by rw [HM.out,HK.out,take_all hr.len (by omega)]),rfl⟩
set_option maxHeartbeats 800000 in
theorem slicesMax_c (A:Option Addr) (n cap:Nat) (l:List Int) (w:World) (hr:RS NB rInt w A n cap l) (hn0:0<n) :
  Calls Tryz.prog 85 #[.slice A n cap] w fun e w'=>e=.returned (.int .i64 (maxOf l))/\w'=w:=by
 have hn:=hr.bound
 obtain⟨b0,off0,c0,rfl,hc0,hI0,h00⟩:=hr.ati hn0
 have HM:=Lib.hid (maxOf_eq h00.out)
 have hc0':w.cell? ⟨b0,off0,none⟩=some (.int .i64 c0):=by simpa using hc0
 go_enter Tryz.func85,Tryz.ntmps85
 go_wp2
 go_loop [3,4] (fun v i=>∃ (k:Nat) (m:Int),1<=k/\k<=n/\i=.int .i64 k/\v=.int .i64 m/\m=(l.take k).foldl max c0) (fun _ i=>n - (intOf i).toNat)
 case atStart=>exact⟨1,c0,Nat.le_refl _,by omega,rfl,rfl,(take1 max (by omega) h00.out).symm⟩
 case round =>
  obtain⟨k,m,hk1,hk,rfl,rfl,hm⟩:=hrel
  have HK:=Lib.hid hm;clear hm
  by_cases hlt:k<n
  ·obtain⟨b,off,x,e1,hc,hI,hx⟩:=hr.ati hlt
   injection e1 with e1;injection e1 with e1 e2;subst e1;subst e2
   have HS:=Lib.hid (fold_snoc max c0 hx.out)
   by_cases hlt2:m<x
   ·have dm:decide (m<x)=true:=by simpa using hlt2
    go_wp2
    go_round
    case rel=>exact⟨k+1,x,by omega,by omega,by go_num,rfl,by rw [HS.out,<- HK.out];omega⟩
    case measure=>simp [intOf];omega
   ·have dm:decide (m<x)=false:=by simpa using hlt2
    go_wp2
    go_round
    case rel=>exact⟨k+1,m,by omega,by omega,by go_num,rfl,by rw [HS.out,<- HK.out];omega⟩
    case measure=>simp [intOf];omega
  ·go_wp2
   go_ret
   exact⟨ret_int (by rw [HM.out,HK.out,take_all hr.len (by omega)]),rfl⟩
def costRange (x:SpaceD):Int × Int:=if validSpace x then (minOf x.fCosts,maxOf x.fCosts) else (0,0)
set_option maxRecDepth 100000 in
set_option maxHeartbeats 1600000 in
theorem iCostRange_c (csx:List Value) (x:SpaceD) (w:World) (hx:(rSpace NB).rep w csx x) :
  Calls Tryz.prog 42 #[.agg csx.toArray] w fun e w'=>e=.returned (.tuple #[.int .i64 (costRange x).1,.int .i64 (costRange x).2])/\Below w.heap.size w w':=by
 have rx:=hx
 obtain⟨AxBoxLow,nxBoxLow,cxBoxLow,AxBoxHigh,nxBoxHigh,cxBoxHigh,AxCosts,nxCosts,cxCosts,AxChoices,nxChoices,cxChoices,AxPlans,nxPlans,cxPlans,rfl,hxBoxLow,hxBoxHigh,hxCosts,hxChoices,hxPlans⟩:=rSpace_rep.1 hx
 clear hx
 have hB:Below w.heap.size w w:=Below.refl _ _
 have hAx:=(Below.refl (World.heap (w)).size (w)).alloc (Nat.le_refl _) (.cells #[.slice AxBoxLow nxBoxLow cxBoxLow,.slice AxBoxHigh nxBoxHigh cxBoxHigh,.slice AxCosts nxCosts cxCosts,.slice AxChoices nxChoices cxChoices,.slice AxPlans nxPlans cxPlans] 57)
 replace hB:=hB.trans (hAx.mono hB.size)
 have bxx:=Bx.new (w) [.slice AxBoxLow nxBoxLow cxBoxLow,.slice AxBoxHigh nxBoxHigh cxBoxHigh,.slice AxCosts nxCosts cxCosts,.slice AxChoices nxChoices cxChoices,.slice AxPlans nxPlans cxPlans] 57
 clear hAx
 have HL:=Lib.hid hxCosts.len
 go_enter Tryz.func42,Tryz.ntmps42
 go_wp2_with fail
 refine(iIsValidSpace_c _ x _ ((rSpace_ok NB).keep rx (cells_below hB))).mono ?_
 rintro e w1 ⟨rfl,hb1⟩
 replace hB:=hB.trans (hb1.mono hB.size)
 replace bxx:=bxx.below hb1
 clear hb1
 cases e1:validSpace x
 ·go_wp2
  go_ret2
  exact⟨ret_ints (a:=0) (b:=0) (by simp [costRange,e1]) (by simp [costRange,e1]),hB⟩
 have kx_2:=bxx 2 _ rfl
 have h0:0<nxCosts:=by have:=validSpace_parts e1;have:=HL.out;omega
 have R3:=(hxCosts.below rInt_ok hB)
 have K1:=Lib.hid (fun q=>slicesMin_c _ _ _ _ _ (R3.drewN rInt_ok q) h0)
 have K2:=Lib.hid (fun q=>slicesMax_c _ _ _ _ _ (R3.drewN rInt_ok q) h0)
 go_wp2_with fail
 go_quiet (first|(go_at_call 84;exact Calls.quiet_of_same (slicesMin_c _ _ _ _ _ (R3.keep rInt_ok (fun _ _ h=>h)) h0))|(go_at_call 85;exact Calls.quiet_of_same (slicesMax_c _ _ _ _ _ (R3.keep rInt_ok (fun _ _ h=>h)) h0)))
 go_wp2
 go_ret2
 exact⟨ret_ints (by simp [costRange,e1]) (by simp [costRange,e1]),below_drewN hB _⟩
set_option maxRecDepth 100000 in
set_option maxHeartbeats 1600000 in
theorem sCostRange_c (csx:List Value) (x:SpaceD) (w:World) (hx:(rSpace NB).rep w csx x) :
  Calls Tryz.prog 26 #[.agg csx.toArray] w fun e w'=>e=.returned (.tuple #[.int .i64 (costRange x).1,.int .i64 (costRange x).2])/\Below w.heap.size w w':=by
 have rx:=hx
 obtain⟨AxBoxLow,nxBoxLow,cxBoxLow,AxBoxHigh,nxBoxHigh,cxBoxHigh,AxCosts,nxCosts,cxCosts,AxChoices,nxChoices,cxChoices,AxPlans,nxPlans,cxPlans,rfl,hxBoxLow,hxBoxHigh,hxCosts,hxChoices,hxPlans⟩:=rSpace_rep.1 hx
 clear hx
 have hB:Below w.heap.size w w:=Below.refl _ _
 have hAx:=(Below.refl (World.heap (w)).size (w)).alloc (Nat.le_refl _) (.cells #[.slice AxBoxLow nxBoxLow cxBoxLow,.slice AxBoxHigh nxBoxHigh cxBoxHigh,.slice AxCosts nxCosts cxCosts,.slice AxChoices nxChoices cxChoices,.slice AxPlans nxPlans cxPlans] 57)
 replace hB:=hB.trans (hAx.mono hB.size)
 have bxx:=Bx.new (w) [.slice AxBoxLow nxBoxLow cxBoxLow,.slice AxBoxHigh nxBoxHigh cxBoxHigh,.slice AxCosts nxCosts cxCosts,.slice AxChoices nxChoices cxChoices,.slice AxPlans nxPlans cxPlans] 57
 clear hAx
 have HL:=Lib.hid hxCosts.len
 have hn3:=hxCosts.bound
 go_enter Tryz.func26,Tryz.ntmps26
 go_wp2_with fail
 refine(sIsValidSpace_c _ x _ ((rSpace_ok NB).keep rx (cells_below hB))).mono ?_
 rintro e w1 ⟨rfl,hb1⟩
 replace hB:=hB.trans (hb1.mono hB.size)
 replace bxx:=bxx.below hb1
 clear hb1
 cases e1:validSpace x
 ·go_wp2
  go_ret2
  exact⟨ret_ints (a:=0) (b:=0) (by simp [costRange,e1]) (by simp [costRange,e1]),hB⟩
 have kx_2:=bxx 2 _ rfl
 have h0:0<nxCosts:=by have:=validSpace_parts e1;have:=HL.out;omega
 obtain⟨b0,off0,c0,rfl,hc0,hI0,h00⟩:=(hxCosts.below rInt_ok hB).ati h0
 have HM:=Lib.hid (minOf_eq h00.out)
 have HX:=Lib.hid (maxOf_eq h00.out)
 have hc0':w1.cell? ⟨b0,off0,none⟩=some (.int .i64 c0):=by simpa using hc0
 go_wp2
 go_loop [4,5,6] (fun v u i=>∃ (k:Nat) (m M:Int),k<=nxCosts/\i=.int .i64 k/\v=.int .i64 m/\u=.int .i64 M/\m=(x.fCosts.take k).foldl min c0/\M=(x.fCosts.take k).foldl max c0) (fun _ _ i=>nxCosts - (intOf i).toNat)
 case atStart=>exact⟨0,c0,c0,Nat.zero_le _,rfl,rfl,rfl,rfl,rfl⟩
 case round =>
  obtain⟨k,m,M,hk,rfl,rfl,rfl,hm,hM⟩:=hrel
  have HK:=Lib.hid hm;clear hm
  have HK2:=Lib.hid hM;clear hM
  by_cases hlt:k<nxCosts
  ·obtain⟨b,off,y,e2,hc,hI,hy⟩:=(hxCosts.below rInt_ok hB).ati hlt
   injection e2 with e2;injection e2 with e2 e3;subst e2;subst e3
   have HS:=Lib.hid (fold_snoc min c0 hy.out)
   have HS2:=Lib.hid (fold_snoc max c0 hy.out)
   by_cases q1:y<m<;>by_cases q2:M<y
   all_goals
    go_wp2
    go_round
    case rel=>exact⟨k+1,min m y,max M y,by omega,by go_num,by first|rfl|(congr 1;omega),by first|rfl|(congr 1;omega),by rw [HS.out,<- HK.out],by rw [HS2.out,<- HK2.out]⟩
    case measure=>simp [intOf];omega
  ·go_wp2
   go_ret2
   exact⟨ret_ints (by simp only [costRange,e1,if_true];rw [HM.out,HK.out,take_all hxCosts.len hlt]) (by simp only [costRange,e1,if_true];rw [HX.out,HK2.out,take_all hxCosts.len hlt]),hB⟩
end Go.Proofs.YtcfmidbioecdcaaGreat
