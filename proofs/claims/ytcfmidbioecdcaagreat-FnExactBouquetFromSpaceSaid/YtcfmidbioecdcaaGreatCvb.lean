/-
  Cvb
-/
import Derived.Test.YtcfmidbioecdcaaGreatKeep
import Derived.Test.YtcfmidbioecdcaaGreatCvl
namespace Go.Proofs.YtcfmidbioecdcaaGreat
open Go.RowKit
set_option linter.unusedVariables false
set_option linter.unusedSimpArgs false
theorem filter_no {p:Int->Bool}{l:List Int}{k:Nat}{x:Int}(h:l[k]?=some x) (hp:p x=false):(l.take (k+1)).filter p=(l.take k).filter p:=by
 rw [take_snoc h,List.filter_append];simp [hp]
theorem filter_yes {p:Int->Bool}{l:List Int}{k:Nat}{x:Int}(h:l[k]?=some x) (hp:p x=true):(l.take (k+1)).filter p=(l.take k).filter p++[x]:=by
 rw [take_snoc h,List.filter_append];simp [hp]
set_option maxRecDepth 100000 in
set_option maxHeartbeats 1600000 in
theorem iCoveredBy_c (csm:List Value) (m:ModelD) (csq:List Value) (q:QueryD) (css:List Value) (s:SpaceD) (k:Int) (Af:Option Addr) (nf cf:Nat) (f:List Int) (b:Int) (w:World) (hm:(rModel NB).rep w csm m) (hq:(rQuery NB).rep w csq q) (hs:(rSpace NB).rep w css s) (hf:RS NB rInt w Af nf cf f) :
  Calls Tryz.prog 93 #[.agg csm.toArray,.agg csq.toArray,.agg css.toArray,.int .i64 k,.slice Af nf cf,.int .i64 b] w (RetS 3 rInt (f.filter (fun x=>coversL m q s k x b)) w):=by
 have rm:=hm
 have lenm:=(rModel_ok NB).len hm
 clear hm
 have rq:=hq
 obtain⟨AqAtoms,nqAtoms,cqAtoms,rfl,hqVariableCount,hqAtoms⟩:=rQuery_rep.1 hq
 clear hq
 have rs:=hs
 obtain⟨AsBoxLow,nsBoxLow,csBoxLow,AsBoxHigh,nsBoxHigh,csBoxHigh,AsCosts,nsCosts,csCosts,AsChoices,nsChoices,csChoices,AsPlans,nsPlans,csPlans,rfl,hsBoxLow,hsBoxHigh,hsCosts,hsChoices,hsPlans⟩:=rSpace_rep.1 hs
 clear hs
 have hB:Below w.heap.size w w:=Below.refl _ _
 have hAm:=(Below.refl (World.heap (w)).size (w)).alloc (Nat.le_refl _) (.cells csm.toArray 50)
 replace hB:=hB.trans (hAm.mono hB.size)
 have bxm:=Bx.new (w) csm 50
 clear hAm
 have hAq:=(Below.refl (World.heap ((w).alloc (.cells csm.toArray 50))).size ((w).alloc (.cells csm.toArray 50))).alloc (Nat.le_refl _) (.cells #[.int .i64 q.fVariableCount,.slice AqAtoms nqAtoms cqAtoms] 54)
 replace hB:=hB.trans (hAq.mono hB.size)
 replace bxm:=bxm.below hAq
 have bxq:=Bx.new ((w).alloc (.cells csm.toArray 50)) [.int .i64 q.fVariableCount,.slice AqAtoms nqAtoms cqAtoms] 54
 simp only [World.size_alloc]at bxq
 clear hAq
 have hAs:=(Below.refl (World.heap (((w).alloc (.cells csm.toArray 50)).alloc (.cells #[.int .i64 q.fVariableCount,.slice AqAtoms nqAtoms cqAtoms] 54))).size (((w).alloc (.cells csm.toArray 50)).alloc (.cells #[.int .i64 q.fVariableCount,.slice AqAtoms nqAtoms cqAtoms] 54))).alloc (Nat.le_refl _) (.cells #[.slice AsBoxLow nsBoxLow csBoxLow,.slice AsBoxHigh nsBoxHigh csBoxHigh,.slice AsCosts nsCosts csCosts,.slice AsChoices nsChoices csChoices,.slice AsPlans nsPlans csPlans] 57)
 replace hB:=hB.trans (hAs.mono hB.size)
 replace bxm:=bxm.below hAs
 replace bxq:=bxq.below hAs
 have bxs:=Bx.new (((w).alloc (.cells csm.toArray 50)).alloc (.cells #[.int .i64 q.fVariableCount,.slice AqAtoms nqAtoms cqAtoms] 54)) [.slice AsBoxLow nsBoxLow csBoxLow,.slice AsBoxHigh nsBoxHigh csBoxHigh,.slice AsCosts nsCosts csCosts,.slice AsChoices nsChoices csChoices,.slice AsPlans nsPlans csPlans] 57
 simp only [World.size_alloc]at bxs
 clear hAs
 have lenm':csm.length=30:=lenm
 clear lenm
 have hnf:=hf.bound
 go_enter Tryz.func93,Tryz.ntmps93
 go_upto_region 1 with fail
 obtain⟨wb,hwb⟩:∃ W,W=((w.alloc (.cells csm.toArray 50)).alloc (.cells #[.int .i64 q.fVariableCount,.slice AqAtoms nqAtoms cqAtoms] 54)).alloc (.cells #[.slice AsBoxLow nsBoxLow csBoxLow,.slice AsBoxHigh nsBoxHigh csBoxHigh,.slice AsCosts nsCosts csCosts,.slice AsChoices nsChoices csChoices,.slice AsPlans nsPlans csPlans] 57):=⟨_,rfl⟩
 rw [<- hwb]at hB bxm bxq bxs ⊢
 clear hwb
 go_upto_region 2 with fail
 have hM0:=MS.empty (B:=wb.heap.size) (M:=NB) (e:=3) (r:=rInt) wb (Nat.le_refl _)
 have hE0:=(Below.refl wb.heap.size wb).alloc (Nat.le_refl _) (.cells #[] 3)
 go_wp2
 go_loopw [13,19] (fun so i wr=>∃ (j:Nat) (AO:Option Addr) (n c:Nat),j<=nf/\n<=j/\i=.int .i64 j/\so=.slice AO n c/\MS wb.heap.size NB 3 rInt wr AO n c ((f.take j).filter (fun x=>coversL m q s k x b))/\Below wb.heap.size wb wr) (fun _ i _=>nf - (intOf i).toNat)
 case atStart=>exact⟨0,_,0,0,Nat.zero_le _,Nat.le_refl _,rfl,rfl,hM0,hE0⟩
 case round =>
  clear hM0 hE0
  obtain⟨j,AO,n,c,hj,hnj,rfl,rfl,hM,hE⟩:=hrel
  have hB2:=hB.trans (hE.mono hB.size)
  by_cases hlt:j<nf
  ·obtain⟨bf,of,x,rfl,hc,hI,hx⟩:=hf.ati hlt
   have HX:=Lib.hid hx.out;clear hx
   replace hc:=cells_below hB2 _ _ hc
   have K1:Hid (∀ W,Below wb.heap.size wb W->Calls Tryz.prog 132 #[.agg csm.toArray,.agg #[.int .i64 q.fVariableCount,.slice AqAtoms nqAtoms cqAtoms],.agg #[.slice AsBoxLow nsBoxLow csBoxLow,.slice AsBoxHigh nsBoxHigh csBoxHigh,.slice AsCosts nsCosts csCosts,.slice AsChoices nsChoices csChoices,.slice AsPlans nsPlans csPlans],.int .i64 k,.int .i64 x,.int .i64 b] W fun e w'=>e=.returned (.bool (coversL m q s k x b))/\Below W.heap.size W w'):=by
    show ∀ W,_->_
    intro W hW
    have hX:=hB.trans (hW.mono hB.size)
    exact iCoversLocation_c _ m _ q _ s k x b W ((rModel_ok NB).keep rm (cells_below hX)) ((rQuery_ok NB).keep rq (cells_below hX)) ((rSpace_ok NB).keep rs (cells_below hX)) hI
   have kq_0:=(bxq.below hE) 0 _ rfl
   have kq_1:=(bxq.below hE) 1 _ rfl
   have ks_0:=(bxs.below hE) 0 _ rfl
   have ks_1:=(bxs.below hE) 1 _ rfl
   have ks_2:=(bxs.below hE) 2 _ rfl
   have ks_3:=(bxs.below hE) 3 _ rfl
   have ks_4:=(bxs.below hE) 4 _ rfl
   go_wp2_with (refine wpList_load_mid rfl 50 _ rfl w.heap.size 0 rfl csm _ (bxm.below hE).range Tryz.underlying50 rfl (by rw [lenm'];exact sizeModel) ?_)
   refine(K1.out _ hE).mono ?_
   rintro e w2 ⟨rfl,hC⟩
   clear kq_0 kq_1 ks_0 ks_1 ks_2 ks_3 ks_4
   have hE2:=hE.trans (hC.mono hE.size)
   have hM2:=hM.below rInt_ok hC
   replace hc:=cells_below hC _ _ hc
   cases hv:coversL m q s k x b
   ·have HV:=Lib.hid (filter_no (p:=fun x=>coversL m q s k x b) HX.out hv);clear hv
    go_wp2
    go_roundw
    case rel=>exact⟨j+1,AO,n,c,by omega,by omega,by go_num,rfl,by rw [HV.out];exact hM2,hE2⟩
    case measure=>simp [intOf];omega
   ·have HV:=Lib.hid (filter_yes (p:=fun x=>coversL m q s k x b) HX.out hv);clear hv
    go_wp2_with (at_builtin;refine wpList_app (r:=rInt) rfl _ _ 30 rfl _ 8 eiInt rInt_ok rfl hM2 ((Below.refl _ _).alloc (Nat.le_refl _) _) hE2.size ⟨_,0,none⟩ rfl [] [.int .i64 x] x ⟨rfl,rfl,hI⟩ (Fr.nil _) (cell_one_new _ _ _) (by unfold NB at *;omega) (Nat.le_refl _) (by unfold NB at *;omega) ?_;intro A2 k2 w9 hM9 hb9 hg9)
    go_roundw
    case rel=>exact⟨j+1,A2,n+1,k2,by omega,by omega,by go_num,rfl,by rw [HV.out];exact hM9,(hE2.alloc hE2.size _).trans hb9⟩
    case measure=>simp [intOf];omega
  ·have HE:Hid (f.take j=f):=by show _=_;exact take_all hf.len hlt
   rw [HE.out]at hM
   go_wp2
   go_ret
   exact⟨_,_,_,rfl,hM.base hB.size,hB2⟩
set_option maxRecDepth 100000 in
set_option maxHeartbeats 1600000 in
theorem sCoveredBy_c (csm:List Value) (m:ModelD) (csq:List Value) (q:QueryD) (css:List Value) (s:SpaceD) (k:Int) (Af:Option Addr) (nf cf:Nat) (f:List Int) (b:Int) (w:World) (hm:(rModel NB).rep w csm m) (hq:(rQuery NB).rep w csq q) (hs:(rSpace NB).rep w css s) (hf:RS NB rInt w Af nf cf f) :
  Calls Tryz.prog 76 #[.agg csm.toArray,.agg csq.toArray,.agg css.toArray,.int .i64 k,.slice Af nf cf,.int .i64 b] w (RetS 3 rInt (f.filter (fun x=>coversL m q s k x b)) w):=by
 have rm:=hm
 have lenm:=(rModel_ok NB).len hm
 clear hm
 have rq:=hq
 obtain⟨AqAtoms,nqAtoms,cqAtoms,rfl,hqVariableCount,hqAtoms⟩:=rQuery_rep.1 hq
 clear hq
 have rs:=hs
 obtain⟨AsBoxLow,nsBoxLow,csBoxLow,AsBoxHigh,nsBoxHigh,csBoxHigh,AsCosts,nsCosts,csCosts,AsChoices,nsChoices,csChoices,AsPlans,nsPlans,csPlans,rfl,hsBoxLow,hsBoxHigh,hsCosts,hsChoices,hsPlans⟩:=rSpace_rep.1 hs
 clear hs
 have hB:Below w.heap.size w w:=Below.refl _ _
 have hAm:=(Below.refl (World.heap (w)).size (w)).alloc (Nat.le_refl _) (.cells csm.toArray 50)
 replace hB:=hB.trans (hAm.mono hB.size)
 have bxm:=Bx.new (w) csm 50
 clear hAm
 have hAq:=(Below.refl (World.heap ((w).alloc (.cells csm.toArray 50))).size ((w).alloc (.cells csm.toArray 50))).alloc (Nat.le_refl _) (.cells #[.int .i64 q.fVariableCount,.slice AqAtoms nqAtoms cqAtoms] 54)
 replace hB:=hB.trans (hAq.mono hB.size)
 replace bxm:=bxm.below hAq
 have bxq:=Bx.new ((w).alloc (.cells csm.toArray 50)) [.int .i64 q.fVariableCount,.slice AqAtoms nqAtoms cqAtoms] 54
 simp only [World.size_alloc]at bxq
 clear hAq
 have hAs:=(Below.refl (World.heap (((w).alloc (.cells csm.toArray 50)).alloc (.cells #[.int .i64 q.fVariableCount,.slice AqAtoms nqAtoms cqAtoms] 54))).size (((w).alloc (.cells csm.toArray 50)).alloc (.cells #[.int .i64 q.fVariableCount,.slice AqAtoms nqAtoms cqAtoms] 54))).alloc (Nat.le_refl _) (.cells #[.slice AsBoxLow nsBoxLow csBoxLow,.slice AsBoxHigh nsBoxHigh csBoxHigh,.slice AsCosts nsCosts csCosts,.slice AsChoices nsChoices csChoices,.slice AsPlans nsPlans csPlans] 57)
 replace hB:=hB.trans (hAs.mono hB.size)
 replace bxm:=bxm.below hAs
 replace bxq:=bxq.below hAs
 have bxs:=Bx.new (((w).alloc (.cells csm.toArray 50)).alloc (.cells #[.int .i64 q.fVariableCount,.slice AqAtoms nqAtoms cqAtoms] 54)) [.slice AsBoxLow nsBoxLow csBoxLow,.slice AsBoxHigh nsBoxHigh csBoxHigh,.slice AsCosts nsCosts csCosts,.slice AsChoices nsChoices csChoices,.slice AsPlans nsPlans csPlans] 57
 simp only [World.size_alloc]at bxs
 clear hAs
 have lenm':csm.length=30:=lenm
 clear lenm
 have hnf:=hf.bound
 go_enter Tryz.func76,Tryz.ntmps76
 go_upto_region 1 with fail
 obtain⟨wb,hwb⟩:∃ W,W=((w.alloc (.cells csm.toArray 50)).alloc (.cells #[.int .i64 q.fVariableCount,.slice AqAtoms nqAtoms cqAtoms] 54)).alloc (.cells #[.slice AsBoxLow nsBoxLow csBoxLow,.slice AsBoxHigh nsBoxHigh csBoxHigh,.slice AsCosts nsCosts csCosts,.slice AsChoices nsChoices csChoices,.slice AsPlans nsPlans csPlans] 57):=⟨_,rfl⟩
 rw [<- hwb]at hB bxm bxq bxs ⊢
 clear hwb
 go_upto_region 2 with fail
 have hM0:=MS.empty (B:=wb.heap.size) (M:=NB) (e:=3) (r:=rInt) wb (Nat.le_refl _)
 have hE0:=(Below.refl wb.heap.size wb).alloc (Nat.le_refl _) (.cells #[] 3)
 go_wp2
 go_loopw [13,14] (fun so i wr=>∃ (j:Nat) (AO:Option Addr) (n c:Nat),j<=nf/\n<=j/\i=.int .i64 j/\so=.slice AO n c/\MS wb.heap.size NB 3 rInt wr AO n c ((f.take j).filter (fun x=>coversL m q s k x b))/\Below wb.heap.size wb wr) (fun _ i _=>nf - (intOf i).toNat)
 case atStart=>exact⟨0,_,0,0,Nat.zero_le _,Nat.le_refl _,rfl,rfl,hM0,hE0⟩
 case round =>
  clear hM0 hE0
  obtain⟨j,AO,n,c,hj,hnj,rfl,rfl,hM,hE⟩:=hrel
  have hB2:=hB.trans (hE.mono hB.size)
  by_cases hlt:j<nf
  ·obtain⟨bf,of,x,rfl,hc,hI,hx⟩:=hf.ati hlt
   have HX:=Lib.hid hx.out;clear hx
   replace hc:=cells_below hB2 _ _ hc
   have K1:Hid (∀ W,Below wb.heap.size wb W->Calls Tryz.prog 117 #[.agg csm.toArray,.agg #[.int .i64 q.fVariableCount,.slice AqAtoms nqAtoms cqAtoms],.agg #[.slice AsBoxLow nsBoxLow csBoxLow,.slice AsBoxHigh nsBoxHigh csBoxHigh,.slice AsCosts nsCosts csCosts,.slice AsChoices nsChoices csChoices,.slice AsPlans nsPlans csPlans],.int .i64 k,.int .i64 x,.int .i64 b] W fun e w'=>e=.returned (.bool (coversL m q s k x b))/\Below W.heap.size W w'):=by
    show ∀ W,_->_
    intro W hW
    have hX:=hB.trans (hW.mono hB.size)
    exact sCoversLocation_c _ m _ q _ s k x b W ((rModel_ok NB).keep rm (cells_below hX)) ((rQuery_ok NB).keep rq (cells_below hX)) ((rSpace_ok NB).keep rs (cells_below hX)) hI
   have HSS:Hid (∀ w',Below wr.heap.size wr w'->(w'.rangeAt w.heap.size 0 csm/\w'.cell? ⟨w.heap.size+1,0,none⟩=some (.int .i64 q.fVariableCount)/\w'.cell? ⟨w.heap.size+1,1,none⟩=some (.slice AqAtoms nqAtoms cqAtoms)/\w'.cell? ⟨w.heap.size+1+1,0,none⟩=some (.slice AsBoxLow nsBoxLow csBoxLow)/\w'.cell? ⟨w.heap.size+1+1,1,none⟩=some (.slice AsBoxHigh nsBoxHigh csBoxHigh)/\w'.cell? ⟨w.heap.size+1+1,2,none⟩=some (.slice AsCosts nsCosts csCosts)/\w'.cell? ⟨w.heap.size+1+1,3,none⟩=some (.slice AsChoices nsChoices csChoices)/\w'.cell? ⟨w.heap.size+1+1,4,none⟩=some (.slice AsPlans nsPlans csPlans)/\w'.cell? ⟨bf,of+j,none⟩=some (.int .i64 x))):=by
    show ∀ w',_->_
    intro w' hb
    have hz:=hE.trans (hb.mono hE.size)
    exact⟨(bxm.below hz).range,(bxq.below hz) 0 _ rfl,(bxq.below hz) 1 _ rfl,(bxs.below hz) 0 _ rfl,(bxs.below hz) 1 _ rfl,(bxs.below hz) 2 _ rfl,(bxs.below hz) 3 _ rfl,(bxs.below hz) 4 _ rfl,cells_below hb _ _ hc⟩
   go_wp2
   refine hbg HSS.out (Below.refl _ _).drew (fun hHeld=>?_)
   refine' wpAnyH_take (i:=0) (oi:=⟨some 22,_,_,_,_,_⟩) (v:=_) rfl (by kernel_rfl) (by kernel_rfl) (by kernel_rfl) (fun _ _ _ h=>h) (yieldsIf_load_mid (by rfl) _ _ rfl _ _ rfl _ _ (fun w h=>h.1) Tryz.underlying50 rfl (by rw [lenm'];exact sizeModel)) hHeld ?_
   simp only [putS]
   refine tka 1 23 hHeld ?_;simp only [putS]
   refine tka 2 24 hHeld ?_;simp only [putS]
   refine tka 3 25 hHeld ?_;simp only [putS]
   refine tka 4 26 hHeld ?_;simp only [putS]
   refine tka 5 27 hHeld ?_;simp only [putS]
   refine tka 6 28 hHeld ?_;simp only [putS]
   refine tka 7 29 hHeld ?_;simp only [putS]
   refine tka 8 30 hHeld ?_;simp only [putS]
   refine rd 9 (some 31) fun K hK=>?_
   clear hHeld
   go_simp
   refine(K1.out _ (hE.drew)).mono ?_
   rintro e w2 ⟨rfl,hb2⟩
   have hC:Below wr.heap.size wr w2:=((Below.refl wr.heap.size wr).drew.trans (hb2.mono (by simp)))
   go_wp2_with fail
   refine hK.out _ _ (HSS.out _ hC) (fun hHeld=>?_)
   clear hK K
   try simp only [putS]
   refine wpAnyH_done (by kernel_rfl) ?_ _
   clear hHeld
   clear HSS
   have hE2:=hE.trans (hC.mono hE.size)
   have hM2:=hM.below rInt_ok hC
   replace hc:=cells_below hC _ _ hc
   cases hv:coversL m q s k x b
   ·have HV:=Lib.hid (filter_no (p:=fun x=>coversL m q s k x b) HX.out hv);clear hv
    go_wp2
    go_roundw
    case rel=>exact⟨j+1,AO,n,c,by omega,by omega,by go_num,rfl,by rw [HV.out];exact hM2,hE2⟩
    case measure=>simp [intOf];omega
   ·have HV:=Lib.hid (filter_yes (p:=fun x=>coversL m q s k x b) HX.out hv);clear hv
    go_wp2_with (at_builtin;refine wpList_app (r:=rInt) rfl _ _ 30 rfl _ 8 eiInt rInt_ok rfl hM2 ((Below.refl _ _).alloc (Nat.le_refl _) _) hE2.size ⟨_,0,none⟩ rfl [] [.int .i64 x] x ⟨rfl,rfl,hI⟩ (Fr.nil _) (cell_one_new _ _ _) (by unfold NB at *;omega) (Nat.le_refl _) (by unfold NB at *;omega) ?_;intro A2 k2 w9 hM9 hb9 hg9)
    go_roundw
    case rel=>exact⟨j+1,A2,n+1,k2,by omega,by omega,by go_num,rfl,by rw [HV.out];exact hM9,(hE2.alloc hE2.size _).trans hb9⟩
    case measure=>simp [intOf];omega
  ·have HE:Hid (f.take j=f):=by show _=_;exact take_all hf.len hlt
   rw [HE.out]at hM
   go_wp2
   go_ret
   exact⟨_,_,_,rfl,hM.base hB.size,hB2⟩
end Go.Proofs.YtcfmidbioecdcaaGreat
