/-
  Cvl
-/
import Derived.Test.YtcfmidbioecdcaaGreatKeep
import Derived.Test.YtcfmidbioecdcaaGreatPco
import Derived.Test.YtcfmidbioecdcaaGreatBloc
import Derived.Test.YtcfmidbioecdcaaGreatSpace
namespace Go.Proofs.YtcfmidbioecdcaaGreat
open Go.RowKit
set_option linter.unusedVariables false
set_option linter.unusedSimpArgs false
def coversX (m:ModelD) (q:QueryD) (s:SpaceD) (k i b:Int):Bool:=(boxLoc s.fBox i).2&&(inR k 0 ((s.fPlans.length:Int) - 1)&&(match s.fPlans[k.toNat]? with|some p=>inR (planCostAt m q p (boxLoc s.fBox i).1) 0 b|none=>false))
def coversL (m:ModelD) (q:QueryD) (s:SpaceD) (k i b:Int):Bool:=validSpace s&&coversX m q s k i b
theorem coversX_1 {m:ModelD}{q:QueryD}{s:SpaceD}{k i b:Int}(h:(boxLoc s.fBox i).2=false):coversX m q s k i b=false:=by simp [coversX,h]
theorem coversX_2 {m:ModelD}{q:QueryD}{s:SpaceD}{k i b:Int}{n:Nat}(hn:s.fPlans.length=n) (h:inR k 0 ((n:Int) - 1)=false):coversX m q s k i b=false:=by simp [coversX,hn,h]
theorem coversX_3 {m:ModelD}{q:QueryD}{s:SpaceD}{i b:Int}{j:Nat}{p:PlanD}(h:(boxLoc s.fBox i).2=true) (hp:s.fPlans[j]?=some p):coversX m q s (j:Int) i b=inR (planCostAt m q p (boxLoc s.fBox i).1) 0 b:=by
 have hj:=lt_of_at hp
 have h2:inR (j:Int) 0 ((s.fPlans.length:Int) - 1)=true:=inR_t.2 ⟨by omega,by omega⟩
 simp [coversX,h,h2,hp]
theorem coversL_0 {m:ModelD}{q:QueryD}{s:SpaceD}{k i b:Int}(h:validSpace s=false):coversL m q s k i b=false:=by simp [coversL,h]
theorem coversL_1 {m:ModelD}{q:QueryD}{s:SpaceD}{k i b:Int}{v:Bool}(h:validSpace s=true) (hx:coversX m q s k i b=v):coversL m q s k i b=v:=by simp [coversL,h,hx]
theorem coversL_2 {m:ModelD}{q:QueryD}{s:SpaceD}{k i b:Int}(hx:coversX m q s k i b=false):coversL m q s k i b=false:=by simp [coversL,hx]
theorem RS.planV {M:Nat}{w:World}{A:Option Addr}{n cap:Nat}{l:List PlanD}(h:RS M (rPlan NB) w A n cap l) {k:Nat}(hk:k<n) :
  ∃ b off x Ar nr cr,A=some ⟨b,off,none⟩/\w.cell? ⟨b,off+k,none⟩=some (.slice Ar nr cr)/\RS NB (rPlanStep NB) w Ar nr cr x.fSteps/\Hid (l[k]?=some x):=by
 obtain⟨b,off,x,cs,e,hrep,hc,hx⟩:=h.at_ hk
 obtain⟨A1,n1,c1,rfl,h1⟩:=rPlan_rep.1 hrep
 exact⟨b,off,x,A1,n1,c1,e,by simpa [rPlan_size]using hc 0 _ rfl,h1,hx⟩
theorem wpList_load_midG {P:Program}{ops:Array Oper}{rest:List Oper}{op:Oper}{a:Act}{w:World}{Q:Exit->Act->World->Prop}(ty:TypeId) (x:Operand) (ho:op.op=.load ty x)
  (b o:Nat) (hx:a.eval x=.pointer (some ⟨b,o,none⟩)) (cs:List Value) (d:TypeDesc) (hc:w.rangeAt b o cs)
  (hu:P.underlying ty=some d) (hd:d.isRow=true) (hi:(P.info? ty).map (·.size)=some cs.length)
  (hw:Region.wanted op (yielded ops a.tmps)=true) (h:wpList P ops Q rest (a.put op.dst (.agg cs.toArray)) w):wpList P ops Q (op::rest) a w :=
 wpList_step fun K hK=>by rw [if_pos hw];exact wp_load_mid ty x ho b o hx cs d hc hu hd hi (hK _ _ h)
set_option maxRecDepth 100000 in
set_option maxHeartbeats 1600000 in
theorem iCovers_c (csm:List Value) (m:ModelD) (csq:List Value) (q:QueryD) (css:List Value) (s:SpaceD) (k:Int) (i:Int) (b:Int) (w:World) (hm:(rModel NB).rep w csm m) (hq:(rQuery NB).rep w csq q) (hs:(rSpace NB).rep w css s) (hI:I64 i) :
  Calls Tryz.prog 167 #[.agg csm.toArray,.agg csq.toArray,.agg css.toArray,.int .i64 k,.int .i64 i,.int .i64 b] w fun e w'=>e=.returned (.bool (coversX m q s k i b))/\Below w.heap.size w w':=by
 have rm:=hm
 have lenm:=(rModel_ok NB).len hm
 clear hm
 have rq:=hq
 obtain⟨AqAtoms,nqAtoms,cqAtoms,rfl,hqVariableCount,hqAtoms⟩:=rQuery_rep.1 hq
 clear hq
 have rs:=hs
 obtain⟨AsBoxLow,nsBoxLow,csBoxLow,AsBoxHigh,nsBoxHigh,csBoxHigh,AsCosts,nsCosts,csCosts,AsChoices,nsChoices,csChoices,AsPlans,nsPlans,csPlans,rfl,hsBoxLow,hsBoxHigh,hsCosts,hsChoices,hsPlans⟩:=rSpace_rep.1 hs
 clear hs
 have hB:Below w.heap.size w w:=Below.refl _ _
 have hAm:=(Below.refl (World.heap (w)).size (w)).alloc (Nat.le_refl _) (.cells csm.toArray 50)
 replace hB:=hB.trans (hAm.mono hB.size)
 have bxm:=Bx.new (w) csm 50
 clear hAm
 have hAq:=(Below.refl (World.heap ((w).alloc (.cells csm.toArray 50))).size ((w).alloc (.cells csm.toArray 50))).alloc (Nat.le_refl _) (.cells #[.int .i64 q.fVariableCount,.slice AqAtoms nqAtoms cqAtoms] 54)
 replace hB:=hB.trans (hAq.mono hB.size)
 replace bxm:=bxm.below hAq
 have bxq:=Bx.new ((w).alloc (.cells csm.toArray 50)) [.int .i64 q.fVariableCount,.slice AqAtoms nqAtoms cqAtoms] 54
 simp only [World.size_alloc]at bxq
 clear hAq
 have hAs:=(Below.refl (World.heap (((w).alloc (.cells csm.toArray 50)).alloc (.cells #[.int .i64 q.fVariableCount,.slice AqAtoms nqAtoms cqAtoms] 54))).size (((w).alloc (.cells csm.toArray 50)).alloc (.cells #[.int .i64 q.fVariableCount,.slice AqAtoms nqAtoms cqAtoms] 54))).alloc (Nat.le_refl _) (.cells #[.slice AsBoxLow nsBoxLow csBoxLow,.slice AsBoxHigh nsBoxHigh csBoxHigh,.slice AsCosts nsCosts csCosts,.slice AsChoices nsChoices csChoices,.slice AsPlans nsPlans csPlans] 57)
 replace hB:=hB.trans (hAs.mono hB.size)
 replace bxm:=bxm.below hAs
 replace bxq:=bxq.below hAs
 have bxs:=Bx.new (((w).alloc (.cells csm.toArray 50)).alloc (.cells #[.int .i64 q.fVariableCount,.slice AqAtoms nqAtoms cqAtoms] 54)) [.slice AsBoxLow nsBoxLow csBoxLow,.slice AsBoxHigh nsBoxHigh csBoxHigh,.slice AsCosts nsCosts csCosts,.slice AsChoices nsChoices csChoices,.slice AsPlans nsPlans csPlans] 57
 simp only [World.size_alloc]at bxs
 clear hAs
 have lenm':csm.length=30:=lenm
 clear lenm
 have hnP:=hsPlans.bound
 have HLP:=Lib.hid hsPlans.len
 go_enter Tryz.func167,Tryz.ntmps167
 have ks_0:=bxs 0 _ rfl
 have ks_1:=bxs 1 _ rfl
 go_wp2_with fail
 refine(iBoxLocation_c _ s.fBox i _ (rBox_rep.2 ⟨AsBoxLow,nsBoxLow,csBoxLow,AsBoxHigh,nsBoxHigh,csBoxHigh,rfl,hsBoxLow.below rInt_ok hB,hsBoxHigh.below rInt_ok hB⟩) hI).mono ?_
 rintro e w1 ⟨Al,nl,cl,rfl,hL,hb1⟩
 replace hB:=hB.trans (hb1.mono hB.size)
 replace bxm:=bxm.below hb1
 replace bxq:=bxq.below hb1
 replace bxs:=bxs.below hb1
 clear hb1 ks_0 ks_1
 have wl:IntKind.i64.wrap ((nsPlans:Int) - 1)=(nsPlans:Int) - 1:=IntWalk.i64_in _ (by omega)
 cases e1:(boxLoc s.fBox i).2
 ·have HN:=Lib.hid (coversX_1 (m:=m) (q:=q) (k:=k) (b:=b) e1);clear e1
  have HSS:Hid (∀ w',Below w1.heap.size w1 w'->(w'.rangeAt w.heap.size 0 csm/\w'.cell? ⟨w.heap.size+1,0,none⟩=some (.int .i64 q.fVariableCount)/\w'.cell? ⟨w.heap.size+1,1,none⟩=some (.slice AqAtoms nqAtoms cqAtoms)/\w'.cell? ⟨w.heap.size+1+1,4,none⟩=some (.slice AsPlans nsPlans csPlans))):=by
   show ∀ w',_->_
   intro w' hb
   exact⟨(bxm.below hb).range,(bxq.below hb) 0 _ rfl,(bxq.below hb) 1 _ rfl,(bxs.below hb) 4 _ rfl⟩
  go_wp2
  refine hbg HSS.out (Below.refl _ _).drew (fun hHeld=>?_)
  refine tka 0 22 hHeld ?_;simp only [putS]
  refine tka 1 23 hHeld ?_;simp only [putS]
  refine tks 2 24 hHeld ?_;simp only [putS]
  refine tks 3 25 hHeld ?_;simp only [putS]
  refine tks 4 26 hHeld ?_;simp only [putS]
  refine tks 5 27 hHeld ?_;simp only [putS]
  refine tks 6 28 hHeld ?_;simp only [putS]
  refine tks 7 29 hHeld ?_;simp only [putS]
  refine tka 8 30 hHeld ?_;simp only [putS]
  refine tka 9 31 hHeld ?_;simp only [putS]
  refine tks 10 32 hHeld ?_;simp only [putS]
  refine tks 11 33 hHeld ?_;simp only [putS]
  refine tks 12 34 hHeld ?_;simp only [putS]
  refine tks 13 35 hHeld ?_;simp only [putS]
  refine tks 14 36 hHeld ?_;simp only [putS]
  refine tks 15 37 hHeld ?_;simp only [putS]
  refine tks 16 38 hHeld ?_;simp only [putS]
  refine tks 17 39 hHeld ?_;simp only [putS]
  refine tks 18 40 hHeld ?_;simp only [putS]
  refine tks 19 41 hHeld ?_;simp only [putS]
  refine tks 20 42 hHeld ?_;simp only [putS]
  refine tka 21 43 hHeld ?_;simp only [putS]
  refine tka 22 12 hHeld ?_;simp only [putS]
  refine wpAnyH_done (by kernel_rfl) ?_ _
  clear hHeld
  go_wp2
  go_ret
  exact⟨ret_bool (a:=false) HN.out.symm,hB.drew⟩
 have HOK:=Lib.hid e1;clear e1
 cases e2:inR k 0 ((nsPlans:Int) - 1)
 ·have HN:=Lib.hid (coversX_2 (m:=m) (q:=q) (i:=i) (b:=b) HLP.out e2)
  have K3:=Lib.hid (fun W=>within_v e2 W);clear e2
  have HSS:Hid (∀ w',Below w1.heap.size w1 w'->(w'.rangeAt w.heap.size 0 csm/\w'.cell? ⟨w.heap.size+1,0,none⟩=some (.int .i64 q.fVariableCount)/\w'.cell? ⟨w.heap.size+1,1,none⟩=some (.slice AqAtoms nqAtoms cqAtoms)/\w'.cell? ⟨w.heap.size+1+1,4,none⟩=some (.slice AsPlans nsPlans csPlans))):=by
   show ∀ w',_->_
   intro w' hb
   exact⟨(bxm.below hb).range,(bxq.below hb) 0 _ rfl,(bxq.below hb) 1 _ rfl,(bxs.below hb) 4 _ rfl⟩
  go_wp2
  refine hbg HSS.out (Below.refl _ _).drew (fun hHeld=>?_)
  refine tka 0 22 hHeld ?_;simp only [putS]
  refine tka 1 23 hHeld ?_;simp only [putS]
  refine tka 2 24 hHeld ?_;simp only [putS]
  refine tka 3 25 hHeld ?_;simp only [putS]
  refine tka 4 26 hHeld ?_;simp only [putS]
  refine tka 5 27 hHeld ?_;simp only [putS]
  refine tka 6 28 hHeld ?_;simp only [putS]
  refine rd 7 (some 29) fun K hK=>?_
  clear hHeld
  go_simp
  refine(K3.out _).mono ?_
  rintro e w' ⟨rfl,rfl⟩
  go_wp2_with fail
  refine hK.out _ _ (HSS.out _ (Below.refl _ _).drew) (fun hHeld=>?_)
  clear hK K
  try simp only [putS]
  refine tka 8 30 hHeld ?_;simp only [putS]
  refine tka 9 31 hHeld ?_;simp only [putS]
  refine tks 10 32 hHeld ?_;simp only [putS]
  refine tks 11 33 hHeld ?_;simp only [putS]
  refine tks 12 34 hHeld ?_;simp only [putS]
  refine tks 13 35 hHeld ?_;simp only [putS]
  refine tks 14 36 hHeld ?_;simp only [putS]
  refine tks 15 37 hHeld ?_;simp only [putS]
  refine tks 16 38 hHeld ?_;simp only [putS]
  refine tks 17 39 hHeld ?_;simp only [putS]
  refine tks 18 40 hHeld ?_;simp only [putS]
  refine tks 19 41 hHeld ?_;simp only [putS]
  refine tks 20 42 hHeld ?_;simp only [putS]
  refine tka 21 43 hHeld ?_;simp only [putS]
  refine tka 22 12 hHeld ?_;simp only [putS]
  refine wpAnyH_done (by kernel_rfl) ?_ _
  clear hHeld
  go_wp2
  go_ret
  exact⟨ret_bool (a:=false) HN.out.symm,hB.drew⟩
 have K3:=Lib.hid (fun W=>within_v e2 W)
 obtain⟨j,rfl⟩:∃ j:Nat,k=j:=⟨k.toNat,by have:=(inR_t.1 e2).1;omega⟩
 have hj:j<nsPlans:=by have:=(inR_t.1 e2).2;omega
 obtain⟨bP,oP,p,Ar,nr,cr,rfl,hcP,hRP,hpX⟩:=hsPlans.planV hj
 obtain⟨c,hc⟩:∃ c,c=planCostAt m q p (boxLoc s.fBox i).1:=⟨_,rfl⟩
 have HX:Hid (coversX m q s (j:Int) i b=inR c 0 b):=by show _=_;rw [hc];exact coversX_3 HOK.out hpX.out
 have hjI:(j:Int)<(nsPlans:Int):=by omega
 have K2:Hid (∀ W,Below w1.heap.size w1 W->Calls Tryz.prog 184 #[.agg csm.toArray,.agg #[.int .i64 q.fVariableCount,.slice AqAtoms nqAtoms cqAtoms],.agg #[.slice Ar nr cr],.slice Al nl cl] W fun e w'=>e=.returned (.int .i64 c)/\Below W.heap.size W w'):=by
  show ∀ W,_->_
  intro W hW
  have hX:=hB.trans (hW.mono hB.size)
  rw [hc]
  exact iPlanCostAt_c _ m _ q _ p _ _ _ _ W ((rModel_ok NB).keep rm (cells_below hX)) ((rQuery_ok NB).keep rq (cells_below hX)) (rPlan_rep.2 ⟨_,_,_,rfl,hRP.below (rPlanStep_ok NB) hX⟩) ((hL.rs rInt_ok).below rInt_ok hW)
 clear hc hpX
 have E2:=Lib.hid e2;clear e2
 have HSS:Hid (∀ w',Below w1.heap.size w1 w'->(w'.rangeAt w.heap.size 0 csm/\w'.cell? ⟨w.heap.size+1,0,none⟩=some (.int .i64 q.fVariableCount)/\w'.cell? ⟨w.heap.size+1,1,none⟩=some (.slice AqAtoms nqAtoms cqAtoms)/\w'.cell? ⟨w.heap.size+1+1,4,none⟩=some (.slice (some ⟨bP,oP,none⟩) nsPlans csPlans)/\w'.cell? ⟨bP,oP+j,none⟩=some (.slice Ar nr cr))):=by
  show ∀ w',_->_
  intro w' hb
  exact⟨(bxm.below hb).range,(bxq.below hb) 0 _ rfl,(bxq.below hb) 1 _ rfl,(bxs.below hb) 4 _ rfl,cells_below (hB.trans (hb.mono hB.size)) _ _ hcP⟩
 cases e3:inR c 0 b
 all_goals
  have K4:=Lib.hid (fun W=>within_v e3 W)
  rw [e3]at HX
  clear e3
  go_wp2
  refine hbg HSS.out (Below.refl _ _).drew (fun hHeld=>?_)
  refine tka 0 22 hHeld ?_;simp only [putS]
  refine tka 1 23 hHeld ?_;simp only [putS]
  refine tka 2 24 hHeld ?_;simp only [putS]
  refine tka 3 25 hHeld ?_;simp only [putS]
  refine tka 4 26 hHeld ?_;simp only [putS]
  refine tka 5 27 hHeld ?_;simp only [putS]
  refine tka 6 28 hHeld ?_;simp only [putS]
  refine rd 7 (some 29) fun K hK=>?_
  clear hHeld
  go_simp
  refine(K3.out _).mono ?_
  rintro e w' ⟨rfl,rfl⟩
  go_wp2_with fail
  refine hK.out _ _ (HSS.out _ (Below.refl _ _).drew) (fun hHeld=>?_)
  clear hK K
  try simp only [putS]
  refine tka 8 30 hHeld ?_;simp only [putS]
  refine tka 9 31 hHeld ?_;simp only [putS]
  refine' wpAnyH_take (i:=10) (oi:=⟨some 32,_,_,_,_,_⟩) (v:=_) rfl (by kernel_rfl) (by kernel_rfl) (by kernel_rfl) (fun _ _ _ h=>h) (yieldsIf_load_mid (by rfl) _ _ rfl _ _ rfl _ _ (fun w h=>h.1) Tryz.underlying50 rfl (by rw [lenm'];exact sizeModel)) hHeld ?_
  simp only [putS]
  refine tka 11 33 hHeld ?_;simp only [putS]
  refine tka 12 34 hHeld ?_;simp only [putS]
  refine tka 13 35 hHeld ?_;simp only [putS]
  refine tka 14 36 hHeld ?_;simp only [putS]
  refine tka 15 37 hHeld ?_;simp only [putS]
  refine tka 16 38 hHeld ?_;simp only [putS]
  refine tka 17 39 hHeld ?_;simp only [putS]
  refine tka 19 41 hHeld ?_;simp only [putS]
  refine rd 18 (some 40) fun K hK=>?_
  clear hHeld
  go_simp
  refine(K2.out _ (Below.refl w1.heap.size w1).drew).mono ?_
  rintro e w3 ⟨rfl,hb3⟩
  have hC:Below w1.heap.size w1 w3:=((Below.refl w1.heap.size w1).drew.trans (hb3.mono (by simp)))
  go_wp2_with fail
  refine hK.out _ _ (HSS.out _ hC) (fun hHeld=>?_)
  clear hK K
  try simp only [putS]
  refine rd 20 (some 42) fun K hK=>?_
  clear hHeld
  go_simp
  refine(K4.out _).mono ?_
  rintro e w' ⟨rfl,rfl⟩
  go_wp2_with fail
  refine hK.out _ _ (HSS.out _ hC) (fun hHeld=>?_)
  clear hK K
  try simp only [putS]
  refine tka 21 43 hHeld ?_;simp only [putS]
  refine tka 22 12 hHeld ?_;simp only [putS]
  refine wpAnyH_done (by kernel_rfl) ?_ _
  clear hHeld
  go_wp2
  go_ret
  exact⟨ret_bool HX.out.symm,hB.trans (hC.mono hB.size)⟩
set_option maxRecDepth 100000 in
set_option maxHeartbeats 1600000 in
theorem iCoversLocation_c (csm:List Value) (m:ModelD) (csq:List Value) (q:QueryD) (css:List Value) (s:SpaceD) (k:Int) (i:Int) (b:Int) (w:World) (hm:(rModel NB).rep w csm m) (hq:(rQuery NB).rep w csq q) (hs:(rSpace NB).rep w css s) (hI:I64 i) :
  Calls Tryz.prog 132 #[.agg csm.toArray,.agg csq.toArray,.agg css.toArray,.int .i64 k,.int .i64 i,.int .i64 b] w fun e w'=>e=.returned (.bool (coversL m q s k i b))/\Below w.heap.size w w':=by
 have rm:=hm
 have lenm:=(rModel_ok NB).len hm
 clear hm
 have rq:=hq
 obtain⟨AqAtoms,nqAtoms,cqAtoms,rfl,hqVariableCount,hqAtoms⟩:=rQuery_rep.1 hq
 clear hq
 have rs:=hs
 obtain⟨AsBoxLow,nsBoxLow,csBoxLow,AsBoxHigh,nsBoxHigh,csBoxHigh,AsCosts,nsCosts,csCosts,AsChoices,nsChoices,csChoices,AsPlans,nsPlans,csPlans,rfl,hsBoxLow,hsBoxHigh,hsCosts,hsChoices,hsPlans⟩:=rSpace_rep.1 hs
 clear hs
 have hB:Below w.heap.size w w:=Below.refl _ _
 have hAm:=(Below.refl (World.heap (w)).size (w)).alloc (Nat.le_refl _) (.cells csm.toArray 50)
 replace hB:=hB.trans (hAm.mono hB.size)
 have bxm:=Bx.new (w) csm 50
 clear hAm
 have hAq:=(Below.refl (World.heap ((w).alloc (.cells csm.toArray 50))).size ((w).alloc (.cells csm.toArray 50))).alloc (Nat.le_refl _) (.cells #[.int .i64 q.fVariableCount,.slice AqAtoms nqAtoms cqAtoms] 54)
 replace hB:=hB.trans (hAq.mono hB.size)
 replace bxm:=bxm.below hAq
 have bxq:=Bx.new ((w).alloc (.cells csm.toArray 50)) [.int .i64 q.fVariableCount,.slice AqAtoms nqAtoms cqAtoms] 54
 simp only [World.size_alloc]at bxq
 clear hAq
 have hAs:=(Below.refl (World.heap (((w).alloc (.cells csm.toArray 50)).alloc (.cells #[.int .i64 q.fVariableCount,.slice AqAtoms nqAtoms cqAtoms] 54))).size (((w).alloc (.cells csm.toArray 50)).alloc (.cells #[.int .i64 q.fVariableCount,.slice AqAtoms nqAtoms cqAtoms] 54))).alloc (Nat.le_refl _) (.cells #[.slice AsBoxLow nsBoxLow csBoxLow,.slice AsBoxHigh nsBoxHigh csBoxHigh,.slice AsCosts nsCosts csCosts,.slice AsChoices nsChoices csChoices,.slice AsPlans nsPlans csPlans] 57)
 replace hB:=hB.trans (hAs.mono hB.size)
 replace bxm:=bxm.below hAs
 replace bxq:=bxq.below hAs
 have bxs:=Bx.new (((w).alloc (.cells csm.toArray 50)).alloc (.cells #[.int .i64 q.fVariableCount,.slice AqAtoms nqAtoms cqAtoms] 54)) [.slice AsBoxLow nsBoxLow csBoxLow,.slice AsBoxHigh nsBoxHigh csBoxHigh,.slice AsCosts nsCosts csCosts,.slice AsChoices nsChoices csChoices,.slice AsPlans nsPlans csPlans] 57
 simp only [World.size_alloc]at bxs
 clear hAs
 have lenm':csm.length=30:=lenm
 clear lenm
 go_enter Tryz.func132,Tryz.ntmps132
 have ks_0:=bxs 0 _ rfl
 have ks_1:=bxs 1 _ rfl
 have ks_2:=bxs 2 _ rfl
 have ks_3:=bxs 3 _ rfl
 have ks_4:=bxs 4 _ rfl
 go_wp2_with fail
 refine(iIsValidSpace_c _ s _ ((rSpace_ok NB).keep rs (cells_below hB))).mono ?_
 rintro e w1 ⟨rfl,hb1⟩
 replace hB:=hB.trans (hb1.mono hB.size)
 replace bxm:=bxm.below hb1
 replace bxq:=bxq.below hb1
 replace bxs:=bxs.below hb1
 clear hb1 ks_0 ks_1 ks_2 ks_3 ks_4
 cases e1:validSpace s
 ·have HN:=Lib.hid (coversL_0 (m:=m) (q:=q) (k:=k) (i:=i) (b:=b) e1);clear e1
  go_wp2
  go_ret
  exact⟨ret_bool (a:=false) HN.out.symm,hB⟩
 have HV:=Lib.hid e1;clear e1
 have kq_0:=bxq 0 _ rfl
 have kq_1:=bxq 1 _ rfl
 have ks_0:=bxs 0 _ rfl
 have ks_1:=bxs 1 _ rfl
 have ks_2:=bxs 2 _ rfl
 have ks_3:=bxs 3 _ rfl
 have ks_4:=bxs 4 _ rfl
 go_wp2_with (refine wpList_load_midG 50 _ rfl w.heap.size 0 rfl csm _ bxm.range Tryz.underlying50 rfl (by rw [lenm'];exact sizeModel) (by simp [Region.wanted,yielded]) ?_)
 refine(iCovers_c _ m _ q _ s k i b _ ((rModel_ok NB).keep rm (cells_below hB)) ((rQuery_ok NB).keep rq (cells_below hB)) ((rSpace_ok NB).keep rs (cells_below hB)) hI).mono ?_
 rintro e w2 ⟨rfl,hb2⟩
 replace hB:=hB.trans (hb2.mono hB.size)
 replace bxm:=bxm.below hb2
 replace bxq:=bxq.below hb2
 replace bxs:=bxs.below hb2
 clear hb2 kq_0 kq_1 ks_0 ks_1 ks_2 ks_3 ks_4
 go_wp2
 go_ret
 exact⟨ret_bool (coversL_1 HV.out rfl).symm,hB⟩
set_option maxRecDepth 100000 in
set_option maxHeartbeats 1600000 in
theorem sCoversLocation_c (csm:List Value) (m:ModelD) (csq:List Value) (q:QueryD) (css:List Value) (s:SpaceD) (k:Int) (i:Int) (b:Int) (w:World) (hm:(rModel NB).rep w csm m) (hq:(rQuery NB).rep w csq q) (hs:(rSpace NB).rep w css s) (hI:I64 i) :
  Calls Tryz.prog 117 #[.agg csm.toArray,.agg csq.toArray,.agg css.toArray,.int .i64 k,.int .i64 i,.int .i64 b] w fun e w'=>e=.returned (.bool (coversL m q s k i b))/\Below w.heap.size w w':=by
 have rm:=hm
 have lenm:=(rModel_ok NB).len hm
 clear hm
 have rq:=hq
 obtain⟨AqAtoms,nqAtoms,cqAtoms,rfl,hqVariableCount,hqAtoms⟩:=rQuery_rep.1 hq
 clear hq
 have rs:=hs
 obtain⟨AsBoxLow,nsBoxLow,csBoxLow,AsBoxHigh,nsBoxHigh,csBoxHigh,AsCosts,nsCosts,csCosts,AsChoices,nsChoices,csChoices,AsPlans,nsPlans,csPlans,rfl,hsBoxLow,hsBoxHigh,hsCosts,hsChoices,hsPlans⟩:=rSpace_rep.1 hs
 clear hs
 have hB:Below w.heap.size w w:=Below.refl _ _
 have hAm:=(Below.refl (World.heap (w)).size (w)).alloc (Nat.le_refl _) (.cells csm.toArray 50)
 replace hB:=hB.trans (hAm.mono hB.size)
 have bxm:=Bx.new (w) csm 50
 clear hAm
 have hAq:=(Below.refl (World.heap ((w).alloc (.cells csm.toArray 50))).size ((w).alloc (.cells csm.toArray 50))).alloc (Nat.le_refl _) (.cells #[.int .i64 q.fVariableCount,.slice AqAtoms nqAtoms cqAtoms] 54)
 replace hB:=hB.trans (hAq.mono hB.size)
 replace bxm:=bxm.below hAq
 have bxq:=Bx.new ((w).alloc (.cells csm.toArray 50)) [.int .i64 q.fVariableCount,.slice AqAtoms nqAtoms cqAtoms] 54
 simp only [World.size_alloc]at bxq
 clear hAq
 have hAs:=(Below.refl (World.heap (((w).alloc (.cells csm.toArray 50)).alloc (.cells #[.int .i64 q.fVariableCount,.slice AqAtoms nqAtoms cqAtoms] 54))).size (((w).alloc (.cells csm.toArray 50)).alloc (.cells #[.int .i64 q.fVariableCount,.slice AqAtoms nqAtoms cqAtoms] 54))).alloc (Nat.le_refl _) (.cells #[.slice AsBoxLow nsBoxLow csBoxLow,.slice AsBoxHigh nsBoxHigh csBoxHigh,.slice AsCosts nsCosts csCosts,.slice AsChoices nsChoices csChoices,.slice AsPlans nsPlans csPlans] 57)
 replace hB:=hB.trans (hAs.mono hB.size)
 replace bxm:=bxm.below hAs
 replace bxq:=bxq.below hAs
 have bxs:=Bx.new (((w).alloc (.cells csm.toArray 50)).alloc (.cells #[.int .i64 q.fVariableCount,.slice AqAtoms nqAtoms cqAtoms] 54)) [.slice AsBoxLow nsBoxLow csBoxLow,.slice AsBoxHigh nsBoxHigh csBoxHigh,.slice AsCosts nsCosts csCosts,.slice AsChoices nsChoices csChoices,.slice AsPlans nsPlans csPlans] 57
 simp only [World.size_alloc]at bxs
 clear hAs
 have lenm':csm.length=30:=lenm
 clear lenm
 have hnP:=hsPlans.bound
 have HLP:=Lib.hid hsPlans.len
 go_enter Tryz.func117,Tryz.ntmps117
 have ks_0:=bxs 0 _ rfl
 have ks_1:=bxs 1 _ rfl
 go_wp2_with fail
 refine(sBoxLocation_c _ s.fBox i _ (rBox_rep.2 ⟨AsBoxLow,nsBoxLow,csBoxLow,AsBoxHigh,nsBoxHigh,csBoxHigh,rfl,hsBoxLow.below rInt_ok hB,hsBoxHigh.below rInt_ok hB⟩) hI).mono ?_
 rintro e w1 ⟨Al,nl,cl,rfl,hL,hb1⟩
 replace hB:=hB.trans (hb1.mono hB.size)
 replace bxm:=bxm.below hb1
 replace bxq:=bxq.below hb1
 replace bxs:=bxs.below hb1
 clear hb1 ks_0 ks_1
 have wl:IntKind.i64.wrap ((nsPlans:Int) - 1)=(nsPlans:Int) - 1:=IntWalk.i64_in _ (by omega)
 cases e1:(boxLoc s.fBox i).2
 ·have HN:=Lib.hid (coversL_2 (coversX_1 (m:=m) (q:=q) (k:=k) (b:=b) e1));clear e1
  go_wp2
  go_ret
  exact⟨ret_bool (a:=false) HN.out.symm,hB⟩
 have HOK:=Lib.hid e1;clear e1
 have ks_0:=bxs 0 _ rfl
 have ks_1:=bxs 1 _ rfl
 have ks_2:=bxs 2 _ rfl
 have ks_3:=bxs 3 _ rfl
 have ks_4:=bxs 4 _ rfl
 go_wp2_with fail
 refine(sIsValidSpace_c _ s _ ((rSpace_ok NB).keep rs (cells_below hB))).mono ?_
 rintro e w2 ⟨rfl,hb2⟩
 replace hB:=hB.trans (hb2.mono hB.size)
 replace bxm:=bxm.below hb2
 replace bxq:=bxq.below hb2
 replace bxs:=bxs.below hb2
 replace hL:=hL.below rInt_ok hb2
 clear hb2 ks_0 ks_1 ks_2 ks_3 ks_4
 cases e1:validSpace s
 ·have HN:=Lib.hid (coversL_0 (m:=m) (q:=q) (k:=k) (i:=i) (b:=b) e1);clear e1
  go_wp2
  go_ret
  exact⟨ret_bool (a:=false) HN.out.symm,hB⟩
 have HV:=Lib.hid e1;clear e1
 cases e2:inR k 0 ((nsPlans:Int) - 1)
 ·have HN:=Lib.hid (coversL_2 (coversX_2 (m:=m) (q:=q) (i:=i) (b:=b) HLP.out e2))
  have K3:=Lib.hid (fun W=>l1In_v e2 W);clear e2
  have ks_4:=bxs 4 _ rfl
  go_wp2_with (go_at_call 30;refine(K3.out _).mono ?_;rintro e w' ⟨rfl,rfl⟩)
  go_ret
  exact⟨ret_bool (a:=false) HN.out.symm,hB⟩
 have K3:=Lib.hid (fun W=>l1In_v e2 W)
 obtain⟨j,rfl⟩:∃ j:Nat,k=j:=⟨k.toNat,by have:=(inR_t.1 e2).1;omega⟩
 have hj:j<nsPlans:=by have:=(inR_t.1 e2).2;omega
 obtain⟨bP,oP,p,Ar,nr,cr,rfl,hcP,hRP,hpX⟩:=hsPlans.planV hj
 obtain⟨c,hc⟩:∃ c,c=planCostAt m q p (boxLoc s.fBox i).1:=⟨_,rfl⟩
 have HX:Hid (coversX m q s (j:Int) i b=inR c 0 b):=by show _=_;rw [hc];exact coversX_3 HOK.out hpX.out
 have hjI:(j:Int)<(nsPlans:Int):=by omega
 have K2:Hid (∀ W,Below w2.heap.size w2 W->Calls Tryz.prog 146 #[.agg csm.toArray,.agg #[.int .i64 q.fVariableCount,.slice AqAtoms nqAtoms cqAtoms],.agg #[.slice Ar nr cr],.slice Al nl cl] W fun e w'=>e=.returned (.int .i64 c)/\Below W.heap.size W w'):=by
  show ∀ W,_->_
  intro W hW
  have hX:=hB.trans (hW.mono hB.size)
  rw [hc]
  exact sPlanCostAt_c _ m _ q _ p _ _ _ _ W ((rModel_ok NB).keep rm (cells_below hX)) ((rQuery_ok NB).keep rq (cells_below hX)) (rPlan_rep.2 ⟨_,_,_,rfl,hRP.below (rPlanStep_ok NB) hX⟩) ((hL.rs rInt_ok).below rInt_ok hW)
 clear hc hpX
 have E2:=Lib.hid e2;clear e2
 have HSS:Hid (∀ w',Below w2.heap.size w2 w'->(w'.rangeAt w.heap.size 0 csm/\w'.cell? ⟨w.heap.size+1,0,none⟩=some (.int .i64 q.fVariableCount)/\w'.cell? ⟨w.heap.size+1,1,none⟩=some (.slice AqAtoms nqAtoms cqAtoms)/\w'.cell? ⟨w.heap.size+1+1,4,none⟩=some (.slice (some ⟨bP,oP,none⟩) nsPlans csPlans)/\w'.cell? ⟨bP,oP+j,none⟩=some (.slice Ar nr cr))):=by
  show ∀ w',_->_
  intro w' hb
  exact⟨(bxm.below hb).range,(bxq.below hb) 0 _ rfl,(bxq.below hb) 1 _ rfl,(bxs.below hb) 4 _ rfl,cells_below (hB.trans (hb.mono hB.size)) _ _ hcP⟩
 have ks_4:=bxs 4 _ rfl
 go_wp2_with (go_at_call 30;refine(K3.out _).mono ?_;rintro e w' ⟨rfl,hww⟩;replace hww:=hww.symm;subst hww)
 refine hbg HSS.out (Below.refl _ _).drew (fun hHeld=>?_)
 refine' wpAnyH_take (i:=0) (oi:=⟨some 39,_,_,_,_,_⟩) (v:=_) rfl (by kernel_rfl) (by kernel_rfl) (by kernel_rfl) (fun _ _ _ h=>h) (yieldsIf_load_mid (by rfl) _ _ rfl _ _ rfl _ _ (fun w h=>h.1) Tryz.underlying50 rfl (by rw [lenm'];exact sizeModel)) hHeld ?_
 simp only [putS]
 refine tka 1 40 hHeld ?_;simp only [putS]
 refine tka 2 41 hHeld ?_;simp only [putS]
 refine tka 3 42 hHeld ?_;simp only [putS]
 refine tka 4 43 hHeld ?_;simp only [putS]
 refine tka 5 44 hHeld ?_;simp only [putS]
 refine tka 6 45 hHeld ?_;simp only [putS]
 refine tka 7 46 hHeld ?_;simp only [putS]
 refine rd 8 (some 47) fun K hK=>?_
 clear hHeld
 go_simp
 refine(K2.out _ (Below.refl w2.heap.size w2).drew).mono ?_
 rintro e w3 ⟨rfl,hb3⟩
 have hC:Below w2.heap.size w2 w3:=((Below.refl w2.heap.size w2).drew.trans (hb3.mono (by simp)))
 go_wp2_with fail
 refine hK.out _ _ (HSS.out _ hC) (fun hHeld=>?_)
 clear hK K
 try simp only [putS]
 refine tka 9 15 hHeld ?_;simp only [putS]
 refine wpAnyH_done (by kernel_rfl) ?_ _
 clear hHeld
 have hBf:=hB.trans (hC.mono hB.size)
 clear K2 K3 HSS
 by_cases hc0:c<0
 ·have HN:Hid (coversL m q s (j:Int) i b=false):=by show _=_;exact coversL_2 (by rw [HX.out];exact inR_f.2 (.inl hc0))
  go_wp2
  go_ret
  exact⟨ret_bool (a:=false) HN.out.symm,hBf⟩
 by_cases hcb:c<=b
 ·have HN:Hid (coversL m q s (j:Int) i b=true):=by show _=_;exact coversL_1 HV.out (by rw [HX.out];exact inR_t.2 ⟨by omega,hcb⟩)
  go_wp2
  go_ret
  exact⟨ret_bool (a:=true) HN.out.symm,hBf⟩
 ·have HN:Hid (coversL m q s (j:Int) i b=false):=by show _=_;exact coversL_2 (by rw [HX.out];exact inR_f.2 (.inr (by omega)))
  go_wp2
  go_ret
  exact⟨ret_bool (a:=false) HN.out.symm,hBf⟩
end Go.Proofs.YtcfmidbioecdcaaGreat
