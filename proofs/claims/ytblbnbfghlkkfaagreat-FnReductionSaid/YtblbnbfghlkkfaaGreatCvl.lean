/-
  Cvl
-/
import Derived.Test.YtblbnbfghlkkfaaGreatKeep
import Derived.Test.YtblbnbfghlkkfaaGreatPii
import Derived.Test.YtblbnbfghlkkfaaGreatBloc
import Derived.Test.YtblbnbfghlkkfaaGreatSpace
import Derived.Test.YtblbnbfghlkkfaaGreatLoc
namespace Go.Proofs.YtblbnbfghlkkfaaGreat
open Go.RowKit
set_option linter.unusedVariables false
set_option linter.unusedSimpArgs false
def coversX (m:ModelD) (q:QueryD) (s:SpaceD) (k i b:Int):Bool:=(boxLoc s.fBox i).2&&(inR k 0 ((s.fPlans.length:Int) - 1)&&(match s.fPlans[k.toNat]? with|some p=>inR (planCostAt m q p (boxLoc s.fBox i).1) 0 b|none=>false))
def coversL (m:ModelD) (q:QueryD) (s:SpaceD) (k i b:Int):Bool:=validSpace s&&coversX m q s k i b
theorem coversX_1 {m:ModelD}{q:QueryD}{s:SpaceD}{k i b:Int}(h:(boxLoc s.fBox i).2=false):coversX m q s k i b=false:=by simp [coversX,h]
theorem coversX_2 {m:ModelD}{q:QueryD}{s:SpaceD}{k i b:Int}{n:Nat}(hn:s.fPlans.length=n) (h:inR k 0 ((n:Int) - 1)=false):coversX m q s k i b=false:=by simp [coversX,hn,h]
theorem coversX_3 {m:ModelD}{q:QueryD}{s:SpaceD}{i b:Int}{j:Nat}{p:PlanD}(h:(boxLoc s.fBox i).2=true) (hp:s.fPlans[j]?=some p):coversX m q s (j:Int) i b=inR (planCostAt m q p (boxLoc s.fBox i).1) 0 b:=by
 have hj:=lt_of_at hp
 have h2:inR (j:Int) 0 ((s.fPlans.length:Int) - 1)=true:=inR_t.2 ⟨by omega,by omega⟩
 simp [coversX,h,h2,hp]
theorem coversL_0 {m:ModelD}{q:QueryD}{s:SpaceD}{k i b:Int}(h:validSpace s=false):coversL m q s k i b=false:=by simp [coversL,h]
theorem coversL_1 {m:ModelD}{q:QueryD}{s:SpaceD}{k i b:Int}{v:Bool}(h:validSpace s=true) (hx:coversX m q s k i b=v):coversL m q s k i b=v:=by simp [coversL,h,hx]
theorem coversL_2 {m:ModelD}{q:QueryD}{s:SpaceD}{k i b:Int}(hx:coversX m q s k i b=false):coversL m q s k i b=false:=by simp [coversL,hx]
theorem RS.planV {M:Nat}{w:World}{A:Option Addr}{n cap:Nat}{l:List PlanD}(h:RS M (rPlan NB) w A n cap l) {k:Nat}(hk:k<n) :
  ∃ b off x Ar nr cr,A=some ⟨b,off,none⟩/\w.cell? ⟨b,off+k,none⟩=some (.slice Ar nr cr)/\RS NB (rPlanStep NB) w Ar nr cr x.fSteps/\Hid (l[k]?=some x):=by
 obtain⟨b,off,x,cs,e,hrep,hc,hx⟩:=h.at_ hk
 obtain⟨A1,n1,c1,rfl,h1⟩:=rPlan_rep.1 hrep
 exact⟨b,off,x,A1,n1,c1,e,by simpa [rPlan_size]using hc 0 _ rfl,h1,hx⟩
theorem wpList_load_midG {P:Program}{ops:Array Oper}{rest:List Oper}{op:Oper}{a:Act}{w:World}{Q:Exit->Act->World->Prop}(ty:TypeId) (x:Operand) (ho:op.op=.load ty x)
  (b o:Nat) (hx:a.eval x=.pointer (some ⟨b,o,none⟩)) (cs:List Value) (d:TypeDesc) (hc:w.rangeAt b o cs)
  (hu:P.underlying ty=some d) (hd:d.isRow=true) (hi:(P.info? ty).map (·.size)=some cs.length)
  (hw:Region.wanted op (yielded ops a.tmps)=true) (h:wpList P ops Q rest (a.put op.dst (.agg cs.toArray)) w):wpList P ops Q (op::rest) a w :=
 wpList_step fun K hK=>by rw [if_pos hw];exact wp_load_mid ty x ho b o hx cs d hc hu hd hi (hK _ _ h)
set_option maxRecDepth 100000 in
set_option maxHeartbeats 1600000 in
theorem iCovers_c (csm:List Value) (m:ModelD) (csq:List Value) (q:QueryD) (css:List Value) (s:SpaceD) (k:Int) (i:Int) (b:Int) (w:World) (hm:(rModel NB).rep w csm m) (hq:(rQuery NB).rep w csq q) (hs:(rSpace NB).rep w css s) (hI:I64 i) :
  Calls Tryz.prog 41 #[.agg csm.toArray,.agg csq.toArray,.agg css.toArray,.int .i64 k,.int .i64 i,.int .i64 b] w fun e w'=>e=.returned (.bool (coversX m q s k i b))/\Below w.heap.size w w':=by
 have rm:=hm
 have lenm:=(rModel_ok NB).len hm
 clear hm
 have rq:=hq
 obtain⟨AqAtoms,nqAtoms,cqAtoms,rfl,hqVariableCount,hqAtoms⟩:=rQuery_rep.1 hq
 clear hq
 have rs:=hs
 obtain⟨AsBoxLow,nsBoxLow,csBoxLow,AsBoxHigh,nsBoxHigh,csBoxHigh,AsCosts,nsCosts,csCosts,AsChoices,nsChoices,csChoices,AsPlans,nsPlans,csPlans,rfl,hsBoxLow,hsBoxHigh,hsCosts,hsChoices,hsPlans⟩:=rSpace_rep.1 hs
 clear hs
 have hB:Below w.heap.size w w:=Below.refl _ _
 have hAm:=(Below.refl (World.heap (w)).size (w)).alloc (Nat.le_refl _) (.cells csm.toArray 28)
 replace hB:=hB.trans (hAm.mono hB.size)
 have bxm:=Bx.new (w) csm 28
 clear hAm
 have hAq:=(Below.refl (World.heap ((w).alloc (.cells csm.toArray 28))).size ((w).alloc (.cells csm.toArray 28))).alloc (Nat.le_refl _) (.cells #[.int .i64 q.fVariableCount,.slice AqAtoms nqAtoms cqAtoms] 31)
 replace hB:=hB.trans (hAq.mono hB.size)
 replace bxm:=bxm.below hAq
 have bxq:=Bx.new ((w).alloc (.cells csm.toArray 28)) [.int .i64 q.fVariableCount,.slice AqAtoms nqAtoms cqAtoms] 31
 simp only [World.size_alloc]at bxq
 clear hAq
 have hAs:=(Below.refl (World.heap (((w).alloc (.cells csm.toArray 28)).alloc (.cells #[.int .i64 q.fVariableCount,.slice AqAtoms nqAtoms cqAtoms] 31))).size (((w).alloc (.cells csm.toArray 28)).alloc (.cells #[.int .i64 q.fVariableCount,.slice AqAtoms nqAtoms cqAtoms] 31))).alloc (Nat.le_refl _) (.cells #[.slice AsBoxLow nsBoxLow csBoxLow,.slice AsBoxHigh nsBoxHigh csBoxHigh,.slice AsCosts nsCosts csCosts,.slice AsChoices nsChoices csChoices,.slice AsPlans nsPlans csPlans] 37)
 replace hB:=hB.trans (hAs.mono hB.size)
 replace bxm:=bxm.below hAs
 replace bxq:=bxq.below hAs
 have bxs:=Bx.new (((w).alloc (.cells csm.toArray 28)).alloc (.cells #[.int .i64 q.fVariableCount,.slice AqAtoms nqAtoms cqAtoms] 31)) [.slice AsBoxLow nsBoxLow csBoxLow,.slice AsBoxHigh nsBoxHigh csBoxHigh,.slice AsCosts nsCosts csCosts,.slice AsChoices nsChoices csChoices,.slice AsPlans nsPlans csPlans] 37
 simp only [World.size_alloc]at bxs
 clear hAs
 have lenm':csm.length=30:=lenm
 clear lenm
 have hnP:=hsPlans.bound
 have HLP:=Lib.hid hsPlans.len
 go_enter Tryz.func41,Tryz.ntmps41
 have ks_0:=bxs 0 _ rfl
 have ks_1:=bxs 1 _ rfl
 go_wp2_with fail
 refine(iBoxLocation_c _ s.fBox i _ (rBox_rep.2 ⟨AsBoxLow,nsBoxLow,csBoxLow,AsBoxHigh,nsBoxHigh,csBoxHigh,rfl,hsBoxLow.below rInt_ok hB,hsBoxHigh.below rInt_ok hB⟩) hI).mono ?_
 rintro e w1 ⟨Al,nl,cl,rfl,hL,hb1⟩
 replace hB:=hB.trans (hb1.mono hB.size)
 replace bxm:=bxm.below hb1
 replace bxq:=bxq.below hb1
 replace bxs:=bxs.below hb1
 clear hb1 ks_0 ks_1
 have wl:IntKind.i64.wrap ((nsPlans:Int) - 1)=(nsPlans:Int) - 1:=IntWalk.i64_in _ (by omega)
 cases e1:(boxLoc s.fBox i).2
 ·have HN:=Lib.hid (coversX_1 (m:=m) (q:=q) (k:=k) (b:=b) e1);clear e1
  have HSS:Hid (∀ w',Below w1.heap.size w1 w'->(w'.rangeAt w.heap.size 0 csm/\w'.cell? ⟨w.heap.size+1,0,none⟩=some (.int .i64 q.fVariableCount)/\w'.cell? ⟨w.heap.size+1,1,none⟩=some (.slice AqAtoms nqAtoms cqAtoms)/\w'.cell? ⟨w.heap.size+1+1,4,none⟩=some (.slice AsPlans nsPlans csPlans))):=by
   show ∀ w',_->_
   intro w' hb
   exact⟨(bxm.below hb).range,(bxq.below hb) 0 _ rfl,(bxq.below hb) 1 _ rfl,(bxs.below hb) 4 _ rfl⟩
  go_wp2
  refine hbg HSS.out (Below.refl _ _).drew (fun hHeld=>?_)
  refine tka 0 22 hHeld ?_;simp only [putS]
  refine tka 1 23 hHeld ?_;simp only [putS]
  refine tks 2 24 hHeld ?_;simp only [putS]
  refine tks 3 25 hHeld ?_;simp only [putS]
  refine tks 4 26 hHeld ?_;simp only [putS]
  refine tks 5 27 hHeld ?_;simp only [putS]
  refine tks 6 28 hHeld ?_;simp only [putS]
  refine tks 7 29 hHeld ?_;simp only [putS]
  refine tka 8 30 hHeld ?_;simp only [putS]
  refine tka 9 31 hHeld ?_;simp only [putS]
  refine tks 10 32 hHeld ?_;simp only [putS]
  refine tks 11 33 hHeld ?_;simp only [putS]
  refine tks 12 34 hHeld ?_;simp only [putS]
  refine tks 13 35 hHeld ?_;simp only [putS]
  refine tks 14 36 hHeld ?_;simp only [putS]
  refine tks 15 37 hHeld ?_;simp only [putS]
  refine tks 16 38 hHeld ?_;simp only [putS]
  refine tks 17 39 hHeld ?_;simp only [putS]
  refine tks 18 40 hHeld ?_;simp only [putS]
  refine tks 19 41 hHeld ?_;simp only [putS]
  refine tks 20 42 hHeld ?_;simp only [putS]
  refine tka 21 43 hHeld ?_;simp only [putS]
  refine tka 22 12 hHeld ?_;simp only [putS]
  refine wpAnyH_done (by kernel_rfl) ?_ _
  clear hHeld
  go_wp2
  go_ret
  exact⟨ret_bool (a:=false) HN.out.symm,hB.drew⟩
 have HOK:=Lib.hid e1;clear e1
 cases e2:inR k 0 ((nsPlans:Int) - 1)
 ·have HN:=Lib.hid (coversX_2 (m:=m) (q:=q) (i:=i) (b:=b) HLP.out e2)
  have K3:=Lib.hid (fun W=>within_v e2 W);clear e2
  have HSS:Hid (∀ w',Below w1.heap.size w1 w'->(w'.rangeAt w.heap.size 0 csm/\w'.cell? ⟨w.heap.size+1,0,none⟩=some (.int .i64 q.fVariableCount)/\w'.cell? ⟨w.heap.size+1,1,none⟩=some (.slice AqAtoms nqAtoms cqAtoms)/\w'.cell? ⟨w.heap.size+1+1,4,none⟩=some (.slice AsPlans nsPlans csPlans))):=by
   show ∀ w',_->_
   intro w' hb
   exact⟨(bxm.below hb).range,(bxq.below hb) 0 _ rfl,(bxq.below hb) 1 _ rfl,(bxs.below hb) 4 _ rfl⟩
  go_wp2
  refine hbg HSS.out (Below.refl _ _).drew (fun hHeld=>?_)
  refine tka 0 22 hHeld ?_;simp only [putS]
  refine tka 1 23 hHeld ?_;simp only [putS]
  refine tka 2 24 hHeld ?_;simp only [putS]
  refine tka 3 25 hHeld ?_;simp only [putS]
  refine tka 4 26 hHeld ?_;simp only [putS]
  refine tka 5 27 hHeld ?_;simp only [putS]
  refine tka 6 28 hHeld ?_;simp only [putS]
  refine rd 7 (some 29) fun K hK=>?_
  clear hHeld
  go_simp
  refine(K3.out _).mono ?_
  rintro e w' ⟨rfl,rfl⟩
  go_wp2_with fail
  refine hK.out _ _ (HSS.out _ (Below.refl _ _).drew) (fun hHeld=>?_)
  clear hK K
  try simp only [putS]
  refine tka 8 30 hHeld ?_;simp only [putS]
  refine tka 9 31 hHeld ?_;simp only [putS]
  refine tks 10 32 hHeld ?_;simp only [putS]
  refine tks 11 33 hHeld ?_;simp only [putS]
  refine tks 12 34 hHeld ?_;simp only [putS]
  refine tks 13 35 hHeld ?_;simp only [putS]
  refine tks 14 36 hHeld ?_;simp only [putS]
  refine tks 15 37 hHeld ?_;simp only [putS]
  refine tks 16 38 hHeld ?_;simp only [putS]
  refine tks 17 39 hHeld ?_;simp only [putS]
  refine tks 18 40 hHeld ?_;simp only [putS]
  refine tks 19 41 hHeld ?_;simp only [putS]
  refine tks 20 42 hHeld ?_;simp only [putS]
  refine tka 21 43 hHeld ?_;simp only [putS]
  refine tka 22 12 hHeld ?_;simp only [putS]
  refine wpAnyH_done (by kernel_rfl) ?_ _
  clear hHeld
  go_wp2
  go_ret
  exact⟨ret_bool (a:=false) HN.out.symm,hB.drew⟩
 have K3:=Lib.hid (fun W=>within_v e2 W)
 obtain⟨j,rfl⟩:∃ j:Nat,k=j:=⟨k.toNat,by have:=(inR_t.1 e2).1;omega⟩
 have hj:j<nsPlans:=by have:=(inR_t.1 e2).2;omega
 obtain⟨bP,oP,p,Ar,nr,cr,rfl,hcP,hRP,hpX⟩:=hsPlans.planV hj
 obtain⟨c,hc⟩:∃ c,c=planCostAt m q p (boxLoc s.fBox i).1:=⟨_,rfl⟩
 have HX:Hid (coversX m q s (j:Int) i b=inR c 0 b):=by show _=_;rw [hc];exact coversX_3 HOK.out hpX.out
 have hjI:(j:Int)<(nsPlans:Int):=by omega
 have K2:Hid (∀ W,Below w1.heap.size w1 W->Calls Tryz.prog 63 #[.agg csm.toArray,.agg #[.int .i64 q.fVariableCount,.slice AqAtoms nqAtoms cqAtoms],.agg #[.slice Ar nr cr],.slice Al nl cl] W fun e w'=>e=.returned (.int .i64 c)/\Below W.heap.size W w'):=by
  show ∀ W,_->_
  intro W hW
  have hX:=hB.trans (hW.mono hB.size)
  rw [hc]
  exact iPlanCostAt_c _ m _ q _ p _ _ _ _ W ((rModel_ok NB).keep rm (cells_below hX)) ((rQuery_ok NB).keep rq (cells_below hX)) (rPlan_rep.2 ⟨_,_,_,rfl,hRP.below (rPlanStep_ok NB) hX⟩) ((hL.rs rInt_ok).below rInt_ok hW)
 clear hc hpX
 have E2:=Lib.hid e2;clear e2
 have HSS:Hid (∀ w',Below w1.heap.size w1 w'->(w'.rangeAt w.heap.size 0 csm/\w'.cell? ⟨w.heap.size+1,0,none⟩=some (.int .i64 q.fVariableCount)/\w'.cell? ⟨w.heap.size+1,1,none⟩=some (.slice AqAtoms nqAtoms cqAtoms)/\w'.cell? ⟨w.heap.size+1+1,4,none⟩=some (.slice (some ⟨bP,oP,none⟩) nsPlans csPlans)/\w'.cell? ⟨bP,oP+j,none⟩=some (.slice Ar nr cr))):=by
  show ∀ w',_->_
  intro w' hb
  exact⟨(bxm.below hb).range,(bxq.below hb) 0 _ rfl,(bxq.below hb) 1 _ rfl,(bxs.below hb) 4 _ rfl,cells_below (hB.trans (hb.mono hB.size)) _ _ hcP⟩
 cases e3:inR c 0 b
 all_goals
  have K4:=Lib.hid (fun W=>within_v e3 W)
  rw [e3]at HX
  clear e3
  go_wp2
  refine hbg HSS.out (Below.refl _ _).drew (fun hHeld=>?_)
  refine tka 0 22 hHeld ?_;simp only [putS]
  refine tka 1 23 hHeld ?_;simp only [putS]
  refine tka 2 24 hHeld ?_;simp only [putS]
  refine tka 3 25 hHeld ?_;simp only [putS]
  refine tka 4 26 hHeld ?_;simp only [putS]
  refine tka 5 27 hHeld ?_;simp only [putS]
  refine tka 6 28 hHeld ?_;simp only [putS]
  refine rd 7 (some 29) fun K hK=>?_
  clear hHeld
  go_simp
  refine(K3.out _).mono ?_
  rintro e w' ⟨rfl,rfl⟩
  go_wp2_with fail
  refine hK.out _ _ (HSS.out _ (Below.refl _ _).drew) (fun hHeld=>?_)
  clear hK K
  try simp only [putS]
  refine tka 8 30 hHeld ?_;simp only [putS]
  refine tka 9 31 hHeld ?_;simp only [putS]
  refine' wpAnyH_take (i:=10) (oi:=⟨some 32,_,_,_,_,_⟩) (v:=_) rfl (by kernel_rfl) (by kernel_rfl) (by kernel_rfl) (fun _ _ _ h=>h) (yieldsIf_load_mid (by rfl) _ _ rfl _ _ rfl _ _ (fun w h=>h.1) Tryz.underlying28 rfl (by rw [lenm'];exact sizeModel)) hHeld ?_
  simp only [putS]
  refine tka 11 33 hHeld ?_;simp only [putS]
  refine tka 12 34 hHeld ?_;simp only [putS]
  refine tka 13 35 hHeld ?_;simp only [putS]
  refine tka 14 36 hHeld ?_;simp only [putS]
  refine tka 15 37 hHeld ?_;simp only [putS]
  refine tka 16 38 hHeld ?_;simp only [putS]
  refine tka 17 39 hHeld ?_;simp only [putS]
  refine tka 19 41 hHeld ?_;simp only [putS]
  refine rd 18 (some 40) fun K hK=>?_
  clear hHeld
  go_simp
  refine(K2.out _ (Below.refl w1.heap.size w1).drew).mono ?_
  rintro e w3 ⟨rfl,hb3⟩
  have hC:Below w1.heap.size w1 w3:=((Below.refl w1.heap.size w1).drew.trans (hb3.mono (by simp)))
  go_wp2_with fail
  refine hK.out _ _ (HSS.out _ hC) (fun hHeld=>?_)
  clear hK K
  try simp only [putS]
  refine rd 20 (some 42) fun K hK=>?_
  clear hHeld
  go_simp
  refine(K4.out _).mono ?_
  rintro e w' ⟨rfl,rfl⟩
  go_wp2_with fail
  refine hK.out _ _ (HSS.out _ hC) (fun hHeld=>?_)
  clear hK K
  try simp only [putS]
  refine tka 21 43 hHeld ?_;simp only [putS]
  refine tka 22 12 hHeld ?_;simp only [putS]
  refine wpAnyH_done (by kernel_rfl) ?_ _
  clear hHeld
  go_wp2
  go_ret
  exact⟨ret_bool HX.out.symm,hB.trans (hC.mono hB.size)⟩
set_option maxRecDepth 100000 in
set_option maxHeartbeats 1600000 in
theorem iCoversLocation_c (csm:List Value) (m:ModelD) (csq:List Value) (q:QueryD) (css:List Value) (s:SpaceD) (k:Int) (i:Int) (b:Int) (w:World) (hm:(rModel NB).rep w csm m) (hq:(rQuery NB).rep w csq q) (hs:(rSpace NB).rep w css s) (hI:I64 i) :
  Calls Tryz.prog 26 #[.agg csm.toArray,.agg csq.toArray,.agg css.toArray,.int .i64 k,.int .i64 i,.int .i64 b] w fun e w'=>e=.returned (.bool (coversL m q s k i b))/\Below w.heap.size w w':=by
 have rm:=hm
 have lenm:=(rModel_ok NB).len hm
 clear hm
 have rq:=hq
 obtain⟨AqAtoms,nqAtoms,cqAtoms,rfl,hqVariableCount,hqAtoms⟩:=rQuery_rep.1 hq
 clear hq
 have rs:=hs
 obtain⟨AsBoxLow,nsBoxLow,csBoxLow,AsBoxHigh,nsBoxHigh,csBoxHigh,AsCosts,nsCosts,csCosts,AsChoices,nsChoices,csChoices,AsPlans,nsPlans,csPlans,rfl,hsBoxLow,hsBoxHigh,hsCosts,hsChoices,hsPlans⟩:=rSpace_rep.1 hs
 clear hs
 have hB:Below w.heap.size w w:=Below.refl _ _
 have hAm:=(Below.refl (World.heap (w)).size (w)).alloc (Nat.le_refl _) (.cells csm.toArray 28)
 replace hB:=hB.trans (hAm.mono hB.size)
 have bxm:=Bx.new (w) csm 28
 clear hAm
 have hAq:=(Below.refl (World.heap ((w).alloc (.cells csm.toArray 28))).size ((w).alloc (.cells csm.toArray 28))).alloc (Nat.le_refl _) (.cells #[.int .i64 q.fVariableCount,.slice AqAtoms nqAtoms cqAtoms] 31)
 replace hB:=hB.trans (hAq.mono hB.size)
 replace bxm:=bxm.below hAq
 have bxq:=Bx.new ((w).alloc (.cells csm.toArray 28)) [.int .i64 q.fVariableCount,.slice AqAtoms nqAtoms cqAtoms] 31
 simp only [World.size_alloc]at bxq
 clear hAq
 have hAs:=(Below.refl (World.heap (((w).alloc (.cells csm.toArray 28)).alloc (.cells #[.int .i64 q.fVariableCount,.slice AqAtoms nqAtoms cqAtoms] 31))).size (((w).alloc (.cells csm.toArray 28)).alloc (.cells #[.int .i64 q.fVariableCount,.slice AqAtoms nqAtoms cqAtoms] 31))).alloc (Nat.le_refl _) (.cells #[.slice AsBoxLow nsBoxLow csBoxLow,.slice AsBoxHigh nsBoxHigh csBoxHigh,.slice AsCosts nsCosts csCosts,.slice AsChoices nsChoices csChoices,.slice AsPlans nsPlans csPlans] 37)
 replace hB:=hB.trans (hAs.mono hB.size)
 replace bxm:=bxm.below hAs
 replace bxq:=bxq.below hAs
 have bxs:=Bx.new (((w).alloc (.cells csm.toArray 28)).alloc (.cells #[.int .i64 q.fVariableCount,.slice AqAtoms nqAtoms cqAtoms] 31)) [.slice AsBoxLow nsBoxLow csBoxLow,.slice AsBoxHigh nsBoxHigh csBoxHigh,.slice AsCosts nsCosts csCosts,.slice AsChoices nsChoices csChoices,.slice AsPlans nsPlans csPlans] 37
 simp only [World.size_alloc]at bxs
 clear hAs
 have lenm':csm.length=30:=lenm
 clear lenm
 go_enter Tryz.func26,Tryz.ntmps26
 have ks_0:=bxs 0 _ rfl
 have ks_1:=bxs 1 _ rfl
 have ks_2:=bxs 2 _ rfl
 have ks_3:=bxs 3 _ rfl
 have ks_4:=bxs 4 _ rfl
 go_wp2_with fail
 refine(iIsValidSpace_c _ s _ ((rSpace_ok NB).keep rs (cells_below hB))).mono ?_
 rintro e w1 ⟨rfl,hb1⟩
 replace hB:=hB.trans (hb1.mono hB.size)
 replace bxm:=bxm.below hb1
 replace bxq:=bxq.below hb1
 replace bxs:=bxs.below hb1
 clear hb1 ks_0 ks_1 ks_2 ks_3 ks_4
 cases e1:validSpace s
 ·have HN:=Lib.hid (coversL_0 (m:=m) (q:=q) (k:=k) (i:=i) (b:=b) e1);clear e1
  go_wp2
  go_ret
  exact⟨ret_bool (a:=false) HN.out.symm,hB⟩
 have HV:=Lib.hid e1;clear e1
 have kq_0:=bxq 0 _ rfl
 have kq_1:=bxq 1 _ rfl
 have ks_0:=bxs 0 _ rfl
 have ks_1:=bxs 1 _ rfl
 have ks_2:=bxs 2 _ rfl
 have ks_3:=bxs 3 _ rfl
 have ks_4:=bxs 4 _ rfl
 go_wp2_with (refine wpList_load_midG 28 _ rfl w.heap.size 0 rfl csm _ bxm.range Tryz.underlying28 rfl (by rw [lenm'];exact sizeModel) (by simp [Region.wanted,yielded]) ?_)
 refine(iCovers_c _ m _ q _ s k i b _ ((rModel_ok NB).keep rm (cells_below hB)) ((rQuery_ok NB).keep rq (cells_below hB)) ((rSpace_ok NB).keep rs (cells_below hB)) hI).mono ?_
 rintro e w2 ⟨rfl,hb2⟩
 replace hB:=hB.trans (hb2.mono hB.size)
 replace bxm:=bxm.below hb2
 replace bxq:=bxq.below hb2
 replace bxs:=bxs.below hb2
 clear hb2 kq_0 kq_1 ks_0 ks_1 ks_2 ks_3 ks_4
 go_wp2
 go_ret
 exact⟨ret_bool (coversL_1 HV.out rfl).symm,hB⟩
set_option maxRecDepth 100000 in
set_option maxHeartbeats 1600000 in
theorem sCoversLocation_c (csm:List Value) (m:ModelD) (csq:List Value) (q:QueryD) (css:List Value) (s:SpaceD) (k:Int) (i:Int) (b:Int) (w:World) (hm:(rModel NB).rep w csm m) (hq:(rQuery NB).rep w csq q) (hs:(rSpace NB).rep w css s) (hI:I64 i) :
  Calls Tryz.prog 29 #[.agg csm.toArray,.agg csq.toArray,.agg css.toArray,.int .i64 k,.int .i64 i,.int .i64 b] w fun e w'=>e=.returned (.bool (coversL m q s k i b))/\Below w.heap.size w w':=by
 have rm:=hm
 have lenm:=(rModel_ok NB).len hm
 clear hm
 have rq:=hq
 obtain⟨AqAtoms,nqAtoms,cqAtoms,rfl,hqVariableCount,hqAtoms⟩:=rQuery_rep.1 hq
 clear hq
 have rs:=hs
 obtain⟨AsBoxLow,nsBoxLow,csBoxLow,AsBoxHigh,nsBoxHigh,csBoxHigh,AsCosts,nsCosts,csCosts,AsChoices,nsChoices,csChoices,AsPlans,nsPlans,csPlans,rfl,hsBoxLow,hsBoxHigh,hsCosts,hsChoices,hsPlans⟩:=rSpace_rep.1 hs
 clear hs
 have hB:Below w.heap.size w w:=Below.refl _ _
 have hAm:=(Below.refl (World.heap (w)).size (w)).alloc (Nat.le_refl _) (.cells csm.toArray 28)
 replace hB:=hB.trans (hAm.mono hB.size)
 have bxm:=Bx.new (w) csm 28
 clear hAm
 have hAq:=(Below.refl (World.heap ((w).alloc (.cells csm.toArray 28))).size ((w).alloc (.cells csm.toArray 28))).alloc (Nat.le_refl _) (.cells #[.int .i64 q.fVariableCount,.slice AqAtoms nqAtoms cqAtoms] 31)
 replace hB:=hB.trans (hAq.mono hB.size)
 replace bxm:=bxm.below hAq
 have bxq:=Bx.new ((w).alloc (.cells csm.toArray 28)) [.int .i64 q.fVariableCount,.slice AqAtoms nqAtoms cqAtoms] 31
 simp only [World.size_alloc]at bxq
 clear hAq
 have hAs:=(Below.refl (World.heap (((w).alloc (.cells csm.toArray 28)).alloc (.cells #[.int .i64 q.fVariableCount,.slice AqAtoms nqAtoms cqAtoms] 31))).size (((w).alloc (.cells csm.toArray 28)).alloc (.cells #[.int .i64 q.fVariableCount,.slice AqAtoms nqAtoms cqAtoms] 31))).alloc (Nat.le_refl _) (.cells #[.slice AsBoxLow nsBoxLow csBoxLow,.slice AsBoxHigh nsBoxHigh csBoxHigh,.slice AsCosts nsCosts csCosts,.slice AsChoices nsChoices csChoices,.slice AsPlans nsPlans csPlans] 37)
 replace hB:=hB.trans (hAs.mono hB.size)
 replace bxm:=bxm.below hAs
 replace bxq:=bxq.below hAs
 have bxs:=Bx.new (((w).alloc (.cells csm.toArray 28)).alloc (.cells #[.int .i64 q.fVariableCount,.slice AqAtoms nqAtoms cqAtoms] 31)) [.slice AsBoxLow nsBoxLow csBoxLow,.slice AsBoxHigh nsBoxHigh csBoxHigh,.slice AsCosts nsCosts csCosts,.slice AsChoices nsChoices csChoices,.slice AsPlans nsPlans csPlans] 37
 simp only [World.size_alloc]at bxs
 clear hAs
 have lenm':csm.length=30:=lenm
 clear lenm
 have hnP:=hsPlans.bound
 have HLP:=Lib.hid hsPlans.len
 go_enter Tryz.func29,Tryz.ntmps29
 have ks_0:=bxs 0 _ rfl
 have ks_1:=bxs 1 _ rfl
 go_wp2_with fail
 refine(sBoxLocation_c _ s.fBox i _ (rBox_rep.2 ⟨AsBoxLow,nsBoxLow,csBoxLow,AsBoxHigh,nsBoxHigh,csBoxHigh,rfl,hsBoxLow.below rInt_ok hB,hsBoxHigh.below rInt_ok hB⟩) hI).mono ?_
 rintro e w1 ⟨Al,nl,cl,rfl,hL,hb1⟩
 replace hB:=hB.trans (hb1.mono hB.size)
 replace bxm:=bxm.below hb1
 replace bxq:=bxq.below hb1
 replace bxs:=bxs.below hb1
 clear hb1 ks_0 ks_1
 have wl:IntKind.i64.wrap ((nsPlans:Int) - 1)=(nsPlans:Int) - 1:=IntWalk.i64_in _ (by omega)
 cases e1:(boxLoc s.fBox i).2
 ·have HN:=Lib.hid (coversL_2 (coversX_1 (m:=m) (q:=q) (k:=k) (b:=b) e1));clear e1
  go_wp2
  go_ret
  exact⟨ret_bool (a:=false) HN.out.symm,hB⟩
 have HOK:=Lib.hid e1;clear e1
 have ks_0:=bxs 0 _ rfl
 have ks_1:=bxs 1 _ rfl
 have ks_2:=bxs 2 _ rfl
 have ks_3:=bxs 3 _ rfl
 have ks_4:=bxs 4 _ rfl
 go_wp2_with fail
 refine(sIsValidSpace_c _ s _ ((rSpace_ok NB).keep rs (cells_below hB))).mono ?_
 rintro e w2 ⟨rfl,hb2⟩
 replace hB:=hB.trans (hb2.mono hB.size)
 replace bxm:=bxm.below hb2
 replace bxq:=bxq.below hb2
 replace bxs:=bxs.below hb2
 replace hL:=hL.below rInt_ok hb2
 clear hb2 ks_0 ks_1 ks_2 ks_3 ks_4
 cases e1:validSpace s
 ·have HN:=Lib.hid (coversL_0 (m:=m) (q:=q) (k:=k) (i:=i) (b:=b) e1);clear e1
  go_wp2
  go_ret
  exact⟨ret_bool (a:=false) HN.out.symm,hB⟩
 have HV:=Lib.hid e1;clear e1
 cases e2:inR k 0 ((nsPlans:Int) - 1)
 ·have HN:=Lib.hid (coversL_2 (coversX_2 (m:=m) (q:=q) (i:=i) (b:=b) HLP.out e2))
  have K3:=Lib.hid (fun W=>l1In_v e2 W);clear e2
  have ks_4:=bxs 4 _ rfl
  go_wp2_with (go_at_call 25;refine(K3.out _).mono ?_;rintro e w' ⟨rfl,rfl⟩)
  go_ret
  exact⟨ret_bool (a:=false) HN.out.symm,hB⟩
 have K3:=Lib.hid (fun W=>l1In_v e2 W)
 obtain⟨j,rfl⟩:∃ j:Nat,k=j:=⟨k.toNat,by have:=(inR_t.1 e2).1;omega⟩
 have hj:j<nsPlans:=by have:=(inR_t.1 e2).2;omega
 obtain⟨bP,oP,p,Ar,nr,cr,rfl,hcP,hRP,hpX⟩:=hsPlans.planV hj
 obtain⟨c,hc⟩:∃ c,c=planCostAt m q p (boxLoc s.fBox i).1:=⟨_,rfl⟩
 have HX:Hid (coversX m q s (j:Int) i b=inR c 0 b):=by show _=_;rw [hc];exact coversX_3 HOK.out hpX.out
 have hjI:(j:Int)<(nsPlans:Int):=by omega
 have K2:Hid (∀ W,Below w2.heap.size w2 W->Calls Tryz.prog 43 #[.agg csm.toArray,.agg #[.int .i64 q.fVariableCount,.slice AqAtoms nqAtoms cqAtoms],.agg #[.slice Ar nr cr],.slice Al nl cl] W fun e w'=>e=.returned (.int .i64 c)/\Below W.heap.size W w'):=by
  show ∀ W,_->_
  intro W hW
  have hX:=hB.trans (hW.mono hB.size)
  rw [hc]
  exact sPlanCostAt_c _ m _ q _ p _ _ _ _ W ((rModel_ok NB).keep rm (cells_below hX)) ((rQuery_ok NB).keep rq (cells_below hX)) (rPlan_rep.2 ⟨_,_,_,rfl,hRP.below (rPlanStep_ok NB) hX⟩) ((hL.rs rInt_ok).below rInt_ok hW)
 clear hc hpX
 have E2:=Lib.hid e2;clear e2
 have HSS:Hid (∀ w',Below w2.heap.size w2 w'->(w'.rangeAt w.heap.size 0 csm/\w'.cell? ⟨w.heap.size+1,0,none⟩=some (.int .i64 q.fVariableCount)/\w'.cell? ⟨w.heap.size+1,1,none⟩=some (.slice AqAtoms nqAtoms cqAtoms)/\w'.cell? ⟨w.heap.size+1+1,4,none⟩=some (.slice (some ⟨bP,oP,none⟩) nsPlans csPlans)/\w'.cell? ⟨bP,oP+j,none⟩=some (.slice Ar nr cr))):=by
  show ∀ w',_->_
  intro w' hb
  exact⟨(bxm.below hb).range,(bxq.below hb) 0 _ rfl,(bxq.below hb) 1 _ rfl,(bxs.below hb) 4 _ rfl,cells_below (hB.trans (hb.mono hB.size)) _ _ hcP⟩
 have ks_4:=bxs 4 _ rfl
 go_wp2_with (go_at_call 25;refine(K3.out _).mono ?_;rintro e w' ⟨rfl,hww⟩;replace hww:=hww.symm;subst hww)
 refine hbg HSS.out (Below.refl _ _).drew (fun hHeld=>?_)
 refine' wpAnyH_take (i:=0) (oi:=⟨some 39,_,_,_,_,_⟩) (v:=_) rfl (by kernel_rfl) (by kernel_rfl) (by kernel_rfl) (fun _ _ _ h=>h) (yieldsIf_load_mid (by rfl) _ _ rfl _ _ rfl _ _ (fun w h=>h.1) Tryz.underlying28 rfl (by rw [lenm'];exact sizeModel)) hHeld ?_
 simp only [putS]
 refine tka 1 40 hHeld ?_;simp only [putS]
 refine tka 2 41 hHeld ?_;simp only [putS]
 refine tka 3 42 hHeld ?_;simp only [putS]
 refine tka 4 43 hHeld ?_;simp only [putS]
 refine tka 5 44 hHeld ?_;simp only [putS]
 refine tka 6 45 hHeld ?_;simp only [putS]
 refine tka 7 46 hHeld ?_;simp only [putS]
 refine rd 8 (some 47) fun K hK=>?_
 clear hHeld
 go_simp
 refine(K2.out _ (Below.refl w2.heap.size w2).drew).mono ?_
 rintro e w3 ⟨rfl,hb3⟩
 have hC:Below w2.heap.size w2 w3:=((Below.refl w2.heap.size w2).drew.trans (hb3.mono (by simp)))
 go_wp2_with fail
 refine hK.out _ _ (HSS.out _ hC) (fun hHeld=>?_)
 clear hK K
 try simp only [putS]
 refine tka 9 15 hHeld ?_;simp only [putS]
 refine wpAnyH_done (by kernel_rfl) ?_ _
 clear hHeld
 have hBf:=hB.trans (hC.mono hB.size)
 clear K2 K3 HSS
 by_cases hc0:c<0
 ·have HN:Hid (coversL m q s (j:Int) i b=false):=by show _=_;exact coversL_2 (by rw [HX.out];exact inR_f.2 (.inl hc0))
  go_wp2
  go_ret
  exact⟨ret_bool (a:=false) HN.out.symm,hBf⟩
 by_cases hcb:c<=b
 ·have HN:Hid (coversL m q s (j:Int) i b=true):=by show _=_;exact coversL_1 HV.out (by rw [HX.out];exact inR_t.2 ⟨by omega,hcb⟩)
  go_wp2
  go_ret
  exact⟨ret_bool (a:=true) HN.out.symm,hBf⟩
 ·have HN:Hid (coversL m q s (j:Int) i b=false):=by show _=_;exact coversL_2 (by rw [HX.out];exact inR_f.2 (.inr (by omega)))
  go_wp2
  go_ret
  exact⟨ret_bool (a:=false) HN.out.symm,hBf⟩
end Go.Proofs.YtblbnbfghlkkfaaGreat
namespace Go.Proofs.YtblbnbfghlkkfaaGreat
open Go.RowKit
set_option linter.unusedVariables false
set_option linter.unusedSimpArgs false
theorem filter_no {p:Int->Bool}{l:List Int}{k:Nat}{x:Int}(h:l[k]?=some x) (hp:p x=false):(l.take (k+1)).filter p=(l.take k).filter p:=by
 rw [take_snoc h,List.filter_append];simp [hp]
theorem filter_yes {p:Int->Bool}{l:List Int}{k:Nat}{x:Int}(h:l[k]?=some x) (hp:p x=true):(l.take (k+1)).filter p=(l.take k).filter p++[x]:=by
 rw [take_snoc h,List.filter_append];simp [hp]
set_option maxRecDepth 100000 in
set_option maxHeartbeats 1600000 in
theorem iCoveredBy_c (csm:List Value) (m:ModelD) (csq:List Value) (q:QueryD) (css:List Value) (s:SpaceD) (k:Int) (Af:Option Addr) (nf cf:Nat) (f:List Int) (b:Int) (w:World) (hm:(rModel NB).rep w csm m) (hq:(rQuery NB).rep w csq q) (hs:(rSpace NB).rep w css s) (hf:RS NB rInt w Af nf cf f) :
  Calls Tryz.prog 11 #[.agg csm.toArray,.agg csq.toArray,.agg css.toArray,.int .i64 k,.slice Af nf cf,.int .i64 b] w (RetS 3 rInt (f.filter (fun x=>coversL m q s k x b)) w):=by
 have rm:=hm
 have lenm:=(rModel_ok NB).len hm
 clear hm
 have rq:=hq
 obtain⟨AqAtoms,nqAtoms,cqAtoms,rfl,hqVariableCount,hqAtoms⟩:=rQuery_rep.1 hq
 clear hq
 have rs:=hs
 obtain⟨AsBoxLow,nsBoxLow,csBoxLow,AsBoxHigh,nsBoxHigh,csBoxHigh,AsCosts,nsCosts,csCosts,AsChoices,nsChoices,csChoices,AsPlans,nsPlans,csPlans,rfl,hsBoxLow,hsBoxHigh,hsCosts,hsChoices,hsPlans⟩:=rSpace_rep.1 hs
 clear hs
 have hB:Below w.heap.size w w:=Below.refl _ _
 have hAm:=(Below.refl (World.heap (w)).size (w)).alloc (Nat.le_refl _) (.cells csm.toArray 28)
 replace hB:=hB.trans (hAm.mono hB.size)
 have bxm:=Bx.new (w) csm 28
 clear hAm
 have hAq:=(Below.refl (World.heap ((w).alloc (.cells csm.toArray 28))).size ((w).alloc (.cells csm.toArray 28))).alloc (Nat.le_refl _) (.cells #[.int .i64 q.fVariableCount,.slice AqAtoms nqAtoms cqAtoms] 31)
 replace hB:=hB.trans (hAq.mono hB.size)
 replace bxm:=bxm.below hAq
 have bxq:=Bx.new ((w).alloc (.cells csm.toArray 28)) [.int .i64 q.fVariableCount,.slice AqAtoms nqAtoms cqAtoms] 31
 simp only [World.size_alloc]at bxq
 clear hAq
 have hAs:=(Below.refl (World.heap (((w).alloc (.cells csm.toArray 28)).alloc (.cells #[.int .i64 q.fVariableCount,.slice AqAtoms nqAtoms cqAtoms] 31))).size (((w).alloc (.cells csm.toArray 28)).alloc (.cells #[.int .i64 q.fVariableCount,.slice AqAtoms nqAtoms cqAtoms] 31))).alloc (Nat.le_refl _) (.cells #[.slice AsBoxLow nsBoxLow csBoxLow,.slice AsBoxHigh nsBoxHigh csBoxHigh,.slice AsCosts nsCosts csCosts,.slice AsChoices nsChoices csChoices,.slice AsPlans nsPlans csPlans] 37)
 replace hB:=hB.trans (hAs.mono hB.size)
 replace bxm:=bxm.below hAs
 replace bxq:=bxq.below hAs
 have bxs:=Bx.new (((w).alloc (.cells csm.toArray 28)).alloc (.cells #[.int .i64 q.fVariableCount,.slice AqAtoms nqAtoms cqAtoms] 31)) [.slice AsBoxLow nsBoxLow csBoxLow,.slice AsBoxHigh nsBoxHigh csBoxHigh,.slice AsCosts nsCosts csCosts,.slice AsChoices nsChoices csChoices,.slice AsPlans nsPlans csPlans] 37
 simp only [World.size_alloc]at bxs
 clear hAs
 have lenm':csm.length=30:=lenm
 clear lenm
 have hnf:=hf.bound
 go_enter Tryz.func11,Tryz.ntmps11
 go_upto_region 1 with fail
 obtain⟨wb,hwb⟩:∃ W,W=((w.alloc (.cells csm.toArray 28)).alloc (.cells #[.int .i64 q.fVariableCount,.slice AqAtoms nqAtoms cqAtoms] 31)).alloc (.cells #[.slice AsBoxLow nsBoxLow csBoxLow,.slice AsBoxHigh nsBoxHigh csBoxHigh,.slice AsCosts nsCosts csCosts,.slice AsChoices nsChoices csChoices,.slice AsPlans nsPlans csPlans] 37):=⟨_,rfl⟩
 rw [<- hwb]at hB bxm bxq bxs ⊢
 clear hwb
 go_upto_region 2 with fail
 have hM0:=MS.empty (B:=wb.heap.size) (M:=NB) (e:=3) (r:=rInt) wb (Nat.le_refl _)
 have hE0:=(Below.refl wb.heap.size wb).alloc (Nat.le_refl _) (.cells #[] 3)
 go_wp2
 go_loopw [13,19] (fun so i wr=>∃ (j:Nat) (AO:Option Addr) (n c:Nat),j<=nf/\n<=j/\i=.int .i64 j/\so=.slice AO n c/\MS wb.heap.size NB 3 rInt wr AO n c ((f.take j).filter (fun x=>coversL m q s k x b))/\Below wb.heap.size wb wr) (fun _ i _=>nf - (intOf i).toNat)
 case atStart=>exact⟨0,_,0,0,Nat.zero_le _,Nat.le_refl _,rfl,rfl,hM0,hE0⟩
 case round =>
  clear hM0 hE0
  obtain⟨j,AO,n,c,hj,hnj,rfl,rfl,hM,hE⟩:=hrel
  have hB2:=hB.trans (hE.mono hB.size)
  by_cases hlt:j<nf
  ·obtain⟨bf,of,x,rfl,hc,hI,hx⟩:=hf.ati hlt
   have HX:=Lib.hid hx.out;clear hx
   replace hc:=cells_below hB2 _ _ hc
   have K1:Hid (∀ W,Below wb.heap.size wb W->Calls Tryz.prog 26 #[.agg csm.toArray,.agg #[.int .i64 q.fVariableCount,.slice AqAtoms nqAtoms cqAtoms],.agg #[.slice AsBoxLow nsBoxLow csBoxLow,.slice AsBoxHigh nsBoxHigh csBoxHigh,.slice AsCosts nsCosts csCosts,.slice AsChoices nsChoices csChoices,.slice AsPlans nsPlans csPlans],.int .i64 k,.int .i64 x,.int .i64 b] W fun e w'=>e=.returned (.bool (coversL m q s k x b))/\Below W.heap.size W w'):=by
    show ∀ W,_->_
    intro W hW
    have hX:=hB.trans (hW.mono hB.size)
    exact iCoversLocation_c _ m _ q _ s k x b W ((rModel_ok NB).keep rm (cells_below hX)) ((rQuery_ok NB).keep rq (cells_below hX)) ((rSpace_ok NB).keep rs (cells_below hX)) hI
   have kq_0:=(bxq.below hE) 0 _ rfl
   have kq_1:=(bxq.below hE) 1 _ rfl
   have ks_0:=(bxs.below hE) 0 _ rfl
   have ks_1:=(bxs.below hE) 1 _ rfl
   have ks_2:=(bxs.below hE) 2 _ rfl
   have ks_3:=(bxs.below hE) 3 _ rfl
   have ks_4:=(bxs.below hE) 4 _ rfl
   go_wp2_with (refine wpList_load_mid rfl 28 _ rfl w.heap.size 0 rfl csm _ (bxm.below hE).range Tryz.underlying28 rfl (by rw [lenm'];exact sizeModel) ?_)
   refine(K1.out _ hE).mono ?_
   rintro e w2 ⟨rfl,hC⟩
   clear kq_0 kq_1 ks_0 ks_1 ks_2 ks_3 ks_4
   have hE2:=hE.trans (hC.mono hE.size)
   have hM2:=hM.below rInt_ok hC
   replace hc:=cells_below hC _ _ hc
   cases hv:coversL m q s k x b
   ·have HV:=Lib.hid (filter_no (p:=fun x=>coversL m q s k x b) HX.out hv);clear hv
    go_wp2
    go_roundw
    case rel=>exact⟨j+1,AO,n,c,by omega,by omega,by go_num,rfl,by rw [HV.out];exact hM2,hE2⟩
    case measure=>simp [intOf];omega
   ·have HV:=Lib.hid (filter_yes (p:=fun x=>coversL m q s k x b) HX.out hv);clear hv
    go_wp2_with (at_builtin;refine wpList_app (r:=rInt) rfl _ _ 32 rfl _ 8 eiInt rInt_ok rfl hM2 ((Below.refl _ _).alloc (Nat.le_refl _) _) hE2.size ⟨_,0,none⟩ rfl [] [.int .i64 x] x ⟨rfl,rfl,hI⟩ (Fr.nil _) (cell_one_new _ _ _) (by unfold NB at *;omega) (Nat.le_refl _) (by unfold NB at *;omega) ?_;intro A2 k2 w9 hM9 hb9 hg9)
    go_roundw
    case rel=>exact⟨j+1,A2,n+1,k2,by omega,by omega,by go_num,rfl,by rw [HV.out];exact hM9,(hE2.alloc hE2.size _).trans hb9⟩
    case measure=>simp [intOf];omega
  ·have HE:Hid (f.take j=f):=by show _=_;exact take_all hf.len hlt
   rw [HE.out]at hM
   go_wp2
   go_ret
   exact⟨_,_,_,rfl,hM.base hB.size,hB2⟩
set_option maxRecDepth 100000 in
set_option maxHeartbeats 1600000 in
theorem sCoveredBy_c (csm:List Value) (m:ModelD) (csq:List Value) (q:QueryD) (css:List Value) (s:SpaceD) (k:Int) (Af:Option Addr) (nf cf:Nat) (f:List Int) (b:Int) (w:World) (hm:(rModel NB).rep w csm m) (hq:(rQuery NB).rep w csq q) (hs:(rSpace NB).rep w css s) (hf:RS NB rInt w Af nf cf f) :
  Calls Tryz.prog 23 #[.agg csm.toArray,.agg csq.toArray,.agg css.toArray,.int .i64 k,.slice Af nf cf,.int .i64 b] w (RetS 3 rInt (f.filter (fun x=>coversL m q s k x b)) w):=by
 have rm:=hm
 have lenm:=(rModel_ok NB).len hm
 clear hm
 have rq:=hq
 obtain⟨AqAtoms,nqAtoms,cqAtoms,rfl,hqVariableCount,hqAtoms⟩:=rQuery_rep.1 hq
 clear hq
 have rs:=hs
 obtain⟨AsBoxLow,nsBoxLow,csBoxLow,AsBoxHigh,nsBoxHigh,csBoxHigh,AsCosts,nsCosts,csCosts,AsChoices,nsChoices,csChoices,AsPlans,nsPlans,csPlans,rfl,hsBoxLow,hsBoxHigh,hsCosts,hsChoices,hsPlans⟩:=rSpace_rep.1 hs
 clear hs
 have hB:Below w.heap.size w w:=Below.refl _ _
 have hAm:=(Below.refl (World.heap (w)).size (w)).alloc (Nat.le_refl _) (.cells csm.toArray 28)
 replace hB:=hB.trans (hAm.mono hB.size)
 have bxm:=Bx.new (w) csm 28
 clear hAm
 have hAq:=(Below.refl (World.heap ((w).alloc (.cells csm.toArray 28))).size ((w).alloc (.cells csm.toArray 28))).alloc (Nat.le_refl _) (.cells #[.int .i64 q.fVariableCount,.slice AqAtoms nqAtoms cqAtoms] 31)
 replace hB:=hB.trans (hAq.mono hB.size)
 replace bxm:=bxm.below hAq
 have bxq:=Bx.new ((w).alloc (.cells csm.toArray 28)) [.int .i64 q.fVariableCount,.slice AqAtoms nqAtoms cqAtoms] 31
 simp only [World.size_alloc]at bxq
 clear hAq
 have hAs:=(Below.refl (World.heap (((w).alloc (.cells csm.toArray 28)).alloc (.cells #[.int .i64 q.fVariableCount,.slice AqAtoms nqAtoms cqAtoms] 31))).size (((w).alloc (.cells csm.toArray 28)).alloc (.cells #[.int .i64 q.fVariableCount,.slice AqAtoms nqAtoms cqAtoms] 31))).alloc (Nat.le_refl _) (.cells #[.slice AsBoxLow nsBoxLow csBoxLow,.slice AsBoxHigh nsBoxHigh csBoxHigh,.slice AsCosts nsCosts csCosts,.slice AsChoices nsChoices csChoices,.slice AsPlans nsPlans csPlans] 37)
 replace hB:=hB.trans (hAs.mono hB.size)
 replace bxm:=bxm.below hAs
 replace bxq:=bxq.below hAs
 have bxs:=Bx.new (((w).alloc (.cells csm.toArray 28)).alloc (.cells #[.int .i64 q.fVariableCount,.slice AqAtoms nqAtoms cqAtoms] 31)) [.slice AsBoxLow nsBoxLow csBoxLow,.slice AsBoxHigh nsBoxHigh csBoxHigh,.slice AsCosts nsCosts csCosts,.slice AsChoices nsChoices csChoices,.slice AsPlans nsPlans csPlans] 37
 simp only [World.size_alloc]at bxs
 clear hAs
 have lenm':csm.length=30:=lenm
 clear lenm
 have hnf:=hf.bound
 go_enter Tryz.func23,Tryz.ntmps23
 go_upto_region 1 with fail
 obtain⟨wb,hwb⟩:∃ W,W=((w.alloc (.cells csm.toArray 28)).alloc (.cells #[.int .i64 q.fVariableCount,.slice AqAtoms nqAtoms cqAtoms] 31)).alloc (.cells #[.slice AsBoxLow nsBoxLow csBoxLow,.slice AsBoxHigh nsBoxHigh csBoxHigh,.slice AsCosts nsCosts csCosts,.slice AsChoices nsChoices csChoices,.slice AsPlans nsPlans csPlans] 37):=⟨_,rfl⟩
 rw [<- hwb]at hB bxm bxq bxs ⊢
 clear hwb
 go_upto_region 2 with fail
 have hM0:=MS.empty (B:=wb.heap.size) (M:=NB) (e:=3) (r:=rInt) wb (Nat.le_refl _)
 have hE0:=(Below.refl wb.heap.size wb).alloc (Nat.le_refl _) (.cells #[] 3)
 go_wp2
 go_loopw [13,14] (fun so i wr=>∃ (j:Nat) (AO:Option Addr) (n c:Nat),j<=nf/\n<=j/\i=.int .i64 j/\so=.slice AO n c/\MS wb.heap.size NB 3 rInt wr AO n c ((f.take j).filter (fun x=>coversL m q s k x b))/\Below wb.heap.size wb wr) (fun _ i _=>nf - (intOf i).toNat)
 case atStart=>exact⟨0,_,0,0,Nat.zero_le _,Nat.le_refl _,rfl,rfl,hM0,hE0⟩
 case round =>
  clear hM0 hE0
  obtain⟨j,AO,n,c,hj,hnj,rfl,rfl,hM,hE⟩:=hrel
  have hB2:=hB.trans (hE.mono hB.size)
  by_cases hlt:j<nf
  ·obtain⟨bf,of,x,rfl,hc,hI,hx⟩:=hf.ati hlt
   have HX:=Lib.hid hx.out;clear hx
   replace hc:=cells_below hB2 _ _ hc
   have K1:Hid (∀ W,Below wb.heap.size wb W->Calls Tryz.prog 29 #[.agg csm.toArray,.agg #[.int .i64 q.fVariableCount,.slice AqAtoms nqAtoms cqAtoms],.agg #[.slice AsBoxLow nsBoxLow csBoxLow,.slice AsBoxHigh nsBoxHigh csBoxHigh,.slice AsCosts nsCosts csCosts,.slice AsChoices nsChoices csChoices,.slice AsPlans nsPlans csPlans],.int .i64 k,.int .i64 x,.int .i64 b] W fun e w'=>e=.returned (.bool (coversL m q s k x b))/\Below W.heap.size W w'):=by
    show ∀ W,_->_
    intro W hW
    have hX:=hB.trans (hW.mono hB.size)
    exact sCoversLocation_c _ m _ q _ s k x b W ((rModel_ok NB).keep rm (cells_below hX)) ((rQuery_ok NB).keep rq (cells_below hX)) ((rSpace_ok NB).keep rs (cells_below hX)) hI
   have HSS:Hid (∀ w',Below wr.heap.size wr w'->(w'.rangeAt w.heap.size 0 csm/\w'.cell? ⟨w.heap.size+1,0,none⟩=some (.int .i64 q.fVariableCount)/\w'.cell? ⟨w.heap.size+1,1,none⟩=some (.slice AqAtoms nqAtoms cqAtoms)/\w'.cell? ⟨w.heap.size+1+1,0,none⟩=some (.slice AsBoxLow nsBoxLow csBoxLow)/\w'.cell? ⟨w.heap.size+1+1,1,none⟩=some (.slice AsBoxHigh nsBoxHigh csBoxHigh)/\w'.cell? ⟨w.heap.size+1+1,2,none⟩=some (.slice AsCosts nsCosts csCosts)/\w'.cell? ⟨w.heap.size+1+1,3,none⟩=some (.slice AsChoices nsChoices csChoices)/\w'.cell? ⟨w.heap.size+1+1,4,none⟩=some (.slice AsPlans nsPlans csPlans)/\w'.cell? ⟨bf,of+j,none⟩=some (.int .i64 x))):=by
    show ∀ w',_->_
    intro w' hb
    have hz:=hE.trans (hb.mono hE.size)
    exact⟨(bxm.below hz).range,(bxq.below hz) 0 _ rfl,(bxq.below hz) 1 _ rfl,(bxs.below hz) 0 _ rfl,(bxs.below hz) 1 _ rfl,(bxs.below hz) 2 _ rfl,(bxs.below hz) 3 _ rfl,(bxs.below hz) 4 _ rfl,cells_below hb _ _ hc⟩
   go_wp2
   refine hbg HSS.out (Below.refl _ _).drew (fun hHeld=>?_)
   refine' wpAnyH_take (i:=0) (oi:=⟨some 22,_,_,_,_,_⟩) (v:=_) rfl (by kernel_rfl) (by kernel_rfl) (by kernel_rfl) (fun _ _ _ h=>h) (yieldsIf_load_mid (by rfl) _ _ rfl _ _ rfl _ _ (fun w h=>h.1) Tryz.underlying28 rfl (by rw [lenm'];exact sizeModel)) hHeld ?_
   simp only [putS]
   refine tka 1 23 hHeld ?_;simp only [putS]
   refine tka 2 24 hHeld ?_;simp only [putS]
   refine tka 3 25 hHeld ?_;simp only [putS]
   refine tka 4 26 hHeld ?_;simp only [putS]
   refine tka 5 27 hHeld ?_;simp only [putS]
   refine tka 6 28 hHeld ?_;simp only [putS]
   refine tka 7 29 hHeld ?_;simp only [putS]
   refine tka 8 30 hHeld ?_;simp only [putS]
   refine rd 9 (some 31) fun K hK=>?_
   clear hHeld
   go_simp
   refine(K1.out _ (hE.drew)).mono ?_
   rintro e w2 ⟨rfl,hb2⟩
   have hC:Below wr.heap.size wr w2:=((Below.refl wr.heap.size wr).drew.trans (hb2.mono (by simp)))
   go_wp2_with fail
   refine hK.out _ _ (HSS.out _ hC) (fun hHeld=>?_)
   clear hK K
   try simp only [putS]
   refine wpAnyH_done (by kernel_rfl) ?_ _
   clear hHeld
   clear HSS
   have hE2:=hE.trans (hC.mono hE.size)
   have hM2:=hM.below rInt_ok hC
   replace hc:=cells_below hC _ _ hc
   cases hv:coversL m q s k x b
   ·have HV:=Lib.hid (filter_no (p:=fun x=>coversL m q s k x b) HX.out hv);clear hv
    go_wp2
    go_roundw
    case rel=>exact⟨j+1,AO,n,c,by omega,by omega,by go_num,rfl,by rw [HV.out];exact hM2,hE2⟩
    case measure=>simp [intOf];omega
   ·have HV:=Lib.hid (filter_yes (p:=fun x=>coversL m q s k x b) HX.out hv);clear hv
    go_wp2_with (at_builtin;refine wpList_app (r:=rInt) rfl _ _ 32 rfl _ 8 eiInt rInt_ok rfl hM2 ((Below.refl _ _).alloc (Nat.le_refl _) _) hE2.size ⟨_,0,none⟩ rfl [] [.int .i64 x] x ⟨rfl,rfl,hI⟩ (Fr.nil _) (cell_one_new _ _ _) (by unfold NB at *;omega) (Nat.le_refl _) (by unfold NB at *;omega) ?_;intro A2 k2 w9 hM9 hb9 hg9)
    go_roundw
    case rel=>exact⟨j+1,A2,n+1,k2,by omega,by omega,by go_num,rfl,by rw [HV.out];exact hM9,(hE2.alloc hE2.size _).trans hb9⟩
    case measure=>simp [intOf];omega
  ·have HE:Hid (f.take j=f):=by show _=_;exact take_all hf.len hlt
   rw [HE.out]at hM
   go_wp2
   go_ret
   exact⟨_,_,_,rfl,hM.base hB.size,hB2⟩
end Go.Proofs.YtblbnbfghlkkfaaGreat
namespace Go.Proofs.YtblbnbfghlkkfaaGreat
open Go.RowKit
set_option linter.unusedVariables false
set_option linter.unusedSimpArgs false
theorem idxOfAny {α:Type}(p:α->Bool) (l:List α):decide (0<=idxOf p l)=l.any p:=by
 unfold idxOf
 cases hf:l.findIdx? p with
 | none =>
  rw [List.findIdx?_eq_none_iff]at hf
  have:l.any p=false:=by rw [List.any_eq_false];intro x hx;simpa using hf x hx
  rw [this];rfl
 | some i =>
  have h:=(List.findIdx?_eq_some_iff_getElem.1 hf)
  obtain⟨hi,hp,_⟩:=h
  have:l.any p=true:=by rw [List.any_eq_true];exact⟨_,List.getElem_mem hi,hp⟩
  rw [this];simp
theorem all_no2 {α:Type}{p:α->Bool}{l:List α}{k:Nat}{x:α}(h:l[k]?=some x) (hx:p x=false):l.all p=false:=by
 rw [List.all_eq_false];exact⟨x,mem_of_at h,by simp [hx]⟩
theorem any_of_take {α:Type}{p:α->Bool}{l:List α}{k:Nat}(h:(l.take k).any p=true):l.any p=true:=by
 rw [List.any_eq_true]at h ⊢
 obtain⟨x,hx,hp⟩:=h
 exact⟨x,List.mem_of_mem_take hx,hp⟩
set_option maxRecDepth 100000 in
set_option maxHeartbeats 1600000 in
theorem indexFunc_IsPlanCover_1_c (A:Option Addr) (n cap:Nat) (l:List Int) (cp1:Value) (cp2:Value) (cp3:Value) (cp4:Value) (cp5:Value) (p:Int->Bool) (w:World) (hr:RS NB rInt w A n cap l)
  (hf:∀ x W,x∈l->Below w.heap.size w W->Calls Tryz.prog 28 #[.int .i64 x,cp1,cp2,cp3,cp4,cp5] W fun e w'=>e=.returned (.bool (p x))/\Below W.heap.size W w') :
  Calls Tryz.prog 38 #[.slice A n cap,.func (.func 28) #[] #[cp1,cp2,cp3,cp4,cp5]] w fun e w'=>e=.returned (.int .i64 (idxOf p l))/\Below w.heap.size w w':=by
 have hn:=hr.bound
 have HF:=Lib.hid hf;clear hf
 go_enter Tryz.func38,Tryz.ntmps38
 go_wp2
 go_loopw [8] (fun i wr=>∃ k:Nat,k<=n/\i=.int .i64 k/\(l.take k).all (fun b=>!p b)=true/\Below w.heap.size w wr) (fun i _=>n - (intOf i).toNat)
 case atStart=>exact⟨0,Nat.zero_le _,rfl,rfl,Below.refl _ _⟩
 case round =>
  obtain⟨k,hk,rfl,hall,hb⟩:=hrel
  have Hall:=Lib.hid hall;clear hall
  by_cases hlt:k<n
  ·obtain⟨b,off,x,rfl,hc,hI,hxk⟩:=(hr.below rInt_ok hb).ati hlt
   cases hx:p x
   ·go_wp2_with (go_at_call 28;refine(HF.out x wr (mem_of_at hxk.out) hb).mono ?_;rintro e w1 ⟨rfl,hb1⟩)
    go_roundw
    case rel=>exact⟨k+1,by omega,by go_num,all_snoc' Hall.out hxk.out (by simp [hx]),hb.trans (hb1.mono hb.size)⟩
    case measure=>simp [intOf];omega
   ·go_wp2_with (go_at_call 28;refine(HF.out x wr (mem_of_at hxk.out) hb).mono ?_;rintro e w1 ⟨rfl,hb1⟩)
    go_ret
    exact⟨ret_int (idxOf_yes Hall.out hxk.out hx).symm,hb.trans (hb1.mono hb.size)⟩
  ·go_wp2
   go_ret
   exact⟨ret_int (a:=-1) (idxOf_no (take_all hr.len hlt▸Hall.out)).symm,hb⟩
set_option maxRecDepth 100000 in
set_option maxHeartbeats 1600000 in
theorem containsFunc_IsPlanCover_1_c (A:Option Addr) (n cap:Nat) (l:List Int) (cp1:Value) (cp2:Value) (cp3:Value) (cp4:Value) (cp5:Value) (p:Int->Bool) (w:World) (hr:RS NB rInt w A n cap l)
  (hf:∀ x W,x∈l->Below w.heap.size w W->Calls Tryz.prog 28 #[.int .i64 x,cp1,cp2,cp3,cp4,cp5] W fun e w'=>e=.returned (.bool (p x))/\Below W.heap.size W w') :
  Calls Tryz.prog 27 #[.slice A n cap,.func (.func 28) #[] #[cp1,cp2,cp3,cp4,cp5]] w fun e w'=>e=.returned (.bool (l.any p))/\Below w.heap.size w w':=by
 go_enter Tryz.func27,Tryz.ntmps27
 go_wp2_with fail
 refine(indexFunc_IsPlanCover_1_c A n cap l _ _ _ _ _ p w hr hf).mono ?_
 rintro e w1 ⟨rfl,hb1⟩
 generalize hk:idxOf p l=k
 have HK:=Lib.hid hk;clear hk
 go_wp2
 go_ret
 exact⟨ret_bool (by rw [<- idxOfAny,HK.out]),hb1⟩
set_option maxRecDepth 100000 in
set_option maxHeartbeats 1600000 in
theorem planCoverFn_c {csm:List Value}{m:ModelD}{csq:List Value}{q:QueryD}{css:List Value}{s:SpaceD}{k x b:Int}{gm gq gs gx gb:Nat}{w:World}(hm:(rModel NB).rep w csm m) (hq:(rQuery NB).rep w csq q) (hs:(rSpace NB).rep w css s) (bm:Bx w gm csm) (bq:Bx w gq csq) (bs:Bx w gs css) (bx:w.cell? ⟨gx,0,none⟩=some (.int .i64 x)) (bb:w.cell? ⟨gb,0,none⟩=some (.int .i64 b)) (lenm':csm.length=30) (hI:I64 x) :
  Calls Tryz.prog 28 #[.int .i64 k,.pointer (some ⟨gm,0,none⟩),.pointer (some ⟨gq,0,none⟩),.pointer (some ⟨gs,0,none⟩),.pointer (some ⟨gx,0,none⟩),.pointer (some ⟨gb,0,none⟩)] w fun e w'=>e=.returned (.bool (coversL m q s k x b))/\Below w.heap.size w w':=by
 have rq:=hq
 have rs:=hs
 obtain⟨Aq,nq,cq,rfl,_,_⟩:=rQuery_rep.1 hq
 obtain⟨A1,n1,c1,A2,n2,c2,A3,n3,c3,A4,n4,c4,A5,n5,c5,rfl,_,_,_,_,_⟩:=rSpace_rep.1 hs
 have q0:=bq 0 _ rfl
 have q1:=bq 1 _ rfl
 have s0:=bs 0 _ rfl
 have s1:=bs 1 _ rfl
 have s2:=bs 2 _ rfl
 have s3:=bs 3 _ rfl
 have s4:=bs 4 _ rfl
 go_enter Tryz.func28,Tryz.ntmps28
 go_wp2_with (refine wpList_load_mid rfl 28 _ rfl gm 0 rfl csm _ bm.range Tryz.underlying28 rfl (by rw [lenm'];exact sizeModel) ?_)
 refine(iCoversLocation_c _ m _ q _ s k x b _ hm rq rs hI).mono ?_
 rintro e w1 ⟨rfl,hb1⟩
 go_wp2
 go_ret
 exact⟨rfl,hb1⟩
set_option maxRecDepth 100000 in
set_option maxHeartbeats 1600000 in
theorem iIsPlanCover_c (csm:List Value) (m:ModelD) (csq:List Value) (q:QueryD) (css:List Value) (s:SpaceD) (Ap:Option Addr) (np cp:Nat) (p:List Int) (Af:Option Addr) (nf cf:Nat) (f:List Int) (b:Int) (w:World) (hm:(rModel NB).rep w csm m) (hq:(rQuery NB).rep w csq q) (hs:(rSpace NB).rep w css s) (hp:RS NB rInt w Ap np cp p) (hf:RS NB rInt w Af nf cf f) :
  Calls Tryz.prog 12 #[.agg csm.toArray,.agg csq.toArray,.agg css.toArray,.slice Ap np cp,.slice Af nf cf,.int .i64 b] w fun e w'=>e=.returned (.bool (f.all (fun x=>p.any (fun k=>coversL m q s k x b))))/\Below w.heap.size w w':=by
 have rm:=hm
 have lenm:=(rModel_ok NB).len hm
 clear hm
 have rq:=hq
 obtain⟨AqAtoms,nqAtoms,cqAtoms,rfl,hqVariableCount,hqAtoms⟩:=rQuery_rep.1 hq
 clear hq
 have rs:=hs
 obtain⟨AsBoxLow,nsBoxLow,csBoxLow,AsBoxHigh,nsBoxHigh,csBoxHigh,AsCosts,nsCosts,csCosts,AsChoices,nsChoices,csChoices,AsPlans,nsPlans,csPlans,rfl,hsBoxLow,hsBoxHigh,hsCosts,hsChoices,hsPlans⟩:=rSpace_rep.1 hs
 clear hs
 have hB:Below w.heap.size w w:=Below.refl _ _
 have hAm:=(Below.refl (World.heap (w)).size (w)).alloc (Nat.le_refl _) (.cells csm.toArray 28)
 replace hB:=hB.trans (hAm.mono hB.size)
 have bxm:=Bx.new (w) csm 28
 clear hAm
 have hAq:=(Below.refl (World.heap ((w).alloc (.cells csm.toArray 28))).size ((w).alloc (.cells csm.toArray 28))).alloc (Nat.le_refl _) (.cells #[.int .i64 q.fVariableCount,.slice AqAtoms nqAtoms cqAtoms] 31)
 replace hB:=hB.trans (hAq.mono hB.size)
 replace bxm:=bxm.below hAq
 have bxq:=Bx.new ((w).alloc (.cells csm.toArray 28)) [.int .i64 q.fVariableCount,.slice AqAtoms nqAtoms cqAtoms] 31
 simp only [World.size_alloc]at bxq
 clear hAq
 have hAs:=(Below.refl (World.heap (((w).alloc (.cells csm.toArray 28)).alloc (.cells #[.int .i64 q.fVariableCount,.slice AqAtoms nqAtoms cqAtoms] 31))).size (((w).alloc (.cells csm.toArray 28)).alloc (.cells #[.int .i64 q.fVariableCount,.slice AqAtoms nqAtoms cqAtoms] 31))).alloc (Nat.le_refl _) (.cells #[.slice AsBoxLow nsBoxLow csBoxLow,.slice AsBoxHigh nsBoxHigh csBoxHigh,.slice AsCosts nsCosts csCosts,.slice AsChoices nsChoices csChoices,.slice AsPlans nsPlans csPlans] 37)
 replace hB:=hB.trans (hAs.mono hB.size)
 replace bxm:=bxm.below hAs
 replace bxq:=bxq.below hAs
 have bxs:=Bx.new (((w).alloc (.cells csm.toArray 28)).alloc (.cells #[.int .i64 q.fVariableCount,.slice AqAtoms nqAtoms cqAtoms] 31)) [.slice AsBoxLow nsBoxLow csBoxLow,.slice AsBoxHigh nsBoxHigh csBoxHigh,.slice AsCosts nsCosts csCosts,.slice AsChoices nsChoices csChoices,.slice AsPlans nsPlans csPlans] 37
 simp only [World.size_alloc]at bxs
 clear hAs
 have lenm':csm.length=30:=lenm
 clear lenm
 have hnf:=hf.bound
 go_enter Tryz.func12,Tryz.ntmps12
 go_upto_region 1 with fail
 obtain⟨wb,hwb⟩:∃ W,W=(((w.alloc (.cells csm.toArray 28)).alloc (.cells #[.int .i64 q.fVariableCount,.slice AqAtoms nqAtoms cqAtoms] 31)).alloc (.cells #[.slice AsBoxLow nsBoxLow csBoxLow,.slice AsBoxHigh nsBoxHigh csBoxHigh,.slice AsCosts nsCosts csCosts,.slice AsChoices nsChoices csChoices,.slice AsPlans nsPlans csPlans] 37)).alloc (.cells #[.int .i64 b] 3):=⟨_,rfl⟩
 have hBA:=(Below.refl (((w.alloc (.cells csm.toArray 28)).alloc (.cells #[.int .i64 q.fVariableCount,.slice AqAtoms nqAtoms cqAtoms] 31)).alloc (.cells #[.slice AsBoxLow nsBoxLow csBoxLow,.slice AsBoxHigh nsBoxHigh csBoxHigh,.slice AsCosts nsCosts csCosts,.slice AsChoices nsChoices csChoices,.slice AsPlans nsPlans csPlans] 37)).heap.size (((w.alloc (.cells csm.toArray 28)).alloc (.cells #[.int .i64 q.fVariableCount,.slice AqAtoms nqAtoms cqAtoms] 31)).alloc (.cells #[.slice AsBoxLow nsBoxLow csBoxLow,.slice AsBoxHigh nsBoxHigh csBoxHigh,.slice AsCosts nsCosts csCosts,.slice AsChoices nsChoices csChoices,.slice AsPlans nsPlans csPlans] 37))).alloc (Nat.le_refl _) (.cells #[.int .i64 b] 3)
 have bxb:=Bx.new (((w.alloc (.cells csm.toArray 28)).alloc (.cells #[.int .i64 q.fVariableCount,.slice AqAtoms nqAtoms cqAtoms] 31)).alloc (.cells #[.slice AsBoxLow nsBoxLow csBoxLow,.slice AsBoxHigh nsBoxHigh csBoxHigh,.slice AsCosts nsCosts csCosts,.slice AsChoices nsChoices csChoices,.slice AsPlans nsPlans csPlans] 37)) [.int .i64 b] 3
 simp only [World.size_alloc]at bxb
 replace bxm:=bxm.below hBA
 replace bxq:=bxq.below hBA
 replace bxs:=bxs.below hBA
 replace hB:=hB.trans (hBA.mono hB.size)
 clear hBA
 rw [<- hwb]at hB bxm bxq bxs bxb ⊢
 clear hwb
 go_wp2
 go_loopw [17] (fun i wr=>∃ j:Nat,j<=nf/\i=.int .i64 j/\(f.take j).all (fun x=>p.any (fun k=>coversL m q s k x b))=true/\Below wb.heap.size wb wr) (fun i _=>nf - (intOf i).toNat)
 case atStart=>exact⟨0,Nat.zero_le _,rfl,rfl,Below.refl _ _⟩
 case round =>
  obtain⟨j,hj,rfl,hall,hE⟩:=hrel
  have HA:=Lib.hid hall;clear hall
  have hB2:=hB.trans (hE.mono hB.size)
  by_cases hlt:j<nf
  ·obtain⟨bf,of,x,rfl,hc,hI,hx⟩:=hf.ati hlt
   have HX:=Lib.hid hx.out;clear hx
   replace hc:=cells_below hB2 _ _ hc
   go_upto_region 4 with fail
   have hAx:=(Below.refl wr.heap.size wr).alloc (Nat.le_refl _) (.cells #[.int .i64 x] 3)
   have bx1:=Bx.new wr [.int .i64 x] 3
   obtain⟨wx,hwx⟩:∃ W,W=wr.alloc (.cells #[.int .i64 x] 3):=⟨_,rfl⟩
   rw [<- hwx]at hAx bx1 ⊢
   clear hwx hc
   have hE2:=hE.trans (hAx.mono hE.size)
   have hB3:=hB2.trans (hAx.mono hB2.size)
   go_wp2_with fail
   refine(containsFunc_IsPlanCover_1_c _ _ _ p _ _ _ _ _ (fun k=>coversL m q s k x b) _ (hp.below rInt_ok hB3) ?_).mono ?_
   ·intro k W _ hW
    have hz:=hE2.trans (hW.mono hE2.size)
    have hX:=hB3.trans (hW.mono hB3.size)
    exact planCoverFn_c ((rModel_ok NB).keep rm (cells_below hX)) ((rQuery_ok NB).keep rq (cells_below hX)) ((rSpace_ok NB).keep rs (cells_below hX)) (bxm.below hz) (bxq.below hz) (bxs.below hz) (bx1.below hW 0 _ rfl) (bxb.below hz 0 _ rfl) lenm' hI
   rintro e w2 ⟨rfl,hb2⟩
   have hE3:=hE2.trans (hb2.mono hE2.size)
   cases hv:p.any (fun k=>coversL m q s k x b)
   ·have HN:=Lib.hid (all_no2 (p:=fun x=>p.any (fun k=>coversL m q s k x b)) HX.out hv);clear hv
    go_wp2
    go_ret
    exact⟨ret_bool (a:=false) HN.out.symm,hB3.trans (hb2.mono hB3.size)⟩
   ·have HY:=Lib.hid (all_snoc (p:=fun x=>p.any (fun k=>coversL m q s k x b)) HA.out HX.out hv);clear hv
    go_wp2
    go_roundw
    case rel=>exact⟨j+1,by omega,by go_num,HY.out,hE3⟩
    case measure=>simp [intOf];omega
  ·have HE:Hid (f.all (fun x=>p.any (fun k=>coversL m q s k x b))=true):=by show _=_;have:=HA.out;rwa [take_all hf.len hlt]at this
   go_wp2
   go_ret
   exact⟨ret_bool (a:=true) HE.out.symm,hB2⟩
set_option maxRecDepth 100000 in
set_option maxHeartbeats 1600000 in
theorem sIsPlanCover_c (csm:List Value) (m:ModelD) (csq:List Value) (q:QueryD) (css:List Value) (s:SpaceD) (Ap:Option Addr) (np cp:Nat) (p:List Int) (Af:Option Addr) (nf cf:Nat) (f:List Int) (b:Int) (w:World) (hm:(rModel NB).rep w csm m) (hq:(rQuery NB).rep w csq q) (hs:(rSpace NB).rep w css s) (hp:RS NB rInt w Ap np cp p) (hf:RS NB rInt w Af nf cf f) :
  Calls Tryz.prog 13 #[.agg csm.toArray,.agg csq.toArray,.agg css.toArray,.slice Ap np cp,.slice Af nf cf,.int .i64 b] w fun e w'=>e=.returned (.bool (f.all (fun x=>p.any (fun k=>coversL m q s k x b))))/\Below w.heap.size w w':=by
 have rm:=hm
 have lenm:=(rModel_ok NB).len hm
 clear hm
 have rq:=hq
 obtain⟨AqAtoms,nqAtoms,cqAtoms,rfl,hqVariableCount,hqAtoms⟩:=rQuery_rep.1 hq
 clear hq
 have rs:=hs
 obtain⟨AsBoxLow,nsBoxLow,csBoxLow,AsBoxHigh,nsBoxHigh,csBoxHigh,AsCosts,nsCosts,csCosts,AsChoices,nsChoices,csChoices,AsPlans,nsPlans,csPlans,rfl,hsBoxLow,hsBoxHigh,hsCosts,hsChoices,hsPlans⟩:=rSpace_rep.1 hs
 clear hs
 have hB:Below w.heap.size w w:=Below.refl _ _
 have hAm:=(Below.refl (World.heap (w)).size (w)).alloc (Nat.le_refl _) (.cells csm.toArray 28)
 replace hB:=hB.trans (hAm.mono hB.size)
 have bxm:=Bx.new (w) csm 28
 clear hAm
 have hAq:=(Below.refl (World.heap ((w).alloc (.cells csm.toArray 28))).size ((w).alloc (.cells csm.toArray 28))).alloc (Nat.le_refl _) (.cells #[.int .i64 q.fVariableCount,.slice AqAtoms nqAtoms cqAtoms] 31)
 replace hB:=hB.trans (hAq.mono hB.size)
 replace bxm:=bxm.below hAq
 have bxq:=Bx.new ((w).alloc (.cells csm.toArray 28)) [.int .i64 q.fVariableCount,.slice AqAtoms nqAtoms cqAtoms] 31
 simp only [World.size_alloc]at bxq
 clear hAq
 have hAs:=(Below.refl (World.heap (((w).alloc (.cells csm.toArray 28)).alloc (.cells #[.int .i64 q.fVariableCount,.slice AqAtoms nqAtoms cqAtoms] 31))).size (((w).alloc (.cells csm.toArray 28)).alloc (.cells #[.int .i64 q.fVariableCount,.slice AqAtoms nqAtoms cqAtoms] 31))).alloc (Nat.le_refl _) (.cells #[.slice AsBoxLow nsBoxLow csBoxLow,.slice AsBoxHigh nsBoxHigh csBoxHigh,.slice AsCosts nsCosts csCosts,.slice AsChoices nsChoices csChoices,.slice AsPlans nsPlans csPlans] 37)
 replace hB:=hB.trans (hAs.mono hB.size)
 replace bxm:=bxm.below hAs
 replace bxq:=bxq.below hAs
 have bxs:=Bx.new (((w).alloc (.cells csm.toArray 28)).alloc (.cells #[.int .i64 q.fVariableCount,.slice AqAtoms nqAtoms cqAtoms] 31)) [.slice AsBoxLow nsBoxLow csBoxLow,.slice AsBoxHigh nsBoxHigh csBoxHigh,.slice AsCosts nsCosts csCosts,.slice AsChoices nsChoices csChoices,.slice AsPlans nsPlans csPlans] 37
 simp only [World.size_alloc]at bxs
 clear hAs
 have lenm':csm.length=30:=lenm
 clear lenm
 have hnf:=hf.bound
 go_enter Tryz.func13,Tryz.ntmps13
 go_upto_region 1 with fail
 obtain⟨wb,hwb⟩:∃ W,W=((w.alloc (.cells csm.toArray 28)).alloc (.cells #[.int .i64 q.fVariableCount,.slice AqAtoms nqAtoms cqAtoms] 31)).alloc (.cells #[.slice AsBoxLow nsBoxLow csBoxLow,.slice AsBoxHigh nsBoxHigh csBoxHigh,.slice AsCosts nsCosts csCosts,.slice AsChoices nsChoices csChoices,.slice AsPlans nsPlans csPlans] 37):=⟨_,rfl⟩
 rw [<- hwb]at hB bxm bxq bxs ⊢
 clear hwb
 have hnp:=hp.bound
 go_wp2
 go_loopw [13] (fun i wr=>∃ j:Nat,j<=nf/\i=.int .i64 j/\(f.take j).all (fun x=>p.any (fun k=>coversL m q s k x b))=true/\Below wb.heap.size wb wr) (fun i _=>nf - (intOf i).toNat)
 case atStart=>exact⟨0,Nat.zero_le _,rfl,rfl,Below.refl _ _⟩
 case round =>
  obtain⟨j,hj,rfl,hall,hE⟩:=hrel
  have HA:=Lib.hid hall;clear hall
  have hB2:=hB.trans (hE.mono hB.size)
  by_cases hlt:j<nf
  ·obtain⟨bf,of,x,rfl,hc,hI,hx⟩:=hf.ati hlt
   have HX:=Lib.hid hx.out;clear hx
   go_wp2
   go_loopw [14,15] (fun v i wr=>∃ (t:Nat) (u:Bool),t<=np/\i=.int .i64 t/\v=.bool u/\u=(p.take t).any (fun k=>coversL m q s k x b)/\Below wb.heap.size wb wr) (fun _ i _=>np - (intOf i).toNat)
   case atStart=>exact⟨0,false,Nat.zero_le _,rfl,rfl,rfl,hE⟩
   case round =>
    clear hE hB2
    obtain⟨t,u,ht,rfl,rfl,hu,hE⟩:=hrel
    have HU:=Lib.hid hu;clear hu
    have hB2:=hB.trans (hE.mono hB.size)
    cases u with
    | true =>
     have HY:Hid (p.any (fun k=>coversL m q s k x b)=true):=by show _=_;exact any_of_take HU.out.symm
     have HZ:=Lib.hid (all_snoc (p:=fun x=>p.any (fun k=>coversL m q s k x b)) HA.out HX.out HY.out)
     by_cases hlt2:t<np
     all_goals
      go_wp2
      go_roundw
      case rel=>exact⟨j+1,by omega,by go_num,HZ.out,hE⟩
      case measure=>simp [intOf];omega
    | false =>
     by_cases hlt2:t<np
     ·obtain⟨bp,op,k,rfl,hcp,hIk,hk⟩:=hp.ati hlt2
      have HK:=Lib.hid hk.out;clear hk
      have hcp2:=cells_below hB2 _ _ hcp
      have hcf2:=cells_below hB2 _ _ hc
      have HSS:Hid (∀ w',Below wr.heap.size wr w'->(w'.rangeAt w.heap.size 0 csm/\w'.cell? ⟨w.heap.size+1,0,none⟩=some (.int .i64 q.fVariableCount)/\w'.cell? ⟨w.heap.size+1,1,none⟩=some (.slice AqAtoms nqAtoms cqAtoms)/\w'.cell? ⟨w.heap.size+1+1,0,none⟩=some (.slice AsBoxLow nsBoxLow csBoxLow)/\w'.cell? ⟨w.heap.size+1+1,1,none⟩=some (.slice AsBoxHigh nsBoxHigh csBoxHigh)/\w'.cell? ⟨w.heap.size+1+1,2,none⟩=some (.slice AsCosts nsCosts csCosts)/\w'.cell? ⟨w.heap.size+1+1,3,none⟩=some (.slice AsChoices nsChoices csChoices)/\w'.cell? ⟨w.heap.size+1+1,4,none⟩=some (.slice AsPlans nsPlans csPlans)/\w'.cell? ⟨bf,of+j,none⟩=some (.int .i64 x)/\w'.cell? ⟨bp,op+t,none⟩=some (.int .i64 k))):=by
       show ∀ w',_->_
       intro w' hb
       have hz:=hE.trans (hb.mono hE.size)
       exact⟨(bxm.below hz).range,(bxq.below hz) 0 _ rfl,(bxq.below hz) 1 _ rfl,(bxs.below hz) 0 _ rfl,(bxs.below hz) 1 _ rfl,(bxs.below hz) 2 _ rfl,(bxs.below hz) 3 _ rfl,(bxs.below hz) 4 _ rfl,cells_below hb _ _ hcf2,cells_below hb _ _ hcp2⟩
      have K1:Hid (∀ W,Below wb.heap.size wb W->Calls Tryz.prog 29 #[.agg csm.toArray,.agg #[.int .i64 q.fVariableCount,.slice AqAtoms nqAtoms cqAtoms],.agg #[.slice AsBoxLow nsBoxLow csBoxLow,.slice AsBoxHigh nsBoxHigh csBoxHigh,.slice AsCosts nsCosts csCosts,.slice AsChoices nsChoices csChoices,.slice AsPlans nsPlans csPlans],.int .i64 k,.int .i64 x,.int .i64 b] W fun e w'=>e=.returned (.bool (coversL m q s k x b))/\Below W.heap.size W w'):=by
       show ∀ W,_->_
       intro W hW
       have hX:=hB.trans (hW.mono hB.size)
       exact sCoversLocation_c _ m _ q _ s k x b W ((rModel_ok NB).keep rm (cells_below hX)) ((rQuery_ok NB).keep rq (cells_below hX)) ((rSpace_ok NB).keep rs (cells_below hX)) hI
      have HN:Hid (coversL m q s k x b=(p.take (t+1)).any (fun k=>coversL m q s k x b)):=by
       show _=_
       rw [take_snoc HK.out,List.any_append,<- HU.out];simp
      clear hcp2 hcf2 hcp hc
      go_wp2
      refine hbg HSS.out (Below.refl _ _).drew (fun hHeld=>?_)
      refine' wpAnyH_take (i:=0) (oi:=⟨some 32,_,_,_,_,_⟩) (v:=_) rfl (by kernel_rfl) (by kernel_rfl) (by kernel_rfl) (fun _ _ _ h=>h) (yieldsIf_load_mid (by rfl) _ _ rfl _ _ rfl _ _ (fun w h=>h.1) Tryz.underlying28 rfl (by rw [lenm'];exact sizeModel)) hHeld ?_
      simp only [putS]
      refine tka 1 33 hHeld ?_;simp only [putS]
      refine tka 2 34 hHeld ?_;simp only [putS]
      refine tka 3 35 hHeld ?_;simp only [putS]
      refine tka 4 36 hHeld ?_;simp only [putS]
      refine tka 5 37 hHeld ?_;simp only [putS]
      refine tka 6 38 hHeld ?_;simp only [putS]
      refine tka 7 39 hHeld ?_;simp only [putS]
      refine tka 8 40 hHeld ?_;simp only [putS]
      refine tka 9 41 hHeld ?_;simp only [putS]
      refine tka 10 42 hHeld ?_;simp only [putS]
      refine tka 11 43 hHeld ?_;simp only [putS]
      refine rd 12 (some 44) fun K hK=>?_
      clear hHeld
      go_simp
      refine(K1.out _ (hE.drew)).mono ?_
      rintro e w2 ⟨rfl,hb2⟩
      have hC:Below wr.heap.size wr w2:=((Below.refl wr.heap.size wr).drew.trans (hb2.mono (by simp)))
      go_wp2_with fail
      refine hK.out _ _ (HSS.out _ hC) (fun hHeld=>?_)
      clear hK K
      try simp only [putS]
      refine tka 13 14 hHeld ?_;simp only [putS]
      refine wpAnyH_done (by kernel_rfl) ?_ _
      clear hHeld
      clear HSS K1
      go_wp2
      go_roundw
      case rel=>exact⟨t+1,coversL m q s k x b,by omega,by go_num,rfl,HN.out,hE.trans (hC.mono hE.size)⟩
      case measure=>simp [intOf];omega
     ·have HN:Hid (f.all (fun x=>p.any (fun k=>coversL m q s k x b))=false):=by
       show _=_
       have:=HU.out
       rw [take_all hp.len hlt2]at this
       exact all_no2 (p:=fun x=>p.any (fun k=>coversL m q s k x b)) HX.out this.symm
      go_wp2
      go_ret
      exact⟨ret_bool (a:=false) HN.out.symm,hB2⟩
  ·have HE:Hid (f.all (fun x=>p.any (fun k=>coversL m q s k x b))=true):=by show _=_;have:=HA.out;rwa [take_all hf.len hlt]at this
   go_wp2
   go_ret
   exact⟨ret_bool (a:=true) HE.out.symm,hB2⟩
end Go.Proofs.YtblbnbfghlkkfaaGreat
