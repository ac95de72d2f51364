/-
  FnExactBuildSpace
-/
import Derived.Test.YtnlcfkpcmfljeaaGreatRows
import Derived.Test.YtnlcfkpcmfljeaaGreatKeep
import Derived.Test.YtnlcfkpcmfljeaaGreatIbe
import Derived.Test.YtnlcfkpcmfljeaaGreatEpl
import Derived.Test.YtnlcfkpcmfljeaaGreatIby
import Derived.Test.YtnlcfkpcmfljeaaGreatOpens
import Derived.Test.YtnlcfkpcmfljeaaGreatTo
import Derived.Test.YtnlcfkpcmfljeaaGreatEq
import Derived.WalkKit
import Derived.ProofKit
import Derived.OpenShut
import Derived.ShutString
import Derived.ChangeOld
import Derived.Below
import Derived.Deep.RegionHeld3
import Derived.Test.YtnlcfkpcmfljeaaGreatMarkC
namespace Go.Proofs.YtnlcfkpcmfljeaaGreat.fnExactBuildSpace
open Go.ChangeShapes Go.WideShapes Go.ChangeAt Go.RowKit
open Go.ChangeMaps (open_string shut_string)
set_option linter.unusedVariables false
set_option linter.unusedSimpArgs false

theorem sizeLawModel:(Tryz.prog.info? 26).map (·.size)=some 30:=by kernel_rfl
theorem own:ownKnob Tryz.prog.godebug=none:=by kernel_rfl
theorem laidOut:laidOutB Tryz.prog=true:=by kernel_rfl

set_option maxRecDepth 100000 in
set_option maxHeartbeats 4000000 in
theorem walk (csM:List Value) (xM:ModelD) (csQ:List Value) (xQ:QueryD) (csB:List Value) (xB:BoxD) (w:World) (rM:(rModel maxLen).rep w csM xM) (rQ:(rQuery maxLen).rep w csQ xQ) (rB:(rBox maxLen).rep w csB xB) :
  Calls Tryz.prog 3 #[.agg csM.toArray,.agg csQ.toArray,.agg csB.toArray] w fun e w'=>e=.returned (.bool true)/\Below w.heap.size w w':=by
 have hB:Below w.heap.size w w:=Below.refl _ _
 have lenM:csM.length=30:=(rModel_ok maxLen).len rM
 have qQ:=rQ
 obtain⟨AQAtoms,nQAtoms,cQAtoms,rfl,hQVariableCount,hQAtoms⟩:=rQuery_rep.1 qQ
 clear qQ
 have qB:=rB
 obtain⟨ABLow,nBLow,cBLow,ABHigh,nBHigh,cBHigh,rfl,hBLow,hBHigh⟩:=rBox_rep.1 qB
 clear qB
 go_enter Tryz.func3,Tryz.ntmps3
 have hA1:=(Below.refl (World.heap (w)).size (w)).alloc (Nat.le_refl _) (.cells csM.toArray 26)
 replace hB:=hB.trans (hA1.mono hB.size)
 have bxM:=Bx.new (w) csM 26
 clear hA1
 have hA2:=(Below.refl (World.heap ((w).alloc (.cells csM.toArray 26))).size ((w).alloc (.cells csM.toArray 26))).alloc (Nat.le_refl _) (.cells #[.int .i64 xQ.fVariableCount,.slice AQAtoms nQAtoms cQAtoms] 29)
 replace hB:=hB.trans (hA2.mono hB.size)
 replace bxM:=bxM.below hA2
 have bxQ:=Bx.new ((w).alloc (.cells csM.toArray 26)) [.int .i64 xQ.fVariableCount,.slice AQAtoms nQAtoms cQAtoms] 29
 simp only [World.size_alloc]at bxQ
 clear hA2
 have hA3:=(Below.refl (World.heap (((w).alloc (.cells csM.toArray 26)).alloc (.cells #[.int .i64 xQ.fVariableCount,.slice AQAtoms nQAtoms cQAtoms] 29))).size (((w).alloc (.cells csM.toArray 26)).alloc (.cells #[.int .i64 xQ.fVariableCount,.slice AQAtoms nQAtoms cQAtoms] 29))).alloc (Nat.le_refl _) (.cells #[.slice ABLow nBLow cBLow,.slice ABHigh nBHigh cBHigh] 32)
 replace hB:=hB.trans (hA3.mono hB.size)
 replace bxM:=bxM.below hA3
 replace bxQ:=bxQ.below hA3
 have bxB:=Bx.new (((w).alloc (.cells csM.toArray 26)).alloc (.cells #[.int .i64 xQ.fVariableCount,.slice AQAtoms nQAtoms cQAtoms] 29)) [.slice ABLow nBLow cBLow,.slice ABHigh nBHigh cBHigh] 32
 simp only [World.size_alloc]at bxB
 clear hA3
 go_wp2_with (first|(refine wpList_load_mid rfl 26 _ rfl (w.heap.size) 0 rfl csM _ bxM.range Tryz.underlying26 rfl (by rw [lenM];exact sizeLawModel) ?_))
 refine(szModel_c _ xM _ _ ((rModel_ok maxLen).keep rM (cells_below hB)) (by omega) (by omega)).mono ?_
 rintro e w5 ⟨rfl,hb4⟩
 have z6:=hb4.size
 try simp only [setCells_kit,setCells_size,World.size_alloc]at z6
 have Hz6:=Lib.hid z6;clear z6
 replace hB:=hB.trans (hb4.mono hB.size)
 replace bxM:=bxM.below hb4
 replace bxQ:=bxQ.below hb4
 replace bxB:=bxB.below hb4
 clear hb4
 by_cases hszM:((bulkModel xM:Nat):Int)<=1048576
 rotate_left
 ·rw [lessBy_no hszM]
  go_wp2
  go_ret
  exact⟨rfl,hB⟩
 rw [lessBy_yes hszM]
 have sM:=smallModel rM (by omega)
 obtain⟨L7,hL7⟩:∃ L:Int,L=1048576 - ((bulkModel xM:Nat):Int):=⟨_,rfl⟩
 rw [<- hL7]
 have pL7:0<=L7:=by omega
 have uL7:L7<=1048576:=by omega
 clear hL7
 have cbxQ_0:=bxQ 0 _ rfl
 have cbxQ_1:=bxQ 1 _ rfl
 go_wp2_with (first|(refine wpList_load_mid rfl 26 _ rfl (w.heap.size) 0 rfl csM _ bxM.range Tryz.underlying26 rfl (by rw [lenM];exact sizeLawModel) ?_))
 refine(szQuery_c _ xQ _ _ ((rQuery_ok maxLen).keep rQ (cells_below hB)) (by omega) (by omega)).mono ?_
 rintro e w9 ⟨rfl,hb8⟩
 have z10:=hb8.size
 try simp only [setCells_kit,setCells_size,World.size_alloc]at z10
 have Hz10:=Lib.hid z10;clear z10
 replace hB:=hB.trans (hb8.mono hB.size)
 replace bxM:=bxM.below hb8
 replace bxQ:=bxQ.below hb8
 replace bxB:=bxB.below hb8
 clear hb8 cbxQ_0 cbxQ_1
 by_cases hszQ:((bulkQuery xQ:Nat):Int)<=L7
 rotate_left
 ·rw [lessBy_no hszQ]
  go_wp2
  go_ret
  exact⟨rfl,hB⟩
 rw [lessBy_yes hszQ]
 have sQ:=smallQuery rQ (by omega)
 obtain⟨L11,hL11⟩:∃ L:Int,L=L7 - ((bulkQuery xQ:Nat):Int):=⟨_,rfl⟩
 rw [<- hL11]
 have pL11:0<=L11:=by omega
 have uL11:L11<=1048576:=by omega
 clear hL11
 have cbxB_0:=bxB 0 _ rfl
 have cbxB_1:=bxB 1 _ rfl
 go_wp2_with (first|(refine wpList_load_mid rfl 26 _ rfl (w.heap.size) 0 rfl csM _ bxM.range Tryz.underlying26 rfl (by rw [lenM];exact sizeLawModel) ?_))
 refine(szBox_c _ xB _ _ ((rBox_ok maxLen).keep rB (cells_below hB)) (by omega) (by omega)).mono ?_
 rintro e w13 ⟨rfl,hb12⟩
 have z14:=hb12.size
 try simp only [setCells_kit,setCells_size,World.size_alloc]at z14
 have Hz14:=Lib.hid z14;clear z14
 replace hB:=hB.trans (hb12.mono hB.size)
 replace bxM:=bxM.below hb12
 replace bxQ:=bxQ.below hb12
 replace bxB:=bxB.below hb12
 clear hb12 cbxB_0 cbxB_1
 by_cases hszB:((bulkBox xB:Nat):Int)<=L11
 rotate_left
 ·rw [lessBy_no hszB]
  go_wp2
  go_ret
  exact⟨rfl,hB⟩
 rw [lessBy_yes hszB]
 have sB:=smallBox rB (by omega)
 obtain⟨L15,hL15⟩:∃ L:Int,L=L11 - ((bulkBox xB:Nat):Int):=⟨_,rfl⟩
 rw [<- hL15]
 have pL15:0<=L15:=by omega
 have uL15:L15<=1048576:=by omega
 clear hL15
 go_upto_region 11 with fail
 have SS16:∀ w',Below w13.heap.size w13 w'->(w'.rangeAt (w.heap.size) 0 csM/\w'.cell? ⟨w.heap.size+1,0,none⟩=some (.int .i64 xQ.fVariableCount)/\w'.cell? ⟨w.heap.size+1,1,none⟩=some (.slice AQAtoms nQAtoms cQAtoms)/\w'.cell? ⟨w.heap.size+1+1,0,none⟩=some (.slice ABLow nBLow cBLow)/\w'.cell? ⟨w.heap.size+1+1,1,none⟩=some (.slice ABHigh nBHigh cBHigh)):=fun w' hb=>⟨(bxM.below hb).range,bxQ.below hb 0 _ rfl,bxQ.below hb 1 _ rfl,bxB.below hb 0 _ rfl,bxB.below hb 1 _ rfl⟩
 have HSS16:=Lib.hid SS16;clear SS16
 go_cut [8,9] (fun s8 s9 wx=>∃ (cs:List Value) (f:List Nat) (g:Nat),s8=.pointer (some ⟨g,0,none⟩)/\s9=.bool (buildE xM xQ xB).2/\Left (rSpace NB) 39 ((buildE xM xQ xB).1) w13 g f cs wx)
 case first =>
  have hd13:=(Below.refl w13.heap.size w13).drew
  refine hbg HSS16.out hd13 (fun hHeld=>?_)
  refine' wpAnyH_take (i:=0) (oi:=⟨some 36,_,_,_,_,_⟩) (v:=_) rfl (by kernel_rfl) (by kernel_rfl) (by kernel_rfl) (fun _ _ _ h=>h) (yieldsIf_load_mid (by rfl) _ _ rfl _ _ rfl _ _ (fun w h=>h.1) Tryz.underlying26 rfl (by rw [lenM];exact sizeLawModel)) hHeld ?_
  simp only [putS]
  refine tka 2 38 hHeld ?_;simp only [putS]
  refine tka 4 40 hHeld ?_;simp only [putS]
  refine rd2 1 (some 37) 10 (some 8) (fun K hK=>?_) fun K hK=>?_
  all_goals clear hHeld
  ·go_simp
   refine(toModel_c _ xM _ ((rModel_ok NB).keep sM (cells_below (Below.link hB hd13)))).mono ?_
   rintro e w18 ⟨csv17,fv17,rfl,ov17,frv17,hb19⟩
   have Rv17:=(rModel_ok NB).toRep ov17
   have hC0:Below w13.heap.size w13 w18:=Below.link hd13 hb19
   go_wp2_with fail
   refine hK.out _ _ (HSS16.out _ hC0) (fun hHeld=>?_)
   clear hK K
   try simp only [putS]
   refine rd2 3 (some 39) 10 (some 8) (fun K hK=>?_) fun K hK=>?_
   all_goals clear hHeld
   ·go_simp
    refine(toQuery_c _ xQ _ ((rQuery_ok NB).keep sQ (cells_below (Below.link hB hC0)))).mono ?_
    rintro e w21 ⟨csv20,fv20,rfl,ov20,frv20,hb22⟩
    have Rv20:=(rQuery_ok NB).toRep ov20
    have hC1:Below w13.heap.size w13 w21:=Below.link hC0 hb22
    replace Rv17:=(rModel_ok NB).keep Rv17 (cells_below hb22)
    go_wp2_with fail
    refine hK.out _ _ (HSS16.out _ hC1) (fun hHeld=>?_)
    clear hK K
    try simp only [putS]
    refine rd2 5 (some 41) 10 (some 8) (fun K hK=>?_) fun K hK=>?_
    all_goals clear hHeld
    ·go_simp
     refine(toBox_c _ xB _ ((rBox_ok NB).keep sB (cells_below (Below.link hB hC1)))).mono ?_
     rintro e w24 ⟨csv23,fv23,rfl,ov23,frv23,hb25⟩
     have Rv23:=(rBox_ok NB).toRep ov23
     have hC2:Below w13.heap.size w13 w24:=Below.link hC1 hb25
     replace Rv17:=(rModel_ok NB).keep Rv17 (cells_below hb25)
     replace Rv20:=(rQuery_ok NB).keep Rv20 (cells_below hb25)
     go_wp2_with fail
     refine hK.out _ _ (HSS16.out _ hC2) (fun hHeld=>?_)
     clear hK K
     try simp only [putS]
     refine rd2 6 (some 42) 10 (some 8) (fun K hK=>?_) fun K hK=>?_
     all_goals clear hHeld
     ·go_simp
      refine(sBuildSpace_c _ xM _ xQ _ xB _ Rv17 Rv20 Rv23).mono ?_
      rintro e w26 ⟨csw0,fw0,rfl,ow0,frw0,hb27⟩
      obtain⟨Aw0BoxLow,nw0BoxLow,cw0BoxLow,Aw0BoxHigh,nw0BoxHigh,cw0BoxHigh,Aw0Costs,nw0Costs,cw0Costs,Aw0Choices,nw0Choices,cw0Choices,Aw0Plans,nw0Plans,cw0Plans,rfl,_,_,_,_,_⟩:=rSpace_rep.1 ((rSpace_ok NB).toRep ow0)
      have hF:Below w13.heap.size w13 w26:=Below.link hC2 hb27
      go_wp2_with fail
      refine hK.out _ _ (HSS16.out _ hF) (fun hHeld=>?_)
      clear hK K
      try simp only [putS]
      refine tka 7 35 hHeld ?_;simp only [putS]
      refine tka 8 43 hHeld ?_;simp only [putS]
      refine tka 9 44 hHeld ?_;simp only [putS]
      refine rd 10 (some 8) fun K hK=>?_
      clear hHeld
      go_simp
      refine hK.out _ _ (HSS16.out _ (Below.alc hF (.cells #[.slice none 0 0,.slice none 0 0,.slice none 0 0,.slice none 0 0,.slice none 0 0] 39))) (fun hHeld=>?_)
      clear hK K
      try simp only [putS]
      refine rd 11 none fun K hK=>?_
      clear hHeld
      go_simp
      refine hK.out _ _ (HSS16.out _ (Below.alc hF (.cells #[.slice Aw0BoxLow nw0BoxLow cw0BoxLow,.slice Aw0BoxHigh nw0BoxHigh cw0BoxHigh,.slice Aw0Costs nw0Costs cw0Costs,.slice Aw0Choices nw0Choices cw0Choices,.slice Aw0Plans nw0Plans cw0Plans] 39))) (fun hHeld=>?_)
      clear hK K
      try simp only [putS]
      refine tka 12 9 hHeld ?_;simp only [putS]
      refine wpAnyH_done (by kernel_rfl) ?_ _
      clear hHeld
      (go_wp2_with fail)
      go_meet
      refine⟨[.slice Aw0BoxLow nw0BoxLow cw0BoxLow,.slice Aw0BoxHigh nw0BoxHigh cw0BoxHigh,.slice Aw0Costs nw0Costs cw0Costs,.slice Aw0Choices nw0Choices cw0Choices,.slice Aw0Plans nw0Plans cw0Plans],fw0,_,rfl,rfl,?_⟩
      exact Left.last (rSpace_ok NB) ow0 frw0 hC2 hb27
     ·have hA:=(Below.refl w24.heap.size w24).alloc (Nat.le_refl _) (.cells #[.slice none 0 0,.slice none 0 0,.slice none 0 0,.slice none 0 0,.slice none 0 0] 39)
      have bkX:Bk (w24.alloc (.cells #[.slice none 0 0,.slice none 0 0,.slice none 0 0,.slice none 0 0,.slice none 0 0] 39)) w24.heap.size 39 [.slice none 0 0,.slice none 0 0,.slice none 0 0,.slice none 0 0,.slice none 0 0]:=Bk.new w24 _ _
      have ltX:w24.heap.size<(w24.alloc (.cells #[.slice none 0 0,.slice none 0 0,.slice none 0 0,.slice none 0 0,.slice none 0 0] 39)).heap.size:=Nat.lt_of_lt_of_eq (Nat.lt_succ_self _) (World.size_alloc ..).symm
      have hgX:w13.heap.size<=w24.heap.size:=hC2.size
      replace Rv17:=(rModel_ok NB).keep Rv17 (cells_below hA)
      replace Rv20:=(rQuery_ok NB).keep Rv20 (cells_below hA)
      replace Rv23:=(rBox_ok NB).keep Rv23 (cells_below hA)
      have hZ:=Below.link hC2 hA
      go_simp
      refine hK.out _ _ (HSS16.out _ hZ) (fun hHeld=>?_)
      clear hK K
      try simp only [putS]
      refine rd 6 (some 42) fun K hK=>?_
      clear hHeld
      go_simp
      refine(sBuildSpace_c _ xM _ xQ _ xB _ Rv17 Rv20 Rv23).mono ?_
      rintro e w26 ⟨csw0,fw0,rfl,ow0,frw0,hb27⟩
      obtain⟨Aw0BoxLow,nw0BoxLow,cw0BoxLow,Aw0BoxHigh,nw0BoxHigh,cw0BoxHigh,Aw0Costs,nw0Costs,cw0Costs,Aw0Choices,nw0Choices,cw0Choices,Aw0Plans,nw0Plans,cw0Plans,rfl,_,_,_,_,_⟩:=rSpace_rep.1 ((rSpace_ok NB).toRep ow0)
      have hF:Below w13.heap.size w13 w26:=Below.link hZ hb27
      replace bkX:=Bk.below bkX hb27
      have jf:=bkX.frozen
      have jc0:=bkX.bx 0 _ rfl
      have jc1:=bkX.bx 1 _ rfl
      have jc2:=bkX.bx 2 _ rfl
      have jc3:=bkX.bx 3 _ rfl
      have jc4:=bkX.bx 4 _ rfl
      go_wp2_with fail
      refine hK.out _ _ (HSS16.out _ hF) (fun hHeld=>?_)
      clear hK K
      try simp only [putS]
      refine tka 7 35 hHeld ?_;simp only [putS]
      refine tka 8 43 hHeld ?_;simp only [putS]
      refine tka 9 44 hHeld ?_;simp only [putS]
      refine rd 11 none fun K hK=>?_
      clear hHeld
      go_simp
      refine hK.out _ _ (HSS16.out _ (Below.setCells hF hgX 0 [.slice Aw0BoxLow nw0BoxLow cw0BoxLow,.slice Aw0BoxHigh nw0BoxHigh cw0BoxHigh,.slice Aw0Costs nw0Costs cw0Costs,.slice Aw0Choices nw0Choices cw0Choices,.slice Aw0Plans nw0Plans cw0Plans])) (fun hHeld=>?_)
      clear hK K
      try simp only [putS]
      refine tka 12 9 hHeld ?_;simp only [putS]
      refine wpAnyH_done (by kernel_rfl) ?_ _
      clear hHeld
      (go_wp2_with fail)
      go_meet
      refine⟨[.slice Aw0BoxLow nw0BoxLow cw0BoxLow,.slice Aw0BoxHigh nw0BoxHigh cw0BoxHigh,.slice Aw0Costs nw0Costs cw0Costs,.slice Aw0Choices nw0Choices cw0Choices,.slice Aw0Plans nw0Plans cw0Plans],fw0,_,rfl,rfl,?_⟩
      exact Left.first (rSpace_ok NB) ow0 frw0 hZ hb27 bkX ltX hgX rfl
    ·have hA:=(Below.refl w21.heap.size w21).alloc (Nat.le_refl _) (.cells #[.slice none 0 0,.slice none 0 0,.slice none 0 0,.slice none 0 0,.slice none 0 0] 39)
     have bkX:Bk (w21.alloc (.cells #[.slice none 0 0,.slice none 0 0,.slice none 0 0,.slice none 0 0,.slice none 0 0] 39)) w21.heap.size 39 [.slice none 0 0,.slice none 0 0,.slice none 0 0,.slice none 0 0,.slice none 0 0]:=Bk.new w21 _ _
     have ltX:w21.heap.size<(w21.alloc (.cells #[.slice none 0 0,.slice none 0 0,.slice none 0 0,.slice none 0 0,.slice none 0 0] 39)).heap.size:=Nat.lt_of_lt_of_eq (Nat.lt_succ_self _) (World.size_alloc ..).symm
     have hgX:w13.heap.size<=w21.heap.size:=hC1.size
     replace Rv17:=(rModel_ok NB).keep Rv17 (cells_below hA)
     replace Rv20:=(rQuery_ok NB).keep Rv20 (cells_below hA)
     have hZ:=Below.link hC1 hA
     go_simp
     refine hK.out _ _ (HSS16.out _ hZ) (fun hHeld=>?_)
     clear hK K
     try simp only [putS]
     refine rd 5 (some 41) fun K hK=>?_
     clear hHeld
     go_simp
     refine(toBox_c _ xB _ ((rBox_ok NB).keep sB (cells_below (Below.link hB hZ)))).mono ?_
     rintro e w24 ⟨csv23,fv23,rfl,ov23,frv23,hb25⟩
     have Rv23:=(rBox_ok NB).toRep ov23
     have hC2:Below w13.heap.size w13 w24:=Below.link hZ hb25
     replace Rv17:=(rModel_ok NB).keep Rv17 (cells_below hb25)
     replace Rv20:=(rQuery_ok NB).keep Rv20 (cells_below hb25)
     replace bkX:=Bk.below bkX hb25
     replace ltX:=Nat.lt_of_lt_of_le ltX hb25.size
     go_wp2_with fail
     refine hK.out _ _ (HSS16.out _ hC2) (fun hHeld=>?_)
     clear hK K
     try simp only [putS]
     refine rd 6 (some 42) fun K hK=>?_
     clear hHeld
     go_simp
     refine(sBuildSpace_c _ xM _ xQ _ xB _ Rv17 Rv20 Rv23).mono ?_
     rintro e w26 ⟨csw0,fw0,rfl,ow0,frw0,hb27⟩
     obtain⟨Aw0BoxLow,nw0BoxLow,cw0BoxLow,Aw0BoxHigh,nw0BoxHigh,cw0BoxHigh,Aw0Costs,nw0Costs,cw0Costs,Aw0Choices,nw0Choices,cw0Choices,Aw0Plans,nw0Plans,cw0Plans,rfl,_,_,_,_,_⟩:=rSpace_rep.1 ((rSpace_ok NB).toRep ow0)
     have hF:Below w13.heap.size w13 w26:=Below.link hC2 hb27
     replace bkX:=Bk.below bkX hb27
     have jf:=bkX.frozen
     have jc0:=bkX.bx 0 _ rfl
     have jc1:=bkX.bx 1 _ rfl
     have jc2:=bkX.bx 2 _ rfl
     have jc3:=bkX.bx 3 _ rfl
     have jc4:=bkX.bx 4 _ rfl
     go_wp2_with fail
     refine hK.out _ _ (HSS16.out _ hF) (fun hHeld=>?_)
     clear hK K
     try simp only [putS]
     refine tka 7 35 hHeld ?_;simp only [putS]
     refine tka 8 43 hHeld ?_;simp only [putS]
     refine tka 9 44 hHeld ?_;simp only [putS]
     refine rd 11 none fun K hK=>?_
     clear hHeld
     go_simp
     refine hK.out _ _ (HSS16.out _ (Below.setCells hF hgX 0 [.slice Aw0BoxLow nw0BoxLow cw0BoxLow,.slice Aw0BoxHigh nw0BoxHigh cw0BoxHigh,.slice Aw0Costs nw0Costs cw0Costs,.slice Aw0Choices nw0Choices cw0Choices,.slice Aw0Plans nw0Plans cw0Plans])) (fun hHeld=>?_)
     clear hK K
     try simp only [putS]
     refine tka 12 9 hHeld ?_;simp only [putS]
     refine wpAnyH_done (by kernel_rfl) ?_ _
     clear hHeld
     (go_wp2_with fail)
     go_meet
     refine⟨[.slice Aw0BoxLow nw0BoxLow cw0BoxLow,.slice Aw0BoxHigh nw0BoxHigh cw0BoxHigh,.slice Aw0Costs nw0Costs cw0Costs,.slice Aw0Choices nw0Choices cw0Choices,.slice Aw0Plans nw0Plans cw0Plans],fw0,_,rfl,rfl,?_⟩
     exact Left.first (rSpace_ok NB) ow0 frw0 hC2 hb27 bkX ltX hgX rfl
   ·have hA:=(Below.refl w18.heap.size w18).alloc (Nat.le_refl _) (.cells #[.slice none 0 0,.slice none 0 0,.slice none 0 0,.slice none 0 0,.slice none 0 0] 39)
    have bkX:Bk (w18.alloc (.cells #[.slice none 0 0,.slice none 0 0,.slice none 0 0,.slice none 0 0,.slice none 0 0] 39)) w18.heap.size 39 [.slice none 0 0,.slice none 0 0,.slice none 0 0,.slice none 0 0,.slice none 0 0]:=Bk.new w18 _ _
    have ltX:w18.heap.size<(w18.alloc (.cells #[.slice none 0 0,.slice none 0 0,.slice none 0 0,.slice none 0 0,.slice none 0 0] 39)).heap.size:=Nat.lt_of_lt_of_eq (Nat.lt_succ_self _) (World.size_alloc ..).symm
    have hgX:w13.heap.size<=w18.heap.size:=hC0.size
    replace Rv17:=(rModel_ok NB).keep Rv17 (cells_below hA)
    have hZ:=Below.link hC0 hA
    go_simp
    refine hK.out _ _ (HSS16.out _ hZ) (fun hHeld=>?_)
    clear hK K
    try simp only [putS]
    refine rd 3 (some 39) fun K hK=>?_
    clear hHeld
    go_simp
    refine(toQuery_c _ xQ _ ((rQuery_ok NB).keep sQ (cells_below (Below.link hB hZ)))).mono ?_
    rintro e w21 ⟨csv20,fv20,rfl,ov20,frv20,hb22⟩
    have Rv20:=(rQuery_ok NB).toRep ov20
    have hC1:Below w13.heap.size w13 w21:=Below.link hZ hb22
    replace Rv17:=(rModel_ok NB).keep Rv17 (cells_below hb22)
    replace bkX:=Bk.below bkX hb22
    replace ltX:=Nat.lt_of_lt_of_le ltX hb22.size
    go_wp2_with fail
    refine hK.out _ _ (HSS16.out _ hC1) (fun hHeld=>?_)
    clear hK K
    try simp only [putS]
    refine rd 5 (some 41) fun K hK=>?_
    clear hHeld
    go_simp
    refine(toBox_c _ xB _ ((rBox_ok NB).keep sB (cells_below (Below.link hB hC1)))).mono ?_
    rintro e w24 ⟨csv23,fv23,rfl,ov23,frv23,hb25⟩
    have Rv23:=(rBox_ok NB).toRep ov23
    have hC2:Below w13.heap.size w13 w24:=Below.link hC1 hb25
    replace Rv17:=(rModel_ok NB).keep Rv17 (cells_below hb25)
    replace Rv20:=(rQuery_ok NB).keep Rv20 (cells_below hb25)
    replace bkX:=Bk.below bkX hb25
    replace ltX:=Nat.lt_of_lt_of_le ltX hb25.size
    go_wp2_with fail
    refine hK.out _ _ (HSS16.out _ hC2) (fun hHeld=>?_)
    clear hK K
    try simp only [putS]
    refine rd 6 (some 42) fun K hK=>?_
    clear hHeld
    go_simp
    refine(sBuildSpace_c _ xM _ xQ _ xB _ Rv17 Rv20 Rv23).mono ?_
    rintro e w26 ⟨csw0,fw0,rfl,ow0,frw0,hb27⟩
    obtain⟨Aw0BoxLow,nw0BoxLow,cw0BoxLow,Aw0BoxHigh,nw0BoxHigh,cw0BoxHigh,Aw0Costs,nw0Costs,cw0Costs,Aw0Choices,nw0Choices,cw0Choices,Aw0Plans,nw0Plans,cw0Plans,rfl,_,_,_,_,_⟩:=rSpace_rep.1 ((rSpace_ok NB).toRep ow0)
    have hF:Below w13.heap.size w13 w26:=Below.link hC2 hb27
    replace bkX:=Bk.below bkX hb27
    have jf:=bkX.frozen
    have jc0:=bkX.bx 0 _ rfl
    have jc1:=bkX.bx 1 _ rfl
    have jc2:=bkX.bx 2 _ rfl
    have jc3:=bkX.bx 3 _ rfl
    have jc4:=bkX.bx 4 _ rfl
    go_wp2_with fail
    refine hK.out _ _ (HSS16.out _ hF) (fun hHeld=>?_)
    clear hK K
    try simp only [putS]
    refine tka 7 35 hHeld ?_;simp only [putS]
    refine tka 8 43 hHeld ?_;simp only [putS]
    refine tka 9 44 hHeld ?_;simp only [putS]
    refine rd 11 none fun K hK=>?_
    clear hHeld
    go_simp
    refine hK.out _ _ (HSS16.out _ (Below.setCells hF hgX 0 [.slice Aw0BoxLow nw0BoxLow cw0BoxLow,.slice Aw0BoxHigh nw0BoxHigh cw0BoxHigh,.slice Aw0Costs nw0Costs cw0Costs,.slice Aw0Choices nw0Choices cw0Choices,.slice Aw0Plans nw0Plans cw0Plans])) (fun hHeld=>?_)
    clear hK K
    try simp only [putS]
    refine tka 12 9 hHeld ?_;simp only [putS]
    refine wpAnyH_done (by kernel_rfl) ?_ _
    clear hHeld
    (go_wp2_with fail)
    go_meet
    refine⟨[.slice Aw0BoxLow nw0BoxLow cw0BoxLow,.slice Aw0BoxHigh nw0BoxHigh cw0BoxHigh,.slice Aw0Costs nw0Costs cw0Costs,.slice Aw0Choices nw0Choices cw0Choices,.slice Aw0Plans nw0Plans cw0Plans],fw0,_,rfl,rfl,?_⟩
    exact Left.first (rSpace_ok NB) ow0 frw0 hC2 hb27 bkX ltX hgX rfl
  ·have hA:=(Below.refl w13.drew.heap.size w13.drew).alloc (Nat.le_refl _) (.cells #[.slice none 0 0,.slice none 0 0,.slice none 0 0,.slice none 0 0,.slice none 0 0] 39)
   have bkX:Bk (w13.drew.alloc (.cells #[.slice none 0 0,.slice none 0 0,.slice none 0 0,.slice none 0 0,.slice none 0 0] 39)) w13.heap.size 39 [.slice none 0 0,.slice none 0 0,.slice none 0 0,.slice none 0 0,.slice none 0 0]:=Bk.new w13.drew _ _
   have ltX:w13.heap.size<(w13.drew.alloc (.cells #[.slice none 0 0,.slice none 0 0,.slice none 0 0,.slice none 0 0,.slice none 0 0] 39)).heap.size:=Nat.lt_of_lt_of_eq (Nat.lt_succ_self _) (World.size_alloc ..).symm
   have hgX:w13.heap.size<=w13.heap.size:=hd13.size
   have hZ:=Below.link hd13 hA
   go_simp
   refine hK.out _ _ (HSS16.out _ hZ) (fun hHeld=>?_)
   clear hK K
   try simp only [putS]
   refine rd 1 (some 37) fun K hK=>?_
   clear hHeld
   go_simp
   refine(toModel_c _ xM _ ((rModel_ok NB).keep sM (cells_below (Below.link hB hZ)))).mono ?_
   rintro e w18 ⟨csv17,fv17,rfl,ov17,frv17,hb19⟩
   have Rv17:=(rModel_ok NB).toRep ov17
   have hC0:Below w13.heap.size w13 w18:=Below.link hZ hb19
   replace bkX:=Bk.below bkX hb19
   replace ltX:=Nat.lt_of_lt_of_le ltX hb19.size
   go_wp2_with fail
   refine hK.out _ _ (HSS16.out _ hC0) (fun hHeld=>?_)
   clear hK K
   try simp only [putS]
   refine rd 3 (some 39) fun K hK=>?_
   clear hHeld
   go_simp
   refine(toQuery_c _ xQ _ ((rQuery_ok NB).keep sQ (cells_below (Below.link hB hC0)))).mono ?_
   rintro e w21 ⟨csv20,fv20,rfl,ov20,frv20,hb22⟩
   have Rv20:=(rQuery_ok NB).toRep ov20
   have hC1:Below w13.heap.size w13 w21:=Below.link hC0 hb22
   replace Rv17:=(rModel_ok NB).keep Rv17 (cells_below hb22)
   replace bkX:=Bk.below bkX hb22
   replace ltX:=Nat.lt_of_lt_of_le ltX hb22.size
   go_wp2_with fail
   refine hK.out _ _ (HSS16.out _ hC1) (fun hHeld=>?_)
   clear hK K
   try simp only [putS]
   refine rd 5 (some 41) fun K hK=>?_
   clear hHeld
   go_simp
   refine(toBox_c _ xB _ ((rBox_ok NB).keep sB (cells_below (Below.link hB hC1)))).mono ?_
   rintro e w24 ⟨csv23,fv23,rfl,ov23,frv23,hb25⟩
   have Rv23:=(rBox_ok NB).toRep ov23
   have hC2:Below w13.heap.size w13 w24:=Below.link hC1 hb25
   replace Rv17:=(rModel_ok NB).keep Rv17 (cells_below hb25)
   replace Rv20:=(rQuery_ok NB).keep Rv20 (cells_below hb25)
   replace bkX:=Bk.below bkX hb25
   replace ltX:=Nat.lt_of_lt_of_le ltX hb25.size
   go_wp2_with fail
   refine hK.out _ _ (HSS16.out _ hC2) (fun hHeld=>?_)
   clear hK K
   try simp only [putS]
   refine rd 6 (some 42) fun K hK=>?_
   clear hHeld
   go_simp
   refine(sBuildSpace_c _ xM _ xQ _ xB _ Rv17 Rv20 Rv23).mono ?_
   rintro e w26 ⟨csw0,fw0,rfl,ow0,frw0,hb27⟩
   obtain⟨Aw0BoxLow,nw0BoxLow,cw0BoxLow,Aw0BoxHigh,nw0BoxHigh,cw0BoxHigh,Aw0Costs,nw0Costs,cw0Costs,Aw0Choices,nw0Choices,cw0Choices,Aw0Plans,nw0Plans,cw0Plans,rfl,_,_,_,_,_⟩:=rSpace_rep.1 ((rSpace_ok NB).toRep ow0)
   have hF:Below w13.heap.size w13 w26:=Below.link hC2 hb27
   replace bkX:=Bk.below bkX hb27
   have jf:=bkX.frozen
   have jc0:=bkX.bx 0 _ rfl
   have jc1:=bkX.bx 1 _ rfl
   have jc2:=bkX.bx 2 _ rfl
   have jc3:=bkX.bx 3 _ rfl
   have jc4:=bkX.bx 4 _ rfl
   go_wp2_with fail
   refine hK.out _ _ (HSS16.out _ hF) (fun hHeld=>?_)
   clear hK K
   try simp only [putS]
   refine tka 7 35 hHeld ?_;simp only [putS]
   refine tka 8 43 hHeld ?_;simp only [putS]
   refine tka 9 44 hHeld ?_;simp only [putS]
   refine rd 11 none fun K hK=>?_
   clear hHeld
   go_simp
   refine hK.out _ _ (HSS16.out _ (Below.setCells hF hgX 0 [.slice Aw0BoxLow nw0BoxLow cw0BoxLow,.slice Aw0BoxHigh nw0BoxHigh cw0BoxHigh,.slice Aw0Costs nw0Costs cw0Costs,.slice Aw0Choices nw0Choices cw0Choices,.slice Aw0Plans nw0Plans cw0Plans])) (fun hHeld=>?_)
   clear hK K
   try simp only [putS]
   refine tka 12 9 hHeld ?_;simp only [putS]
   refine wpAnyH_done (by kernel_rfl) ?_ _
   clear hHeld
   (go_wp2_with fail)
   go_meet
   refine⟨[.slice Aw0BoxLow nw0BoxLow cw0BoxLow,.slice Aw0BoxHigh nw0BoxHigh cw0BoxHigh,.slice Aw0Costs nw0Costs cw0Costs,.slice Aw0Choices nw0Choices cw0Choices,.slice Aw0Plans nw0Plans cw0Plans],fw0,_,rfl,rfl,?_⟩
   exact Left.first (rSpace_ok NB) ow0 frw0 hC2 hb27 bkX ltX hgX rfl
 case rest =>
 obtain⟨csw0,fw0,gw0,rfl,rfl,⟨ow0,frw0,ngw0,ggw0,bkw0,hCw0⟩⟩:=hcut
 obtain⟨wxw0,hwxw0⟩:∃ W:World,W=wc:=⟨_,rfl⟩
 subst hwxw0
 obtain⟨Aw0BoxLow,nw0BoxLow,cw0BoxLow,Aw0BoxHigh,nw0BoxHigh,cw0BoxHigh,Aw0Costs,nw0Costs,cw0Costs,Aw0Choices,nw0Choices,cw0Choices,Aw0Plans,nw0Plans,cw0Plans,rfl,_,_,_,_,_⟩:=rSpace_rep.1 ((rSpace_ok NB).toRep ow0)
 have z29:=hCw0.size
 try simp only [setCells_kit,setCells_size,World.size_alloc]at z29
 have Hz29:=Lib.hid z29;clear z29
 replace hB:=hB.trans (hCw0.mono hB.size)
 replace bxM:=bxM.below hCw0
 replace bxQ:=bxQ.below hCw0
 replace bxB:=bxB.below hCw0
 clear HSS16
 have ltw0:=Lib.hid ((rSpace_ok NB).lt ow0)
 have fsw0:=frw0
 have HFw0:Hid (∀ k∈fw0,_<=k):=fsw0.ge
 try simp only [setCells_kit,setCells_size,World.size_alloc]at HFw0
 have ndw0:=fsw0.nd;have NDw0:=Lib.hid ndw0;clear ndw0 fsw0
 have GGw0:=Lib.hid (And.intro ggw0 (Bk.lt bkw0));clear ggw0
 have NGw0:=Lib.hid ngw0;clear ngw0
 have bxw0:=Bk.bx bkw0;clear bkw0 hCw0
 go_wp2_with (first|(refine wpList_load_mid rfl 26 _ rfl (w.heap.size) 0 rfl csM _ bxM.range Tryz.underlying26 rfl (by rw [lenM];exact sizeLawModel) ?_))
 refine(toModel_c _ xM _ ((rModel_ok NB).keep sM (cells_below hB))).mono ?_
 rintro e w30 ⟨csx0,fx0,rfl,ox0,frx0,hb31⟩
 have z32:=hb31.size
 try simp only [setCells_kit,setCells_size,World.size_alloc]at z32
 have Hz32:=Lib.hid z32;clear z32
 replace ow0:=(rSpace_ok NB).ownB ow0 hb31
 replace hB:=hB.trans (hb31.mono hB.size)
 replace bxM:=bxM.below hb31
 replace bxQ:=bxQ.below hb31
 replace bxB:=bxB.below hb31
 replace bxw0:=bxw0.below hb31
 clear hb31
 have ltx0:=Lib.hid ((rModel_ok NB).lt ox0)
 have fsx0:=frx0
 have HFx0:Hid (∀ k∈fx0,_<=k):=fsx0.ge
 try simp only [setCells_kit,setCells_size,World.size_alloc]at HFx0
 have ndx0:=fsx0.nd;have NDx0:=Lib.hid ndx0;clear ndx0 fsx0
 have lenx0:csx0.length=30:=(rModel_ok NB).len ((rModel_ok NB).toRep ox0)
 have hA33:Below w30.heap.size w30 (World.setCells (w30.alloc (.cells #[.int .i64 0,.int .i64 0,.int .i64 0,.int .i64 0,.int .i64 0,.slice none 0 0,.int .i64 0,.int .i64 0,.int .i64 0,.int .i64 0,.int .i64 0,.slice none 0 0,.int .i64 0,.int .i64 0,.int .i64 0,.int .i64 0,.int .i64 0,.slice none 0 0,.int .i64 0,.int .i64 0,.int .i64 0,.int .i64 0,.int .i64 0,.slice none 0 0,.int .i64 0,.int .i64 0,.int .i64 0,.int .i64 0,.int .i64 0,.slice none 0 0] 46)) w30.heap.size 0 csx0):=by rw [setCells_kit];exact Below.setCells ((Below.refl _ _).alloc (Nat.le_refl _) _) (Nat.le_refl _) _ _
 replace ow0:=(rSpace_ok NB).ownB ow0 hA33
 replace ox0:=(rModel_ok NB).ownB ox0 hA33
 replace hB:=hB.trans (hA33.mono hB.size)
 replace bxM:=bxM.below hA33
 replace bxQ:=bxQ.below hA33
 replace bxB:=bxB.below hA33
 replace bxw0:=bxw0.below hA33
 have bxx0:Bx (World.setCells (w30.alloc (.cells #[.int .i64 0,.int .i64 0,.int .i64 0,.int .i64 0,.int .i64 0,.slice none 0 0,.int .i64 0,.int .i64 0,.int .i64 0,.int .i64 0,.int .i64 0,.slice none 0 0,.int .i64 0,.int .i64 0,.int .i64 0,.int .i64 0,.int .i64 0,.slice none 0 0,.int .i64 0,.int .i64 0,.int .i64 0,.int .i64 0,.int .i64 0,.slice none 0 0,.int .i64 0,.int .i64 0,.int .i64 0,.int .i64 0,.int .i64 0,.slice none 0 0] 46)) w30.heap.size 0 csx0) w30.heap.size csx0:=by rw [setCells_kit];exact((Bk.new w30 [.int .i64 0,.int .i64 0,.int .i64 0,.int .i64 0,.int .i64 0,.slice none 0 0,.int .i64 0,.int .i64 0,.int .i64 0,.int .i64 0,.int .i64 0,.slice none 0 0,.int .i64 0,.int .i64 0,.int .i64 0,.int .i64 0,.int .i64 0,.slice none 0 0,.int .i64 0,.int .i64 0,.int .i64 0,.int .i64 0,.int .i64 0,.slice none 0 0,.int .i64 0,.int .i64 0,.int .i64 0,.int .i64 0,.int .i64 0,.slice none 0 0] 46).fill lenx0).bx
 have Onex0:=all_oneCell_toArray ((rModel_ok NB).one ((rModel_ok NB).toRep ox0))
 have Thex0:(w30.alloc (.cells #[.int .i64 0,.int .i64 0,.int .i64 0,.int .i64 0,.int .i64 0,.slice none 0 0,.int .i64 0,.int .i64 0,.int .i64 0,.int .i64 0,.int .i64 0,.slice none 0 0,.int .i64 0,.int .i64 0,.int .i64 0,.int .i64 0,.int .i64 0,.slice none 0 0,.int .i64 0,.int .i64 0,.int .i64 0,.int .i64 0,.int .i64 0,.slice none 0 0,.int .i64 0,.int .i64 0,.int .i64 0,.int .i64 0,.int .i64 0,.slice none 0 0] 46)).there w30.heap.size 0 csx0.toArray.size:=by rw [show csx0.toArray.size=30 from List.size_toArray.trans lenx0];exact(Bk.new w30 [.int .i64 0,.int .i64 0,.int .i64 0,.int .i64 0,.int .i64 0,.slice none 0 0,.int .i64 0,.int .i64 0,.int .i64 0,.int .i64 0,.int .i64 0,.slice none 0 0,.int .i64 0,.int .i64 0,.int .i64 0,.int .i64 0,.int .i64 0,.slice none 0 0,.int .i64 0,.int .i64 0,.int .i64 0,.int .i64 0,.int .i64 0,.slice none 0 0,.int .i64 0,.int .i64 0,.int .i64 0,.int .i64 0,.int .i64 0,.slice none 0 0] 46).there
 clear hA33
 have cbxQ_0:=bxQ 0 _ rfl
 have cbxQ_1:=bxQ 1 _ rfl
 go_wp2_with (first|(refine wpList_store_mid rfl 46 _ _ rfl (w30.heap.size) 0 (List.toArray csx0) rfl rfl Thex0 (by rw [show csx0.toArray.size=30 from List.size_toArray.trans lenx0];exact sizeModel) Onex0 ?_)|(refine wpList_load_mid rfl 26 _ rfl (w.heap.size) 0 rfl csM _ bxM.range Tryz.underlying26 rfl (by rw [lenM];exact sizeLawModel) ?_)|(refine wpList_load_mid rfl 46 _ rfl (w30.heap.size) 0 rfl csx0 _ bxx0.range Tryz.underlying46 rfl (by rw [lenx0];exact sizeModel) ?_))
 clear Onex0 Thex0
 refine(toQuery_c _ xQ _ ((rQuery_ok NB).keep sQ (cells_below hB))).mono ?_
 rintro e w34 ⟨csx1,fx1,rfl,ox1,frx1,hb35⟩
 have z36:=hb35.size
 try simp only [setCells_kit,setCells_size,World.size_alloc]at z36
 have Hz36:=Lib.hid z36;clear z36
 replace ow0:=(rSpace_ok NB).ownB ow0 hb35
 replace ox0:=(rModel_ok NB).ownB ox0 hb35
 replace hB:=hB.trans (hb35.mono hB.size)
 replace bxM:=bxM.below hb35
 replace bxQ:=bxQ.below hb35
 replace bxB:=bxB.below hb35
 replace bxw0:=bxw0.below hb35
 replace bxx0:=bxx0.below hb35
 clear hb35 cbxQ_0 cbxQ_1
 have ltx1:=Lib.hid ((rQuery_ok NB).lt ox1)
 have fsx1:=frx1
 have HFx1:Hid (∀ k∈fx1,_<=k):=fsx1.ge
 try simp only [setCells_kit,setCells_size,World.size_alloc]at HFx1
 have ndx1:=fsx1.nd;have NDx1:=Lib.hid ndx1;clear ndx1 fsx1
 obtain⟨Ax1Atoms,nx1Atoms,cx1Atoms,rfl,_,_⟩:=rQuery_rep.1 ((rQuery_ok NB).toRep ox1)
 have hA37:=(Below.refl w34.heap.size w34).alloc (Nat.le_refl _) (.cells #[.int .i64 xQ.fVariableCount,.slice Ax1Atoms nx1Atoms cx1Atoms] 50)
 replace ow0:=(rSpace_ok NB).ownB ow0 hA37
 replace ox0:=(rModel_ok NB).ownB ox0 hA37
 replace ox1:=(rQuery_ok NB).ownB ox1 hA37
 replace hB:=hB.trans (hA37.mono hB.size)
 replace bxM:=bxM.below hA37
 replace bxQ:=bxQ.below hA37
 replace bxB:=bxB.below hA37
 replace bxw0:=bxw0.below hA37
 replace bxx0:=bxx0.below hA37
 have bxx1:=Bx.new w34 [.int .i64 xQ.fVariableCount,.slice Ax1Atoms nx1Atoms cx1Atoms] 50
 clear hA37
 have cbxB_0:=bxB 0 _ rfl
 have cbxB_1:=bxB 1 _ rfl
 go_wp2_with (first|(refine wpList_load_mid rfl 26 _ rfl (w.heap.size) 0 rfl csM _ bxM.range Tryz.underlying26 rfl (by rw [lenM];exact sizeLawModel) ?_)|(refine wpList_load_mid rfl 46 _ rfl (w30.heap.size) 0 rfl csx0 _ bxx0.range Tryz.underlying46 rfl (by rw [lenx0];exact sizeModel) ?_))
 refine(toBox_c _ xB _ ((rBox_ok NB).keep sB (cells_below hB))).mono ?_
 rintro e w38 ⟨csx2,fx2,rfl,ox2,frx2,hb39⟩
 have z40:=hb39.size
 try simp only [setCells_kit,setCells_size,World.size_alloc]at z40
 have Hz40:=Lib.hid z40;clear z40
 replace ow0:=(rSpace_ok NB).ownB ow0 hb39
 replace ox0:=(rModel_ok NB).ownB ox0 hb39
 replace ox1:=(rQuery_ok NB).ownB ox1 hb39
 replace hB:=hB.trans (hb39.mono hB.size)
 replace bxM:=bxM.below hb39
 replace bxQ:=bxQ.below hb39
 replace bxB:=bxB.below hb39
 replace bxw0:=bxw0.below hb39
 replace bxx0:=bxx0.below hb39
 replace bxx1:=bxx1.below hb39
 clear hb39 cbxB_0 cbxB_1
 have ltx2:=Lib.hid ((rBox_ok NB).lt ox2)
 have fsx2:=frx2
 have HFx2:Hid (∀ k∈fx2,_<=k):=fsx2.ge
 try simp only [setCells_kit,setCells_size,World.size_alloc]at HFx2
 have ndx2:=fsx2.nd;have NDx2:=Lib.hid ndx2;clear ndx2 fsx2
 obtain⟨Ax2Low,nx2Low,cx2Low,Ax2High,nx2High,cx2High,rfl,_,_⟩:=rBox_rep.1 ((rBox_ok NB).toRep ox2)
 have hA41:=(Below.refl w38.heap.size w38).alloc (Nat.le_refl _) (.cells #[.slice Ax2Low nx2Low cx2Low,.slice Ax2High nx2High cx2High] 36)
 replace ow0:=(rSpace_ok NB).ownB ow0 hA41
 replace ox0:=(rModel_ok NB).ownB ox0 hA41
 replace ox1:=(rQuery_ok NB).ownB ox1 hA41
 replace ox2:=(rBox_ok NB).ownB ox2 hA41
 replace hB:=hB.trans (hA41.mono hB.size)
 replace bxM:=bxM.below hA41
 replace bxQ:=bxQ.below hA41
 replace bxB:=bxB.below hA41
 replace bxw0:=bxw0.below hA41
 replace bxx0:=bxx0.below hA41
 replace bxx1:=bxx1.below hA41
 have bxx2:=Bx.new w38 [.slice Ax2Low nx2Low cx2Low,.slice Ax2High nx2High cx2High] 36
 clear hA41
 have cbxx1_0:=bxx1 0 _ rfl
 have cbxx1_1:=bxx1 1 _ rfl
 have cbxx2_0:=bxx2 0 _ rfl
 have cbxx2_1:=bxx2 1 _ rfl
 go_wp2_with (first|(refine wpList_load_mid rfl 26 _ rfl (w.heap.size) 0 rfl csM _ bxM.range Tryz.underlying26 rfl (by rw [lenM];exact sizeLawModel) ?_)|(refine wpList_load_mid rfl 46 _ rfl (w30.heap.size) 0 rfl csx0 _ bxx0.range Tryz.underlying46 rfl (by rw [lenx0];exact sizeModel) ?_))
 refine(iBuildSpace_c _ xM _ xQ _ xB _ ((rModel_ok NB).toRep ox0) ((rQuery_ok NB).toRep ox1) ((rBox_ok NB).toRep ox2)).mono ?_
 rintro e w42 ⟨csg0,fg0,rfl,og0,frg0,hb43⟩
 have z44:=hb43.size
 try simp only [setCells_kit,setCells_size,World.size_alloc]at z44
 have Hz44:=Lib.hid z44;clear z44
 replace ow0:=(rSpace_ok NB).ownB ow0 hb43
 replace ox0:=(rModel_ok NB).ownB ox0 hb43
 replace ox1:=(rQuery_ok NB).ownB ox1 hb43
 replace ox2:=(rBox_ok NB).ownB ox2 hb43
 replace hB:=hB.trans (hb43.mono hB.size)
 replace bxM:=bxM.below hb43
 replace bxQ:=bxQ.below hb43
 replace bxB:=bxB.below hb43
 replace bxw0:=bxw0.below hb43
 replace bxx0:=bxx0.below hb43
 replace bxx1:=bxx1.below hb43
 replace bxx2:=bxx2.below hb43
 clear hb43 cbxx1_0 cbxx1_1 cbxx2_0 cbxx2_1
 obtain⟨Ag0BoxLow,ng0BoxLow,cg0BoxLow,Ag0BoxHigh,ng0BoxHigh,cg0BoxHigh,Ag0Costs,ng0Costs,cg0Costs,Ag0Choices,ng0Choices,cg0Choices,Ag0Plans,ng0Plans,cg0Plans,rfl,_,_,_,_,_⟩:=rSpace_rep.1 ((rSpace_ok NB).toRep og0)
 have ltg0:=Lib.hid ((rSpace_ok NB).lt og0)
 have fsg0:=frg0
 have HFg0:Hid (∀ k∈fg0,_<=k):=fsg0.ge
 try simp only [setCells_kit,setCells_size,World.size_alloc]at HFg0
 have ndg0:=fsg0.nd;have NDg0:=Lib.hid ndg0;clear ndg0 fsg0
 have hA45:=(Below.refl w42.heap.size w42).alloc (Nat.le_refl _) (.cells #[.slice Ag0BoxLow ng0BoxLow cg0BoxLow,.slice Ag0BoxHigh ng0BoxHigh cg0BoxHigh,.slice Ag0Costs ng0Costs cg0Costs,.slice Ag0Choices ng0Choices cg0Choices,.slice Ag0Plans ng0Plans cg0Plans] 39)
 replace ow0:=(rSpace_ok NB).ownB ow0 hA45
 replace ox0:=(rModel_ok NB).ownB ox0 hA45
 replace ox1:=(rQuery_ok NB).ownB ox1 hA45
 replace ox2:=(rBox_ok NB).ownB ox2 hA45
 replace og0:=(rSpace_ok NB).ownB og0 hA45
 replace hB:=hB.trans (hA45.mono hB.size)
 replace bxM:=bxM.below hA45
 replace bxQ:=bxQ.below hA45
 replace bxB:=bxB.below hA45
 replace bxw0:=bxw0.below hA45
 replace bxx0:=bxx0.below hA45
 replace bxx1:=bxx1.below hA45
 replace bxx2:=bxx2.below hA45
 have bxg0:=Bx.new w42 [.slice Ag0BoxLow ng0BoxLow cg0BoxLow,.slice Ag0BoxHigh ng0BoxHigh cg0BoxHigh,.slice Ag0Costs ng0Costs cg0Costs,.slice Ag0Choices ng0Choices cg0Choices,.slice Ag0Plans ng0Plans cg0Plans] 39
 clear hA45
 have hnei:∀ v:Int,(v != v)=false:=fun v=>by simp
 have hneb:∀ v:Bool,(v==v)=true:=fun v=>by simp
 have cbxw0_0:=bxw0 0 _ rfl
 have cbxw0_1:=bxw0 1 _ rfl
 have cbxw0_2:=bxw0 2 _ rfl
 have cbxw0_3:=bxw0 3 _ rfl
 have cbxw0_4:=bxw0 4 _ rfl
 have cbxg0_0:=bxg0 0 _ rfl
 have cbxg0_1:=bxg0 1 _ rfl
 have cbxg0_2:=bxg0 2 _ rfl
 have cbxg0_3:=bxg0 3 _ rfl
 have cbxg0_4:=bxg0 4 _ rfl
 go_wp2_with (first|(refine wpList_load_mid rfl 26 _ rfl (w.heap.size) 0 rfl csM _ bxM.range Tryz.underlying26 rfl (by rw [lenM];exact sizeLawModel) ?_)|(refine wpList_load_mid rfl 46 _ rfl (w30.heap.size) 0 rfl csx0 _ bxx0.range Tryz.underlying46 rfl (by rw [lenx0];exact sizeModel) ?_))
 refine(eqSpace_c _ _ ((buildE xM xQ xB).1) ((buildE xM xQ xB).1) _ ((rSpace_ok NB).toRep og0) ((rSpace_ok NB).toRep ow0)).mono ?_
 rintro e w46 ⟨rfl,hb47⟩
 have z48:=hb47.size
 try simp only [setCells_kit,setCells_size,World.size_alloc]at z48
 have Hz48:=Lib.hid z48;clear z48
 replace ow0:=(rSpace_ok NB).ownB ow0 hb47
 replace ox0:=(rModel_ok NB).ownB ox0 hb47
 replace ox1:=(rQuery_ok NB).ownB ox1 hb47
 replace ox2:=(rBox_ok NB).ownB ox2 hb47
 replace og0:=(rSpace_ok NB).ownB og0 hb47
 replace hB:=hB.trans (hb47.mono hB.size)
 replace bxM:=bxM.below hb47
 replace bxQ:=bxQ.below hb47
 replace bxB:=bxB.below hb47
 replace bxw0:=bxw0.below hb47
 replace bxx0:=bxx0.below hb47
 replace bxx1:=bxx1.below hb47
 replace bxx2:=bxx2.below hb47
 replace bxg0:=bxg0.below hb47
 clear hb47 cbxw0_0 cbxw0_1 cbxw0_2 cbxw0_3 cbxw0_4 cbxg0_0 cbxg0_1 cbxg0_2 cbxg0_3 cbxg0_4
 have hdr49:decide (((buildE xM xQ xB).1)=((buildE xM xQ xB).1))=true:=by simp
 go_wp2_with (first|(refine wpList_load_mid rfl 26 _ rfl (w.heap.size) 0 rfl csM _ bxM.range Tryz.underlying26 rfl (by rw [lenM];exact sizeLawModel) ?_)|(refine wpList_load_mid rfl 46 _ rfl (w30.heap.size) 0 rfl csx0 _ bxx0.range Tryz.underlying46 rfl (by rw [lenx0];exact sizeModel) ?_))
 have HSS:∀ w',Below w46.heap.size w46 w'->(Below w46.heap.size w46 w'/\w'.rangeAt (w.heap.size) 0 csM/\w'.rangeAt (w30.heap.size) 0 csx0):=fun w' hb=>⟨hb,(bxM.below hb).range,(bxx0.below hb).range⟩
 refine wp_region_held_drew (S:=fun w'=>Below w46.heap.size w46 w'/\w'.rangeAt (w.heap.size) 0 csM/\w'.rangeAt (w30.heap.size) 0 csx0) (by kernel_rfl) ?_ (fun hHeld=>?_)
 ·exact HSS _ (Below.refl _ _).drew
 refine' wpAnyH_take (i:=0) (v:=_) rfl (by kernel_rfl) (by kernel_rfl) (by kernel_rfl) (fun _ _ _ h=>h) (yieldsIf_load_mid (by rfl) _ _ rfl _ _ rfl _ _ (fun w h=>h.2.2) Tryz.underlying46 rfl (by rw [lenx0];exact sizeModel)) hHeld ?_
 simp only [Act.put,List.setIfInBounds_toArray,List.set_cons_zero,List.set_cons_succ]
 refine' wpAnyH_take (i:=1) (v:=_) rfl (by kernel_rfl) (by kernel_rfl) (by kernel_rfl) (fun _ _ _ h=>h) (yieldsIf_load_mid (by rfl) _ _ rfl _ _ rfl _ _ (fun w h=>h.2.1) Tryz.underlying26 rfl (by rw [lenM];exact sizeLawModel)) hHeld ?_
 simp only [Act.put,List.setIfInBounds_toArray,List.set_cons_zero,List.set_cons_succ]
 refine wpAnyH_ready (rs:=[2]) (by kernel_rfl) (by simp) ?_
 refine AllReadyH.cons rfl (fun K hK=>?_) AllReadyH.nil
 have HSS':=Lib.hid HSS;clear HSS
 clear hHeld
 go_simp
 refine(toModel_c _ xM _ ((rModel_ok NB).keep sM (cells_below (hB.trans (Below.mono ((Below.refl w46.heap.size w46).drew) hB.size))))).mono ?_
 rintro e wq1 ⟨csq,fq,rfl,oq,frq,hbq1⟩
 have hCq1:Below w46.heap.size w46 wq1:=Below.trans ((Below.refl w46.heap.size w46).drew) hbq1
 have Rq:=(rModel_ok NB).toRep oq;clear oq frq hbq1
 go_wp2_with fail
 refine hK.out _ _ (HSS'.out _ hCq1) (fun hHeld=>?_)
 clear hK K hHeld
 try simp only [Act.put,List.setIfInBounds_toArray,List.set_cons_zero,List.set_cons_succ]
 refine wpAnyH_ready (rs:=[3]) (by kernel_rfl) (by simp) ?_
 refine AllReadyH.cons rfl (fun K hK=>?_) AllReadyH.nil
 go_simp
 refine(eqModel_c _ _ xM xM _ ((rModel_ok NB).keep ((rModel_ok NB).toRep ox0) (cells_below hCq1)) Rq).mono ?_
 rintro e w56 ⟨rfl,hbq2⟩
 have hC58:Below w46.heap.size w46 w56:=Below.trans hCq1 (hbq2.mono hCq1.size)
 clear hbq2 hCq1 Rq
 go_wp2_with fail
 refine hK.out _ _ (HSS'.out _ hC58) (fun hHeld=>?_)
 clear hK K hHeld
 try simp only [Act.put,List.setIfInBounds_toArray,List.set_cons_zero,List.set_cons_succ]
 refine wpAnyH_ready (rs:=[4]) (by kernel_rfl) (by simp) ?_
 refine AllReadyH.cons rfl (fun K hK=>?_) AllReadyH.nil
 go_simp
 refine hK.out _ _ (HSS'.out _ hC58) (fun hHeld=>?_)
 clear hK K hHeld HSS'
 try simp only [Act.put,List.setIfInBounds_toArray,List.set_cons_zero,List.set_cons_succ]
 refine wpAnyH_done (by kernel_rfl) ?_ _
 have z60:=hC58.size
 try simp only [setCells_kit,setCells_size,World.size_alloc]at z60
 have Hz60:=Lib.hid z60;clear z60
 replace ow0:=(rSpace_ok NB).ownB ow0 hC58
 replace ox0:=(rModel_ok NB).ownB ox0 hC58
 replace ox1:=(rQuery_ok NB).ownB ox1 hC58
 replace ox2:=(rBox_ok NB).ownB ox2 hC58
 replace og0:=(rSpace_ok NB).ownB og0 hC58
 replace hB:=hB.trans (hC58.mono hB.size)
 replace bxM:=bxM.below hC58
 replace bxQ:=bxQ.below hC58
 replace bxB:=bxB.below hC58
 replace bxw0:=bxw0.below hC58
 replace bxx0:=bxx0.below hC58
 replace bxx1:=bxx1.below hC58
 replace bxx2:=bxx2.below hC58
 replace bxg0:=bxg0.below hC58
 clear hC58
 have hdx0:decide (xM=xM)=true:=by simp
 go_wp2_with (first|(refine wpList_load_mid rfl 26 _ rfl (w.heap.size) 0 rfl csM _ bxM.range Tryz.underlying26 rfl (by rw [lenM];exact sizeLawModel) ?_)|(refine wpList_load_mid rfl 46 _ rfl (w30.heap.size) 0 rfl csx0 _ bxx0.range Tryz.underlying46 rfl (by rw [lenx0];exact sizeModel) ?_))
 have SS61:∀ w',Below w56.heap.size w56 w'->(Below w56.heap.size w56 w'/\w'.cell? ⟨w.heap.size+1,0,none⟩=some (.int .i64 xQ.fVariableCount)/\w'.cell? ⟨w.heap.size+1,1,none⟩=some (.slice AQAtoms nQAtoms cQAtoms)/\w'.cell? ⟨w34.heap.size,0,none⟩=some (.int .i64 xQ.fVariableCount)/\w'.cell? ⟨w34.heap.size,1,none⟩=some (.slice Ax1Atoms nx1Atoms cx1Atoms)):=fun w' hb=>⟨hb,bxQ.below hb 0 _ rfl,bxQ.below hb 1 _ rfl,bxx1.below hb 0 _ rfl,bxx1.below hb 1 _ rfl⟩
 have HSS61:=Lib.hid SS61;clear SS61
 have tok66:True:=trivial
 have tok70:True:=trivial
 go_region_held3 (fun w'=>Below w56.heap.size w56 w'/\w'.cell? ⟨w.heap.size+1,0,none⟩=some (.int .i64 xQ.fVariableCount)/\w'.cell? ⟨w.heap.size+1,1,none⟩=some (.slice AQAtoms nQAtoms cQAtoms)/\w'.cell? ⟨w34.heap.size,0,none⟩=some (.int .i64 xQ.fVariableCount)/\w'.cell? ⟨w34.heap.size,1,none⟩=some (.slice Ax1Atoms nx1Atoms cx1Atoms)) (first|exact HSS61.out _ (Below.refl _ _).drew|exact HSS61.out _ (by assumption)) (first|(go_at_call 12;have _t:=tok66;refine(toQuery_c _ xQ _ ((rQuery_ok NB).keep sQ (cells_below (hB.trans (Below.mono ((Below.refl w56.heap.size w56).drew) hB.size))))).mono ?_;rintro e w63 ⟨csv62,fv62,rfl,ov62,frv62,hb64⟩;have hC65:Below w56.heap.size w56 w63:=Below.trans ((Below.refl w56.heap.size w56).drew) (hb64.mono ((Below.refl w56.heap.size w56).drew).size);have Rv62:=(rQuery_ok NB).toRep ov62;clear tok66)|(go_at_call 17;have _t:=tok70;refine(eqQuery_c _ _ xQ xQ _ ((rQuery_ok NB).keep ((rQuery_ok NB).toRep ox1) (cells_below (hC65))) Rv62).mono ?_;rintro e w67 ⟨rfl,hb68⟩;have hC69:Below w56.heap.size w56 w67:=Below.trans (hC65) (hb68.mono (hC65).size);clear tok70))
 have z71:=hC69.size
 try simp only [setCells_kit,setCells_size,World.size_alloc]at z71
 have Hz71:=Lib.hid z71;clear z71
 replace ow0:=(rSpace_ok NB).ownB ow0 hC69
 replace ox0:=(rModel_ok NB).ownB ox0 hC69
 replace ox1:=(rQuery_ok NB).ownB ox1 hC69
 replace ox2:=(rBox_ok NB).ownB ox2 hC69
 replace og0:=(rSpace_ok NB).ownB og0 hC69
 replace hB:=hB.trans (hC69.mono hB.size)
 replace bxM:=bxM.below hC69
 replace bxQ:=bxQ.below hC69
 replace bxB:=bxB.below hC69
 replace bxw0:=bxw0.below hC69
 replace bxx0:=bxx0.below hC69
 replace bxx1:=bxx1.below hC69
 replace bxx2:=bxx2.below hC69
 replace bxg0:=bxg0.below hC69
 clear HSS61 hC69
 have hdx1:decide (xQ=xQ)=true:=by simp
 go_wp2_with (first|(refine wpList_load_mid rfl 26 _ rfl (w.heap.size) 0 rfl csM _ bxM.range Tryz.underlying26 rfl (by rw [lenM];exact sizeLawModel) ?_)|(refine wpList_load_mid rfl 46 _ rfl (w30.heap.size) 0 rfl csx0 _ bxx0.range Tryz.underlying46 rfl (by rw [lenx0];exact sizeModel) ?_))
 have SS72:∀ w',Below w67.heap.size w67 w'->(Below w67.heap.size w67 w'/\w'.cell? ⟨w.heap.size+1+1,0,none⟩=some (.slice ABLow nBLow cBLow)/\w'.cell? ⟨w.heap.size+1+1,1,none⟩=some (.slice ABHigh nBHigh cBHigh)/\w'.cell? ⟨w38.heap.size,0,none⟩=some (.slice Ax2Low nx2Low cx2Low)/\w'.cell? ⟨w38.heap.size,1,none⟩=some (.slice Ax2High nx2High cx2High)):=fun w' hb=>⟨hb,bxB.below hb 0 _ rfl,bxB.below hb 1 _ rfl,bxx2.below hb 0 _ rfl,bxx2.below hb 1 _ rfl⟩
 have HSS72:=Lib.hid SS72;clear SS72
 have tok77:True:=trivial
 have tok81:True:=trivial
 go_region_held3 (fun w'=>Below w67.heap.size w67 w'/\w'.cell? ⟨w.heap.size+1+1,0,none⟩=some (.slice ABLow nBLow cBLow)/\w'.cell? ⟨w.heap.size+1+1,1,none⟩=some (.slice ABHigh nBHigh cBHigh)/\w'.cell? ⟨w38.heap.size,0,none⟩=some (.slice Ax2Low nx2Low cx2Low)/\w'.cell? ⟨w38.heap.size,1,none⟩=some (.slice Ax2High nx2High cx2High)) (first|exact HSS72.out _ (Below.refl _ _).drew|exact HSS72.out _ (by assumption)) (first|(go_at_call 13;have _t:=tok77;refine(toBox_c _ xB _ ((rBox_ok NB).keep sB (cells_below (hB.trans (Below.mono ((Below.refl w67.heap.size w67).drew) hB.size))))).mono ?_;rintro e w74 ⟨csv73,fv73,rfl,ov73,frv73,hb75⟩;have hC76:Below w67.heap.size w67 w74:=Below.trans ((Below.refl w67.heap.size w67).drew) (hb75.mono ((Below.refl w67.heap.size w67).drew).size);have Rv73:=(rBox_ok NB).toRep ov73;clear tok77)|(go_at_call 18;have _t:=tok81;refine(eqBox_c _ _ xB xB _ ((rBox_ok NB).keep ((rBox_ok NB).toRep ox2) (cells_below (hC76))) Rv73).mono ?_;rintro e w78 ⟨rfl,hb79⟩;have hC80:Below w67.heap.size w67 w78:=Below.trans (hC76) (hb79.mono (hC76).size);clear tok81))
 have z82:=hC80.size
 try simp only [setCells_kit,setCells_size,World.size_alloc]at z82
 have Hz82:=Lib.hid z82;clear z82
 replace ow0:=(rSpace_ok NB).ownB ow0 hC80
 replace ox0:=(rModel_ok NB).ownB ox0 hC80
 replace ox1:=(rQuery_ok NB).ownB ox1 hC80
 replace ox2:=(rBox_ok NB).ownB ox2 hC80
 replace og0:=(rSpace_ok NB).ownB og0 hC80
 replace hB:=hB.trans (hC80.mono hB.size)
 replace bxM:=bxM.below hC80
 replace bxQ:=bxQ.below hC80
 replace bxB:=bxB.below hC80
 replace bxw0:=bxw0.below hC80
 replace bxx0:=bxx0.below hC80
 replace bxx1:=bxx1.below hC80
 replace bxx2:=bxx2.below hC80
 replace bxg0:=bxg0.below hC80
 clear HSS72 hC80
 have hdx2:decide (xB=xB)=true:=by simp
 have hcbr:Hid ((cnt_Space ((buildE xM xQ xB).1))<=1099511627776):=(by show _<=_;exact(by have e2:=cnt_build xM xQ xB;have e3:=cntb_Box xB;omega))
 go_wp2_with (first|(refine wpList_load_mid rfl 26 _ rfl (w.heap.size) 0 rfl csM _ bxM.range Tryz.underlying26 rfl (by rw [lenM];exact sizeLawModel) ?_)|(refine wpList_load_mid rfl 46 _ rfl (w30.heap.size) 0 rfl csx0 _ bxx0.range Tryz.underlying46 rfl (by rw [lenx0];exact sizeModel) ?_))
 have hcbw83:(cnt_Model (xM))<=1099511627776:=(by have e:=cntb_Model xM;omega)
 refine(markModel_m _ (xM) 1 _ fx0 ox0 NDx0.out (by omega) (by omega)).mono ?_
 rintro e w83 ⟨rfl,omw83,hc84⟩
 replace hB:=hB.trans (hc84.toBelow hB.size (fun k hk=>by have:=HFx0.out k hk;have:=Hz6.out;have:=Hz10.out;have:=Hz14.out;have:=Hz29.out;have:=GGw0.out;have:=Hz32.out;have:=Hz36.out;have:=Hz40.out;have:=Hz44.out;have:=Hz48.out;have:=Hz60.out;have:=Hz71.out;have:=Hz82.out;omega))
 replace bxM:=bxM.chg hc84 (fun hk=>by have:=HFx0.out _ hk;have:=ltx0.out _ hk;have:=Hz6.out;have:=Hz10.out;have:=Hz14.out;have:=Hz29.out;have:=GGw0.out;have:=Hz32.out;have:=Hz36.out;have:=Hz40.out;have:=Hz44.out;have:=Hz48.out;have:=Hz60.out;have:=Hz71.out;have:=Hz82.out;omega)
 replace bxQ:=bxQ.chg hc84 (fun hk=>by have:=HFx0.out _ hk;have:=ltx0.out _ hk;have:=Hz6.out;have:=Hz10.out;have:=Hz14.out;have:=Hz29.out;have:=GGw0.out;have:=Hz32.out;have:=Hz36.out;have:=Hz40.out;have:=Hz44.out;have:=Hz48.out;have:=Hz60.out;have:=Hz71.out;have:=Hz82.out;omega)
 replace bxB:=bxB.chg hc84 (fun hk=>by have:=HFx0.out _ hk;have:=ltx0.out _ hk;have:=Hz6.out;have:=Hz10.out;have:=Hz14.out;have:=Hz29.out;have:=GGw0.out;have:=Hz32.out;have:=Hz36.out;have:=Hz40.out;have:=Hz44.out;have:=Hz48.out;have:=Hz60.out;have:=Hz71.out;have:=Hz82.out;omega)
 replace bxw0:=bxw0.chg hc84 (fun hk=>by have:=HFx0.out _ hk;have:=ltx0.out _ hk;have:=Hz6.out;have:=Hz10.out;have:=Hz14.out;have:=Hz29.out;have:=GGw0.out;have:=Hz32.out;have:=Hz36.out;have:=Hz40.out;have:=Hz44.out;have:=Hz48.out;have:=Hz60.out;have:=Hz71.out;have:=Hz82.out;omega)
 replace bxx0:=bxx0.chg hc84 (fun hk=>by have:=HFx0.out _ hk;have:=ltx0.out _ hk;have:=Hz6.out;have:=Hz10.out;have:=Hz14.out;have:=Hz29.out;have:=GGw0.out;have:=Hz32.out;have:=Hz36.out;have:=Hz40.out;have:=Hz44.out;have:=Hz48.out;have:=Hz60.out;have:=Hz71.out;have:=Hz82.out;omega)
 replace bxx1:=bxx1.chg hc84 (fun hk=>by have:=HFx0.out _ hk;have:=ltx0.out _ hk;have:=Hz6.out;have:=Hz10.out;have:=Hz14.out;have:=Hz29.out;have:=GGw0.out;have:=Hz32.out;have:=Hz36.out;have:=Hz40.out;have:=Hz44.out;have:=Hz48.out;have:=Hz60.out;have:=Hz71.out;have:=Hz82.out;omega)
 replace bxx2:=bxx2.chg hc84 (fun hk=>by have:=HFx0.out _ hk;have:=ltx0.out _ hk;have:=Hz6.out;have:=Hz10.out;have:=Hz14.out;have:=Hz29.out;have:=GGw0.out;have:=Hz32.out;have:=Hz36.out;have:=Hz40.out;have:=Hz44.out;have:=Hz48.out;have:=Hz60.out;have:=Hz71.out;have:=Hz82.out;omega)
 replace bxg0:=bxg0.chg hc84 (fun hk=>by have:=HFx0.out _ hk;have:=ltx0.out _ hk;have:=Hz6.out;have:=Hz10.out;have:=Hz14.out;have:=Hz29.out;have:=GGw0.out;have:=Hz32.out;have:=Hz36.out;have:=Hz40.out;have:=Hz44.out;have:=Hz48.out;have:=Hz60.out;have:=Hz71.out;have:=Hz82.out;omega)
 replace ow0:=(rSpace_ok NB).ownC ow0 hc84 (fun k hk hk'=>by have:=HFw0.out k hk;have:=ltw0.out k hk;have:=HFx0.out k hk';have:=ltx0.out k hk';have:=Hz6.out;have:=Hz10.out;have:=Hz14.out;have:=Hz29.out;have:=GGw0.out;have:=Hz32.out;have:=Hz36.out;have:=Hz40.out;have:=Hz44.out;have:=Hz48.out;have:=Hz60.out;have:=Hz71.out;have:=Hz82.out;omega)
 replace ox1:=(rQuery_ok NB).ownC ox1 hc84 (fun k hk hk'=>by have:=HFx1.out k hk;have:=ltx1.out k hk;have:=HFx0.out k hk';have:=ltx0.out k hk';have:=Hz6.out;have:=Hz10.out;have:=Hz14.out;have:=Hz29.out;have:=GGw0.out;have:=Hz32.out;have:=Hz36.out;have:=Hz40.out;have:=Hz44.out;have:=Hz48.out;have:=Hz60.out;have:=Hz71.out;have:=Hz82.out;omega)
 replace ox2:=(rBox_ok NB).ownC ox2 hc84 (fun k hk hk'=>by have:=HFx2.out k hk;have:=ltx2.out k hk;have:=HFx0.out k hk';have:=ltx0.out k hk';have:=Hz6.out;have:=Hz10.out;have:=Hz14.out;have:=Hz29.out;have:=GGw0.out;have:=Hz32.out;have:=Hz36.out;have:=Hz40.out;have:=Hz44.out;have:=Hz48.out;have:=Hz60.out;have:=Hz71.out;have:=Hz82.out;omega)
 replace og0:=(rSpace_ok NB).ownC og0 hc84 (fun k hk hk'=>by have:=HFg0.out k hk;have:=ltg0.out k hk;have:=HFx0.out k hk';have:=ltx0.out k hk';have:=Hz6.out;have:=Hz10.out;have:=Hz14.out;have:=Hz29.out;have:=GGw0.out;have:=Hz32.out;have:=Hz36.out;have:=Hz40.out;have:=Hz44.out;have:=Hz48.out;have:=Hz60.out;have:=Hz71.out;have:=Hz82.out;omega)
 clear ox0;have ox0:=omw83;clear omw83
 have Hz85:=Lib.hid hc84.size
 try simp only [World.size_alloc]at Hz85
 clear hc84
 obtain⟨kk86,hkk86⟩:∃ q:Int,q=1+((cnt_Model (xM)):Nat):=⟨_,rfl⟩
 rw [<- hkk86]
 have pkk86:0<=kk86:=by omega
 have ukk86:kk86<=2199023255552:=by omega
 have Hkkk86:=Lib.hid hkk86;clear hkk86 hcbw83
 have cbxx1_0:=bxx1 0 _ rfl
 have cbxx1_1:=bxx1 1 _ rfl
 go_wp2_with (first|(refine wpList_load_mid rfl 26 _ rfl (w.heap.size) 0 rfl csM _ bxM.range Tryz.underlying26 rfl (by rw [lenM];exact sizeLawModel) ?_)|(refine wpList_load_mid rfl 46 _ rfl (w30.heap.size) 0 rfl csx0 _ bxx0.range Tryz.underlying46 rfl (by rw [lenx0];exact sizeModel) ?_))
 have hcbw87:(cnt_Query (xQ))<=1099511627776:=(by have e:=cntb_Query xQ;omega)
 refine(markQuery_m _ (xQ) kk86 _ fx1 ox1 NDx1.out (by omega) (by omega)).mono ?_
 rintro e w87 ⟨rfl,omw87,hc88⟩
 replace hB:=hB.trans (hc88.toBelow hB.size (fun k hk=>by have:=HFx1.out k hk;have:=Hz6.out;have:=Hz10.out;have:=Hz14.out;have:=Hz29.out;have:=GGw0.out;have:=Hz32.out;have:=Hz36.out;have:=Hz40.out;have:=Hz44.out;have:=Hz48.out;have:=Hz60.out;have:=Hz71.out;have:=Hz82.out;have:=Hz85.out;omega))
 replace bxM:=bxM.chg hc88 (fun hk=>by have:=HFx1.out _ hk;have:=ltx1.out _ hk;have:=Hz6.out;have:=Hz10.out;have:=Hz14.out;have:=Hz29.out;have:=GGw0.out;have:=Hz32.out;have:=Hz36.out;have:=Hz40.out;have:=Hz44.out;have:=Hz48.out;have:=Hz60.out;have:=Hz71.out;have:=Hz82.out;have:=Hz85.out;omega)
 replace bxQ:=bxQ.chg hc88 (fun hk=>by have:=HFx1.out _ hk;have:=ltx1.out _ hk;have:=Hz6.out;have:=Hz10.out;have:=Hz14.out;have:=Hz29.out;have:=GGw0.out;have:=Hz32.out;have:=Hz36.out;have:=Hz40.out;have:=Hz44.out;have:=Hz48.out;have:=Hz60.out;have:=Hz71.out;have:=Hz82.out;have:=Hz85.out;omega)
 replace bxB:=bxB.chg hc88 (fun hk=>by have:=HFx1.out _ hk;have:=ltx1.out _ hk;have:=Hz6.out;have:=Hz10.out;have:=Hz14.out;have:=Hz29.out;have:=GGw0.out;have:=Hz32.out;have:=Hz36.out;have:=Hz40.out;have:=Hz44.out;have:=Hz48.out;have:=Hz60.out;have:=Hz71.out;have:=Hz82.out;have:=Hz85.out;omega)
 replace bxw0:=bxw0.chg hc88 (fun hk=>by have:=HFx1.out _ hk;have:=ltx1.out _ hk;have:=Hz6.out;have:=Hz10.out;have:=Hz14.out;have:=Hz29.out;have:=GGw0.out;have:=Hz32.out;have:=Hz36.out;have:=Hz40.out;have:=Hz44.out;have:=Hz48.out;have:=Hz60.out;have:=Hz71.out;have:=Hz82.out;have:=Hz85.out;omega)
 replace bxx0:=bxx0.chg hc88 (fun hk=>by have:=HFx1.out _ hk;have:=ltx1.out _ hk;have:=Hz6.out;have:=Hz10.out;have:=Hz14.out;have:=Hz29.out;have:=GGw0.out;have:=Hz32.out;have:=Hz36.out;have:=Hz40.out;have:=Hz44.out;have:=Hz48.out;have:=Hz60.out;have:=Hz71.out;have:=Hz82.out;have:=Hz85.out;omega)
 replace bxx1:=bxx1.chg hc88 (fun hk=>by have:=HFx1.out _ hk;have:=ltx1.out _ hk;have:=Hz6.out;have:=Hz10.out;have:=Hz14.out;have:=Hz29.out;have:=GGw0.out;have:=Hz32.out;have:=Hz36.out;have:=Hz40.out;have:=Hz44.out;have:=Hz48.out;have:=Hz60.out;have:=Hz71.out;have:=Hz82.out;have:=Hz85.out;omega)
 replace bxx2:=bxx2.chg hc88 (fun hk=>by have:=HFx1.out _ hk;have:=ltx1.out _ hk;have:=Hz6.out;have:=Hz10.out;have:=Hz14.out;have:=Hz29.out;have:=GGw0.out;have:=Hz32.out;have:=Hz36.out;have:=Hz40.out;have:=Hz44.out;have:=Hz48.out;have:=Hz60.out;have:=Hz71.out;have:=Hz82.out;have:=Hz85.out;omega)
 replace bxg0:=bxg0.chg hc88 (fun hk=>by have:=HFx1.out _ hk;have:=ltx1.out _ hk;have:=Hz6.out;have:=Hz10.out;have:=Hz14.out;have:=Hz29.out;have:=GGw0.out;have:=Hz32.out;have:=Hz36.out;have:=Hz40.out;have:=Hz44.out;have:=Hz48.out;have:=Hz60.out;have:=Hz71.out;have:=Hz82.out;have:=Hz85.out;omega)
 replace ow0:=(rSpace_ok NB).ownC ow0 hc88 (fun k hk hk'=>by have:=HFw0.out k hk;have:=ltw0.out k hk;have:=HFx1.out k hk';have:=ltx1.out k hk';have:=Hz6.out;have:=Hz10.out;have:=Hz14.out;have:=Hz29.out;have:=GGw0.out;have:=Hz32.out;have:=Hz36.out;have:=Hz40.out;have:=Hz44.out;have:=Hz48.out;have:=Hz60.out;have:=Hz71.out;have:=Hz82.out;have:=Hz85.out;omega)
 replace ox0:=(rModel_ok NB).ownC ox0 hc88 (fun k hk hk'=>by have:=HFx0.out k hk;have:=ltx0.out k hk;have:=HFx1.out k hk';have:=ltx1.out k hk';have:=Hz6.out;have:=Hz10.out;have:=Hz14.out;have:=Hz29.out;have:=GGw0.out;have:=Hz32.out;have:=Hz36.out;have:=Hz40.out;have:=Hz44.out;have:=Hz48.out;have:=Hz60.out;have:=Hz71.out;have:=Hz82.out;have:=Hz85.out;omega)
 replace ox2:=(rBox_ok NB).ownC ox2 hc88 (fun k hk hk'=>by have:=HFx2.out k hk;have:=ltx2.out k hk;have:=HFx1.out k hk';have:=ltx1.out k hk';have:=Hz6.out;have:=Hz10.out;have:=Hz14.out;have:=Hz29.out;have:=GGw0.out;have:=Hz32.out;have:=Hz36.out;have:=Hz40.out;have:=Hz44.out;have:=Hz48.out;have:=Hz60.out;have:=Hz71.out;have:=Hz82.out;have:=Hz85.out;omega)
 replace og0:=(rSpace_ok NB).ownC og0 hc88 (fun k hk hk'=>by have:=HFg0.out k hk;have:=ltg0.out k hk;have:=HFx1.out k hk';have:=ltx1.out k hk';have:=Hz6.out;have:=Hz10.out;have:=Hz14.out;have:=Hz29.out;have:=GGw0.out;have:=Hz32.out;have:=Hz36.out;have:=Hz40.out;have:=Hz44.out;have:=Hz48.out;have:=Hz60.out;have:=Hz71.out;have:=Hz82.out;have:=Hz85.out;omega)
 clear ox1;have ox1:=omw87;clear omw87
 have Hz89:=Lib.hid hc88.size
 try simp only [World.size_alloc]at Hz89
 clear hc88 cbxx1_0 cbxx1_1
 obtain⟨kk90,hkk90⟩:∃ q:Int,q=kk86+((cnt_Query (xQ)):Nat):=⟨_,rfl⟩
 rw [<- hkk90]
 have pkk90:0<=kk90:=by omega
 have ukk90:kk90<=4398046511104:=by omega
 have Hkkk90:=Lib.hid hkk90;clear hkk90 hcbw87
 have cbxx2_0:=bxx2 0 _ rfl
 have cbxx2_1:=bxx2 1 _ rfl
 go_wp2_with (first|(refine wpList_load_mid rfl 26 _ rfl (w.heap.size) 0 rfl csM _ bxM.range Tryz.underlying26 rfl (by rw [lenM];exact sizeLawModel) ?_)|(refine wpList_load_mid rfl 46 _ rfl (w30.heap.size) 0 rfl csx0 _ bxx0.range Tryz.underlying46 rfl (by rw [lenx0];exact sizeModel) ?_))
 have hcbw91:(cnt_Box (xB))<=1099511627776:=(by have e:=cntb_Box xB;omega)
 refine(markBox_m _ (xB) kk90 _ fx2 ox2 NDx2.out (by omega) (by omega)).mono ?_
 rintro e w91 ⟨rfl,omw91,hc92⟩
 replace hB:=hB.trans (hc92.toBelow hB.size (fun k hk=>by have:=HFx2.out k hk;have:=Hz6.out;have:=Hz10.out;have:=Hz14.out;have:=Hz29.out;have:=GGw0.out;have:=Hz32.out;have:=Hz36.out;have:=Hz40.out;have:=Hz44.out;have:=Hz48.out;have:=Hz60.out;have:=Hz71.out;have:=Hz82.out;have:=Hz85.out;have:=Hz89.out;omega))
 replace bxM:=bxM.chg hc92 (fun hk=>by have:=HFx2.out _ hk;have:=ltx2.out _ hk;have:=Hz6.out;have:=Hz10.out;have:=Hz14.out;have:=Hz29.out;have:=GGw0.out;have:=Hz32.out;have:=Hz36.out;have:=Hz40.out;have:=Hz44.out;have:=Hz48.out;have:=Hz60.out;have:=Hz71.out;have:=Hz82.out;have:=Hz85.out;have:=Hz89.out;omega)
 replace bxQ:=bxQ.chg hc92 (fun hk=>by have:=HFx2.out _ hk;have:=ltx2.out _ hk;have:=Hz6.out;have:=Hz10.out;have:=Hz14.out;have:=Hz29.out;have:=GGw0.out;have:=Hz32.out;have:=Hz36.out;have:=Hz40.out;have:=Hz44.out;have:=Hz48.out;have:=Hz60.out;have:=Hz71.out;have:=Hz82.out;have:=Hz85.out;have:=Hz89.out;omega)
 replace bxB:=bxB.chg hc92 (fun hk=>by have:=HFx2.out _ hk;have:=ltx2.out _ hk;have:=Hz6.out;have:=Hz10.out;have:=Hz14.out;have:=Hz29.out;have:=GGw0.out;have:=Hz32.out;have:=Hz36.out;have:=Hz40.out;have:=Hz44.out;have:=Hz48.out;have:=Hz60.out;have:=Hz71.out;have:=Hz82.out;have:=Hz85.out;have:=Hz89.out;omega)
 replace bxw0:=bxw0.chg hc92 (fun hk=>by have:=HFx2.out _ hk;have:=ltx2.out _ hk;have:=Hz6.out;have:=Hz10.out;have:=Hz14.out;have:=Hz29.out;have:=GGw0.out;have:=Hz32.out;have:=Hz36.out;have:=Hz40.out;have:=Hz44.out;have:=Hz48.out;have:=Hz60.out;have:=Hz71.out;have:=Hz82.out;have:=Hz85.out;have:=Hz89.out;omega)
 replace bxx0:=bxx0.chg hc92 (fun hk=>by have:=HFx2.out _ hk;have:=ltx2.out _ hk;have:=Hz6.out;have:=Hz10.out;have:=Hz14.out;have:=Hz29.out;have:=GGw0.out;have:=Hz32.out;have:=Hz36.out;have:=Hz40.out;have:=Hz44.out;have:=Hz48.out;have:=Hz60.out;have:=Hz71.out;have:=Hz82.out;have:=Hz85.out;have:=Hz89.out;omega)
 replace bxx1:=bxx1.chg hc92 (fun hk=>by have:=HFx2.out _ hk;have:=ltx2.out _ hk;have:=Hz6.out;have:=Hz10.out;have:=Hz14.out;have:=Hz29.out;have:=GGw0.out;have:=Hz32.out;have:=Hz36.out;have:=Hz40.out;have:=Hz44.out;have:=Hz48.out;have:=Hz60.out;have:=Hz71.out;have:=Hz82.out;have:=Hz85.out;have:=Hz89.out;omega)
 replace bxx2:=bxx2.chg hc92 (fun hk=>by have:=HFx2.out _ hk;have:=ltx2.out _ hk;have:=Hz6.out;have:=Hz10.out;have:=Hz14.out;have:=Hz29.out;have:=GGw0.out;have:=Hz32.out;have:=Hz36.out;have:=Hz40.out;have:=Hz44.out;have:=Hz48.out;have:=Hz60.out;have:=Hz71.out;have:=Hz82.out;have:=Hz85.out;have:=Hz89.out;omega)
 replace bxg0:=bxg0.chg hc92 (fun hk=>by have:=HFx2.out _ hk;have:=ltx2.out _ hk;have:=Hz6.out;have:=Hz10.out;have:=Hz14.out;have:=Hz29.out;have:=GGw0.out;have:=Hz32.out;have:=Hz36.out;have:=Hz40.out;have:=Hz44.out;have:=Hz48.out;have:=Hz60.out;have:=Hz71.out;have:=Hz82.out;have:=Hz85.out;have:=Hz89.out;omega)
 replace ow0:=(rSpace_ok NB).ownC ow0 hc92 (fun k hk hk'=>by have:=HFw0.out k hk;have:=ltw0.out k hk;have:=HFx2.out k hk';have:=ltx2.out k hk';have:=Hz6.out;have:=Hz10.out;have:=Hz14.out;have:=Hz29.out;have:=GGw0.out;have:=Hz32.out;have:=Hz36.out;have:=Hz40.out;have:=Hz44.out;have:=Hz48.out;have:=Hz60.out;have:=Hz71.out;have:=Hz82.out;have:=Hz85.out;have:=Hz89.out;omega)
 replace ox0:=(rModel_ok NB).ownC ox0 hc92 (fun k hk hk'=>by have:=HFx0.out k hk;have:=ltx0.out k hk;have:=HFx2.out k hk';have:=ltx2.out k hk';have:=Hz6.out;have:=Hz10.out;have:=Hz14.out;have:=Hz29.out;have:=GGw0.out;have:=Hz32.out;have:=Hz36.out;have:=Hz40.out;have:=Hz44.out;have:=Hz48.out;have:=Hz60.out;have:=Hz71.out;have:=Hz82.out;have:=Hz85.out;have:=Hz89.out;omega)
 replace ox1:=(rQuery_ok NB).ownC ox1 hc92 (fun k hk hk'=>by have:=HFx1.out k hk;have:=ltx1.out k hk;have:=HFx2.out k hk';have:=ltx2.out k hk';have:=Hz6.out;have:=Hz10.out;have:=Hz14.out;have:=Hz29.out;have:=GGw0.out;have:=Hz32.out;have:=Hz36.out;have:=Hz40.out;have:=Hz44.out;have:=Hz48.out;have:=Hz60.out;have:=Hz71.out;have:=Hz82.out;have:=Hz85.out;have:=Hz89.out;omega)
 replace og0:=(rSpace_ok NB).ownC og0 hc92 (fun k hk hk'=>by have:=HFg0.out k hk;have:=ltg0.out k hk;have:=HFx2.out k hk';have:=ltx2.out k hk';have:=Hz6.out;have:=Hz10.out;have:=Hz14.out;have:=Hz29.out;have:=GGw0.out;have:=Hz32.out;have:=Hz36.out;have:=Hz40.out;have:=Hz44.out;have:=Hz48.out;have:=Hz60.out;have:=Hz71.out;have:=Hz82.out;have:=Hz85.out;have:=Hz89.out;omega)
 clear ox2;have ox2:=omw91;clear omw91
 have Hz93:=Lib.hid hc92.size
 try simp only [World.size_alloc]at Hz93
 clear hc92 cbxx2_0 cbxx2_1
 obtain⟨kk94,hkk94⟩:∃ q:Int,q=kk90+((cnt_Box (xB)):Nat):=⟨_,rfl⟩
 rw [<- hkk94]
 have pkk94:0<=kk94:=by omega
 have ukk94:kk94<=6597069766656:=by omega
 have Hkkk94:=Lib.hid hkk94;clear hkk94 hcbw91
 have cbxw0_0:=bxw0 0 _ rfl
 have cbxw0_1:=bxw0 1 _ rfl
 have cbxw0_2:=bxw0 2 _ rfl
 have cbxw0_3:=bxw0 3 _ rfl
 have cbxw0_4:=bxw0 4 _ rfl
 have cbxg0_0:=bxg0 0 _ rfl
 have cbxg0_1:=bxg0 1 _ rfl
 have cbxg0_2:=bxg0 2 _ rfl
 have cbxg0_3:=bxg0 3 _ rfl
 have cbxg0_4:=bxg0 4 _ rfl
 go_wp2_with (first|(refine wpList_load_mid rfl 26 _ rfl (w.heap.size) 0 rfl csM _ bxM.range Tryz.underlying26 rfl (by rw [lenM];exact sizeLawModel) ?_)|(refine wpList_load_mid rfl 46 _ rfl (w30.heap.size) 0 rfl csx0 _ bxx0.range Tryz.underlying46 rfl (by rw [lenx0];exact sizeModel) ?_))
 refine(eqSpace_c _ _ ((buildE xM xQ xB).1) ((buildE xM xQ xB).1) _ ((rSpace_ok NB).toRep og0) ((rSpace_ok NB).toRep ow0)).mono ?_
 rintro e w95 ⟨rfl,hb96⟩
 have z97:=hb96.size
 try simp only [setCells_kit,setCells_size,World.size_alloc]at z97
 have Hz97:=Lib.hid z97;clear z97
 replace ow0:=(rSpace_ok NB).ownB ow0 hb96
 replace ox0:=(rModel_ok NB).ownB ox0 hb96
 replace ox1:=(rQuery_ok NB).ownB ox1 hb96
 replace ox2:=(rBox_ok NB).ownB ox2 hb96
 replace og0:=(rSpace_ok NB).ownB og0 hb96
 replace hB:=hB.trans (hb96.mono hB.size)
 replace bxM:=bxM.below hb96
 replace bxQ:=bxQ.below hb96
 replace bxB:=bxB.below hb96
 replace bxw0:=bxw0.below hb96
 replace bxx0:=bxx0.below hb96
 replace bxx1:=bxx1.below hb96
 replace bxx2:=bxx2.below hb96
 replace bxg0:=bxg0.below hb96
 clear hb96 cbxw0_0 cbxw0_1 cbxw0_2 cbxw0_3 cbxw0_4 cbxg0_0 cbxg0_1 cbxg0_2 cbxg0_3 cbxg0_4
 have hdr98:decide (((buildE xM xQ xB).1)=((buildE xM xQ xB).1))=true:=by simp
 have cbxg0_0:=bxg0 0 _ rfl
 have cbxg0_1:=bxg0 1 _ rfl
 have cbxg0_2:=bxg0 2 _ rfl
 have cbxg0_3:=bxg0 3 _ rfl
 have cbxg0_4:=bxg0 4 _ rfl
 go_wp2_with (first|(refine wpList_load_mid rfl 26 _ rfl (w.heap.size) 0 rfl csM _ bxM.range Tryz.underlying26 rfl (by rw [lenM];exact sizeLawModel) ?_)|(refine wpList_load_mid rfl 46 _ rfl (w30.heap.size) 0 rfl csx0 _ bxx0.range Tryz.underlying46 rfl (by rw [lenx0];exact sizeModel) ?_))
 have hcbw99:(cnt_Space ((buildE xM xQ xB).1))<=1099511627776:=hcbr.out
 refine(markSpace_m _ ((buildE xM xQ xB).1) 1 _ fg0 og0 NDg0.out (by omega) (by omega)).mono ?_
 rintro e w99 ⟨rfl,omw99,hc100⟩
 replace hB:=hB.trans (hc100.toBelow hB.size (fun k hk=>by have:=HFg0.out k hk;have:=Hz6.out;have:=Hz10.out;have:=Hz14.out;have:=Hz29.out;have:=GGw0.out;have:=Hz32.out;have:=Hz36.out;have:=Hz40.out;have:=Hz44.out;have:=Hz48.out;have:=Hz60.out;have:=Hz71.out;have:=Hz82.out;have:=Hz85.out;have:=Hz89.out;have:=Hz93.out;have:=Hz97.out;omega))
 replace bxM:=bxM.chg hc100 (fun hk=>by have:=HFg0.out _ hk;have:=ltg0.out _ hk;have:=Hz6.out;have:=Hz10.out;have:=Hz14.out;have:=Hz29.out;have:=GGw0.out;have:=Hz32.out;have:=Hz36.out;have:=Hz40.out;have:=Hz44.out;have:=Hz48.out;have:=Hz60.out;have:=Hz71.out;have:=Hz82.out;have:=Hz85.out;have:=Hz89.out;have:=Hz93.out;have:=Hz97.out;omega)
 replace bxQ:=bxQ.chg hc100 (fun hk=>by have:=HFg0.out _ hk;have:=ltg0.out _ hk;have:=Hz6.out;have:=Hz10.out;have:=Hz14.out;have:=Hz29.out;have:=GGw0.out;have:=Hz32.out;have:=Hz36.out;have:=Hz40.out;have:=Hz44.out;have:=Hz48.out;have:=Hz60.out;have:=Hz71.out;have:=Hz82.out;have:=Hz85.out;have:=Hz89.out;have:=Hz93.out;have:=Hz97.out;omega)
 replace bxB:=bxB.chg hc100 (fun hk=>by have:=HFg0.out _ hk;have:=ltg0.out _ hk;have:=Hz6.out;have:=Hz10.out;have:=Hz14.out;have:=Hz29.out;have:=GGw0.out;have:=Hz32.out;have:=Hz36.out;have:=Hz40.out;have:=Hz44.out;have:=Hz48.out;have:=Hz60.out;have:=Hz71.out;have:=Hz82.out;have:=Hz85.out;have:=Hz89.out;have:=Hz93.out;have:=Hz97.out;omega)
 replace bxw0:=bxw0.chg hc100 (fun hk=>by have:=HFg0.out _ hk;have:=ltg0.out _ hk;have:=Hz6.out;have:=Hz10.out;have:=Hz14.out;have:=Hz29.out;have:=GGw0.out;have:=Hz32.out;have:=Hz36.out;have:=Hz40.out;have:=Hz44.out;have:=Hz48.out;have:=Hz60.out;have:=Hz71.out;have:=Hz82.out;have:=Hz85.out;have:=Hz89.out;have:=Hz93.out;have:=Hz97.out;omega)
 replace bxx0:=bxx0.chg hc100 (fun hk=>by have:=HFg0.out _ hk;have:=ltg0.out _ hk;have:=Hz6.out;have:=Hz10.out;have:=Hz14.out;have:=Hz29.out;have:=GGw0.out;have:=Hz32.out;have:=Hz36.out;have:=Hz40.out;have:=Hz44.out;have:=Hz48.out;have:=Hz60.out;have:=Hz71.out;have:=Hz82.out;have:=Hz85.out;have:=Hz89.out;have:=Hz93.out;have:=Hz97.out;omega)
 replace bxx1:=bxx1.chg hc100 (fun hk=>by have:=HFg0.out _ hk;have:=ltg0.out _ hk;have:=Hz6.out;have:=Hz10.out;have:=Hz14.out;have:=Hz29.out;have:=GGw0.out;have:=Hz32.out;have:=Hz36.out;have:=Hz40.out;have:=Hz44.out;have:=Hz48.out;have:=Hz60.out;have:=Hz71.out;have:=Hz82.out;have:=Hz85.out;have:=Hz89.out;have:=Hz93.out;have:=Hz97.out;omega)
 replace bxx2:=bxx2.chg hc100 (fun hk=>by have:=HFg0.out _ hk;have:=ltg0.out _ hk;have:=Hz6.out;have:=Hz10.out;have:=Hz14.out;have:=Hz29.out;have:=GGw0.out;have:=Hz32.out;have:=Hz36.out;have:=Hz40.out;have:=Hz44.out;have:=Hz48.out;have:=Hz60.out;have:=Hz71.out;have:=Hz82.out;have:=Hz85.out;have:=Hz89.out;have:=Hz93.out;have:=Hz97.out;omega)
 replace bxg0:=bxg0.chg hc100 (fun hk=>by have:=HFg0.out _ hk;have:=ltg0.out _ hk;have:=Hz6.out;have:=Hz10.out;have:=Hz14.out;have:=Hz29.out;have:=GGw0.out;have:=Hz32.out;have:=Hz36.out;have:=Hz40.out;have:=Hz44.out;have:=Hz48.out;have:=Hz60.out;have:=Hz71.out;have:=Hz82.out;have:=Hz85.out;have:=Hz89.out;have:=Hz93.out;have:=Hz97.out;omega)
 replace ow0:=(rSpace_ok NB).ownC ow0 hc100 (fun k hk hk'=>by have:=HFw0.out k hk;have:=ltw0.out k hk;have:=HFg0.out k hk';have:=ltg0.out k hk';have:=Hz6.out;have:=Hz10.out;have:=Hz14.out;have:=Hz29.out;have:=GGw0.out;have:=Hz32.out;have:=Hz36.out;have:=Hz40.out;have:=Hz44.out;have:=Hz48.out;have:=Hz60.out;have:=Hz71.out;have:=Hz82.out;have:=Hz85.out;have:=Hz89.out;have:=Hz93.out;have:=Hz97.out;omega)
 replace ox0:=(rModel_ok NB).ownC ox0 hc100 (fun k hk hk'=>by have:=HFx0.out k hk;have:=ltx0.out k hk;have:=HFg0.out k hk';have:=ltg0.out k hk';have:=Hz6.out;have:=Hz10.out;have:=Hz14.out;have:=Hz29.out;have:=GGw0.out;have:=Hz32.out;have:=Hz36.out;have:=Hz40.out;have:=Hz44.out;have:=Hz48.out;have:=Hz60.out;have:=Hz71.out;have:=Hz82.out;have:=Hz85.out;have:=Hz89.out;have:=Hz93.out;have:=Hz97.out;omega)
 replace ox1:=(rQuery_ok NB).ownC ox1 hc100 (fun k hk hk'=>by have:=HFx1.out k hk;have:=ltx1.out k hk;have:=HFg0.out k hk';have:=ltg0.out k hk';have:=Hz6.out;have:=Hz10.out;have:=Hz14.out;have:=Hz29.out;have:=GGw0.out;have:=Hz32.out;have:=Hz36.out;have:=Hz40.out;have:=Hz44.out;have:=Hz48.out;have:=Hz60.out;have:=Hz71.out;have:=Hz82.out;have:=Hz85.out;have:=Hz89.out;have:=Hz93.out;have:=Hz97.out;omega)
 replace ox2:=(rBox_ok NB).ownC ox2 hc100 (fun k hk hk'=>by have:=HFx2.out k hk;have:=ltx2.out k hk;have:=HFg0.out k hk';have:=ltg0.out k hk';have:=Hz6.out;have:=Hz10.out;have:=Hz14.out;have:=Hz29.out;have:=GGw0.out;have:=Hz32.out;have:=Hz36.out;have:=Hz40.out;have:=Hz44.out;have:=Hz48.out;have:=Hz60.out;have:=Hz71.out;have:=Hz82.out;have:=Hz85.out;have:=Hz89.out;have:=Hz93.out;have:=Hz97.out;omega)
 clear og0;have og0:=omw99;clear omw99
 have Hz101:=Lib.hid hc100.size
 try simp only [World.size_alloc]at Hz101
 clear hc100 cbxg0_0 cbxg0_1 cbxg0_2 cbxg0_3 cbxg0_4
 obtain⟨kk102,hkk102⟩:∃ q:Int,q=1+((cnt_Space ((buildE xM xQ xB).1)):Nat):=⟨_,rfl⟩
 rw [<- hkk102]
 have pkk102:0<=kk102:=by omega
 have ukk102:kk102<=2199023255552:=by omega
 have Hkkk102:=Lib.hid hkk102;clear hkk102 hcbw99
 have cbxg0_0:=bxg0 0 _ rfl
 have cbxg0_1:=bxg0 1 _ rfl
 have cbxg0_2:=bxg0 2 _ rfl
 have cbxg0_3:=bxg0 3 _ rfl
 have cbxg0_4:=bxg0 4 _ rfl
 go_wp2_with (first|(refine wpList_load_mid rfl 26 _ rfl (w.heap.size) 0 rfl csM _ bxM.range Tryz.underlying26 rfl (by rw [lenM];exact sizeLawModel) ?_)|(refine wpList_load_mid rfl 46 _ rfl (w30.heap.size) 0 rfl csx0 _ bxx0.range Tryz.underlying46 rfl (by rw [lenx0];exact sizeModel) ?_))
 have hcbw103:(cnt_Space ((buildE xM xQ xB).1))<=1099511627776:=hcbr.out
 refine(heldSpace_m _ ((buildE xM xQ xB).1) 1 _ ((rSpace_ok NB).toRep og0) (by omega) (by omega)).mono ?_
 rintro e w103 ⟨rfl,hb104⟩
 have z105:=hb104.size
 try simp only [setCells_kit,setCells_size,World.size_alloc]at z105
 have Hz105:=Lib.hid z105;clear z105
 replace ow0:=(rSpace_ok NB).ownB ow0 hb104
 replace ox0:=(rModel_ok NB).ownB ox0 hb104
 replace ox1:=(rQuery_ok NB).ownB ox1 hb104
 replace ox2:=(rBox_ok NB).ownB ox2 hb104
 replace og0:=(rSpace_ok NB).ownB og0 hb104
 replace hB:=hB.trans (hb104.mono hB.size)
 replace bxM:=bxM.below hb104
 replace bxQ:=bxQ.below hb104
 replace bxB:=bxB.below hb104
 replace bxw0:=bxw0.below hb104
 replace bxx0:=bxx0.below hb104
 replace bxx1:=bxx1.below hb104
 replace bxx2:=bxx2.below hb104
 replace bxg0:=bxg0.below hb104
 clear hb104 hcbw103 cbxg0_0 cbxg0_1 cbxg0_2 cbxg0_3 cbxg0_4
 rw [<- Hkkk102.out]
 go_upto_region 38 with fail
 have SS106:∀ w',Below w103.heap.size w103 w'->(w'.rangeAt (w.heap.size) 0 csM/\w'.cell? ⟨w.heap.size+1,0,none⟩=some (.int .i64 xQ.fVariableCount)/\w'.cell? ⟨w.heap.size+1,1,none⟩=some (.slice AQAtoms nQAtoms cQAtoms)/\w'.cell? ⟨w.heap.size+1+1,0,none⟩=some (.slice ABLow nBLow cBLow)/\w'.cell? ⟨w.heap.size+1+1,1,none⟩=some (.slice ABHigh nBHigh cBHigh)):=fun w' hb=>⟨(bxM.below hb).range,bxQ.below hb 0 _ rfl,bxQ.below hb 1 _ rfl,bxB.below hb 0 _ rfl,bxB.below hb 1 _ rfl⟩
 have HSS106:=Lib.hid SS106;clear SS106
 go_cut [18,19] (fun s18 s19 wx=>∃ (cs:List Value) (f:List Nat) (g:Nat),s18=.pointer (some ⟨g,0,none⟩)/\s19=.bool (buildE xM xQ xB).2/\Left (rSpace NB) 39 ((buildE xM xQ xB).1) w103 g f cs wx)
 case first =>
  have hd13:=(Below.refl w103.heap.size w103).drew
  refine hbg HSS106.out hd13 (fun hHeld=>?_)
  refine' wpAnyH_take (i:=0) (oi:=⟨some 116,_,_,_,_,_⟩) (v:=_) rfl (by kernel_rfl) (by kernel_rfl) (by kernel_rfl) (fun _ _ _ h=>h) (yieldsIf_load_mid (by rfl) _ _ rfl _ _ rfl _ _ (fun w h=>h.1) Tryz.underlying26 rfl (by rw [lenM];exact sizeLawModel)) hHeld ?_
  simp only [putS]
  refine tka 2 118 hHeld ?_;simp only [putS]
  refine tka 4 120 hHeld ?_;simp only [putS]
  refine rd2 1 (some 117) 10 (some 18) (fun K hK=>?_) fun K hK=>?_
  all_goals clear hHeld
  ·go_simp
   refine(toModel_c _ xM _ ((rModel_ok NB).keep sM (cells_below (Below.link hB hd13)))).mono ?_
   rintro e w108 ⟨csv107,fv107,rfl,ov107,frv107,hb109⟩
   have Rv107:=(rModel_ok NB).toRep ov107
   have hC0:Below w103.heap.size w103 w108:=Below.link hd13 hb109
   go_wp2_with fail
   refine hK.out _ _ (HSS106.out _ hC0) (fun hHeld=>?_)
   clear hK K
   try simp only [putS]
   refine rd2 3 (some 119) 10 (some 18) (fun K hK=>?_) fun K hK=>?_
   all_goals clear hHeld
   ·go_simp
    refine(toQuery_c _ xQ _ ((rQuery_ok NB).keep sQ (cells_below (Below.link hB hC0)))).mono ?_
    rintro e w111 ⟨csv110,fv110,rfl,ov110,frv110,hb112⟩
    have Rv110:=(rQuery_ok NB).toRep ov110
    have hC1:Below w103.heap.size w103 w111:=Below.link hC0 hb112
    replace Rv107:=(rModel_ok NB).keep Rv107 (cells_below hb112)
    go_wp2_with fail
    refine hK.out _ _ (HSS106.out _ hC1) (fun hHeld=>?_)
    clear hK K
    try simp only [putS]
    refine rd2 5 (some 121) 10 (some 18) (fun K hK=>?_) fun K hK=>?_
    all_goals clear hHeld
    ·go_simp
     refine(toBox_c _ xB _ ((rBox_ok NB).keep sB (cells_below (Below.link hB hC1)))).mono ?_
     rintro e w114 ⟨csv113,fv113,rfl,ov113,frv113,hb115⟩
     have Rv113:=(rBox_ok NB).toRep ov113
     have hC2:Below w103.heap.size w103 w114:=Below.link hC1 hb115
     replace Rv107:=(rModel_ok NB).keep Rv107 (cells_below hb115)
     replace Rv110:=(rQuery_ok NB).keep Rv110 (cells_below hb115)
     go_wp2_with fail
     refine hK.out _ _ (HSS106.out _ hC2) (fun hHeld=>?_)
     clear hK K
     try simp only [putS]
     refine rd2 6 (some 122) 10 (some 18) (fun K hK=>?_) fun K hK=>?_
     all_goals clear hHeld
     ·go_simp
      refine(iBuildSpace_c _ xM _ xQ _ xB _ Rv107 Rv110 Rv113).mono ?_
      rintro e w116 ⟨csh0,fh0,rfl,oh0,frh0,hb117⟩
      obtain⟨Ah0BoxLow,nh0BoxLow,ch0BoxLow,Ah0BoxHigh,nh0BoxHigh,ch0BoxHigh,Ah0Costs,nh0Costs,ch0Costs,Ah0Choices,nh0Choices,ch0Choices,Ah0Plans,nh0Plans,ch0Plans,rfl,_,_,_,_,_⟩:=rSpace_rep.1 ((rSpace_ok NB).toRep oh0)
      have hF:Below w103.heap.size w103 w116:=Below.link hC2 hb117
      go_wp2_with fail
      refine hK.out _ _ (HSS106.out _ hF) (fun hHeld=>?_)
      clear hK K
      try simp only [putS]
      refine tka 7 115 hHeld ?_;simp only [putS]
      refine tka 8 123 hHeld ?_;simp only [putS]
      refine tka 9 124 hHeld ?_;simp only [putS]
      refine rd 10 (some 18) fun K hK=>?_
      clear hHeld
      go_simp
      refine hK.out _ _ (HSS106.out _ (Below.alc hF (.cells #[.slice none 0 0,.slice none 0 0,.slice none 0 0,.slice none 0 0,.slice none 0 0] 39))) (fun hHeld=>?_)
      clear hK K
      try simp only [putS]
      refine rd 11 none fun K hK=>?_
      clear hHeld
      go_simp
      refine hK.out _ _ (HSS106.out _ (Below.alc hF (.cells #[.slice Ah0BoxLow nh0BoxLow ch0BoxLow,.slice Ah0BoxHigh nh0BoxHigh ch0BoxHigh,.slice Ah0Costs nh0Costs ch0Costs,.slice Ah0Choices nh0Choices ch0Choices,.slice Ah0Plans nh0Plans ch0Plans] 39))) (fun hHeld=>?_)
      clear hK K
      try simp only [putS]
      refine tka 12 19 hHeld ?_;simp only [putS]
      refine wpAnyH_done (by kernel_rfl) ?_ _
      clear hHeld
      (go_wp2_with fail)
      go_meet
      refine⟨[.slice Ah0BoxLow nh0BoxLow ch0BoxLow,.slice Ah0BoxHigh nh0BoxHigh ch0BoxHigh,.slice Ah0Costs nh0Costs ch0Costs,.slice Ah0Choices nh0Choices ch0Choices,.slice Ah0Plans nh0Plans ch0Plans],fh0,_,rfl,rfl,?_⟩
      exact Left.last (rSpace_ok NB) oh0 frh0 hC2 hb117
     ·have hA:=(Below.refl w114.heap.size w114).alloc (Nat.le_refl _) (.cells #[.slice none 0 0,.slice none 0 0,.slice none 0 0,.slice none 0 0,.slice none 0 0] 39)
      have bkX:Bk (w114.alloc (.cells #[.slice none 0 0,.slice none 0 0,.slice none 0 0,.slice none 0 0,.slice none 0 0] 39)) w114.heap.size 39 [.slice none 0 0,.slice none 0 0,.slice none 0 0,.slice none 0 0,.slice none 0 0]:=Bk.new w114 _ _
      have ltX:w114.heap.size<(w114.alloc (.cells #[.slice none 0 0,.slice none 0 0,.slice none 0 0,.slice none 0 0,.slice none 0 0] 39)).heap.size:=Nat.lt_of_lt_of_eq (Nat.lt_succ_self _) (World.size_alloc ..).symm
      have hgX:w103.heap.size<=w114.heap.size:=hC2.size
      replace Rv107:=(rModel_ok NB).keep Rv107 (cells_below hA)
      replace Rv110:=(rQuery_ok NB).keep Rv110 (cells_below hA)
      replace Rv113:=(rBox_ok NB).keep Rv113 (cells_below hA)
      have hZ:=Below.link hC2 hA
      go_simp
      refine hK.out _ _ (HSS106.out _ hZ) (fun hHeld=>?_)
      clear hK K
      try simp only [putS]
      refine rd 6 (some 122) fun K hK=>?_
      clear hHeld
      go_simp
      refine(iBuildSpace_c _ xM _ xQ _ xB _ Rv107 Rv110 Rv113).mono ?_
      rintro e w116 ⟨csh0,fh0,rfl,oh0,frh0,hb117⟩
      obtain⟨Ah0BoxLow,nh0BoxLow,ch0BoxLow,Ah0BoxHigh,nh0BoxHigh,ch0BoxHigh,Ah0Costs,nh0Costs,ch0Costs,Ah0Choices,nh0Choices,ch0Choices,Ah0Plans,nh0Plans,ch0Plans,rfl,_,_,_,_,_⟩:=rSpace_rep.1 ((rSpace_ok NB).toRep oh0)
      have hF:Below w103.heap.size w103 w116:=Below.link hZ hb117
      replace bkX:=Bk.below bkX hb117
      have jf:=bkX.frozen
      have jc0:=bkX.bx 0 _ rfl
      have jc1:=bkX.bx 1 _ rfl
      have jc2:=bkX.bx 2 _ rfl
      have jc3:=bkX.bx 3 _ rfl
      have jc4:=bkX.bx 4 _ rfl
      go_wp2_with fail
      refine hK.out _ _ (HSS106.out _ hF) (fun hHeld=>?_)
      clear hK K
      try simp only [putS]
      refine tka 7 115 hHeld ?_;simp only [putS]
      refine tka 8 123 hHeld ?_;simp only [putS]
      refine tka 9 124 hHeld ?_;simp only [putS]
      refine rd 11 none fun K hK=>?_
      clear hHeld
      go_simp
      refine hK.out _ _ (HSS106.out _ (Below.setCells hF hgX 0 [.slice Ah0BoxLow nh0BoxLow ch0BoxLow,.slice Ah0BoxHigh nh0BoxHigh ch0BoxHigh,.slice Ah0Costs nh0Costs ch0Costs,.slice Ah0Choices nh0Choices ch0Choices,.slice Ah0Plans nh0Plans ch0Plans])) (fun hHeld=>?_)
      clear hK K
      try simp only [putS]
      refine tka 12 19 hHeld ?_;simp only [putS]
      refine wpAnyH_done (by kernel_rfl) ?_ _
      clear hHeld
      (go_wp2_with fail)
      go_meet
      refine⟨[.slice Ah0BoxLow nh0BoxLow ch0BoxLow,.slice Ah0BoxHigh nh0BoxHigh ch0BoxHigh,.slice Ah0Costs nh0Costs ch0Costs,.slice Ah0Choices nh0Choices ch0Choices,.slice Ah0Plans nh0Plans ch0Plans],fh0,_,rfl,rfl,?_⟩
      exact Left.first (rSpace_ok NB) oh0 frh0 hZ hb117 bkX ltX hgX rfl
    ·have hA:=(Below.refl w111.heap.size w111).alloc (Nat.le_refl _) (.cells #[.slice none 0 0,.slice none 0 0,.slice none 0 0,.slice none 0 0,.slice none 0 0] 39)
     have bkX:Bk (w111.alloc (.cells #[.slice none 0 0,.slice none 0 0,.slice none 0 0,.slice none 0 0,.slice none 0 0] 39)) w111.heap.size 39 [.slice none 0 0,.slice none 0 0,.slice none 0 0,.slice none 0 0,.slice none 0 0]:=Bk.new w111 _ _
     have ltX:w111.heap.size<(w111.alloc (.cells #[.slice none 0 0,.slice none 0 0,.slice none 0 0,.slice none 0 0,.slice none 0 0] 39)).heap.size:=Nat.lt_of_lt_of_eq (Nat.lt_succ_self _) (World.size_alloc ..).symm
     have hgX:w103.heap.size<=w111.heap.size:=hC1.size
     replace Rv107:=(rModel_ok NB).keep Rv107 (cells_below hA)
     replace Rv110:=(rQuery_ok NB).keep Rv110 (cells_below hA)
     have hZ:=Below.link hC1 hA
     go_simp
     refine hK.out _ _ (HSS106.out _ hZ) (fun hHeld=>?_)
     clear hK K
     try simp only [putS]
     refine rd 5 (some 121) fun K hK=>?_
     clear hHeld
     go_simp
     refine(toBox_c _ xB _ ((rBox_ok NB).keep sB (cells_below (Below.link hB hZ)))).mono ?_
     rintro e w114 ⟨csv113,fv113,rfl,ov113,frv113,hb115⟩
     have Rv113:=(rBox_ok NB).toRep ov113
     have hC2:Below w103.heap.size w103 w114:=Below.link hZ hb115
     replace Rv107:=(rModel_ok NB).keep Rv107 (cells_below hb115)
     replace Rv110:=(rQuery_ok NB).keep Rv110 (cells_below hb115)
     replace bkX:=Bk.below bkX hb115
     replace ltX:=Nat.lt_of_lt_of_le ltX hb115.size
     go_wp2_with fail
     refine hK.out _ _ (HSS106.out _ hC2) (fun hHeld=>?_)
     clear hK K
     try simp only [putS]
     refine rd 6 (some 122) fun K hK=>?_
     clear hHeld
     go_simp
     refine(iBuildSpace_c _ xM _ xQ _ xB _ Rv107 Rv110 Rv113).mono ?_
     rintro e w116 ⟨csh0,fh0,rfl,oh0,frh0,hb117⟩
     obtain⟨Ah0BoxLow,nh0BoxLow,ch0BoxLow,Ah0BoxHigh,nh0BoxHigh,ch0BoxHigh,Ah0Costs,nh0Costs,ch0Costs,Ah0Choices,nh0Choices,ch0Choices,Ah0Plans,nh0Plans,ch0Plans,rfl,_,_,_,_,_⟩:=rSpace_rep.1 ((rSpace_ok NB).toRep oh0)
     have hF:Below w103.heap.size w103 w116:=Below.link hC2 hb117
     replace bkX:=Bk.below bkX hb117
     have jf:=bkX.frozen
     have jc0:=bkX.bx 0 _ rfl
     have jc1:=bkX.bx 1 _ rfl
     have jc2:=bkX.bx 2 _ rfl
     have jc3:=bkX.bx 3 _ rfl
     have jc4:=bkX.bx 4 _ rfl
     go_wp2_with fail
     refine hK.out _ _ (HSS106.out _ hF) (fun hHeld=>?_)
     clear hK K
     try simp only [putS]
     refine tka 7 115 hHeld ?_;simp only [putS]
     refine tka 8 123 hHeld ?_;simp only [putS]
     refine tka 9 124 hHeld ?_;simp only [putS]
     refine rd 11 none fun K hK=>?_
     clear hHeld
     go_simp
     refine hK.out _ _ (HSS106.out _ (Below.setCells hF hgX 0 [.slice Ah0BoxLow nh0BoxLow ch0BoxLow,.slice Ah0BoxHigh nh0BoxHigh ch0BoxHigh,.slice Ah0Costs nh0Costs ch0Costs,.slice Ah0Choices nh0Choices ch0Choices,.slice Ah0Plans nh0Plans ch0Plans])) (fun hHeld=>?_)
     clear hK K
     try simp only [putS]
     refine tka 12 19 hHeld ?_;simp only [putS]
     refine wpAnyH_done (by kernel_rfl) ?_ _
     clear hHeld
     (go_wp2_with fail)
     go_meet
     refine⟨[.slice Ah0BoxLow nh0BoxLow ch0BoxLow,.slice Ah0BoxHigh nh0BoxHigh ch0BoxHigh,.slice Ah0Costs nh0Costs ch0Costs,.slice Ah0Choices nh0Choices ch0Choices,.slice Ah0Plans nh0Plans ch0Plans],fh0,_,rfl,rfl,?_⟩
     exact Left.first (rSpace_ok NB) oh0 frh0 hC2 hb117 bkX ltX hgX rfl
   ·have hA:=(Below.refl w108.heap.size w108).alloc (Nat.le_refl _) (.cells #[.slice none 0 0,.slice none 0 0,.slice none 0 0,.slice none 0 0,.slice none 0 0] 39)
    have bkX:Bk (w108.alloc (.cells #[.slice none 0 0,.slice none 0 0,.slice none 0 0,.slice none 0 0,.slice none 0 0] 39)) w108.heap.size 39 [.slice none 0 0,.slice none 0 0,.slice none 0 0,.slice none 0 0,.slice none 0 0]:=Bk.new w108 _ _
    have ltX:w108.heap.size<(w108.alloc (.cells #[.slice none 0 0,.slice none 0 0,.slice none 0 0,.slice none 0 0,.slice none 0 0] 39)).heap.size:=Nat.lt_of_lt_of_eq (Nat.lt_succ_self _) (World.size_alloc ..).symm
    have hgX:w103.heap.size<=w108.heap.size:=hC0.size
    replace Rv107:=(rModel_ok NB).keep Rv107 (cells_below hA)
    have hZ:=Below.link hC0 hA
    go_simp
    refine hK.out _ _ (HSS106.out _ hZ) (fun hHeld=>?_)
    clear hK K
    try simp only [putS]
    refine rd 3 (some 119) fun K hK=>?_
    clear hHeld
    go_simp
    refine(toQuery_c _ xQ _ ((rQuery_ok NB).keep sQ (cells_below (Below.link hB hZ)))).mono ?_
    rintro e w111 ⟨csv110,fv110,rfl,ov110,frv110,hb112⟩
    have Rv110:=(rQuery_ok NB).toRep ov110
    have hC1:Below w103.heap.size w103 w111:=Below.link hZ hb112
    replace Rv107:=(rModel_ok NB).keep Rv107 (cells_below hb112)
    replace bkX:=Bk.below bkX hb112
    replace ltX:=Nat.lt_of_lt_of_le ltX hb112.size
    go_wp2_with fail
    refine hK.out _ _ (HSS106.out _ hC1) (fun hHeld=>?_)
    clear hK K
    try simp only [putS]
    refine rd 5 (some 121) fun K hK=>?_
    clear hHeld
    go_simp
    refine(toBox_c _ xB _ ((rBox_ok NB).keep sB (cells_below (Below.link hB hC1)))).mono ?_
    rintro e w114 ⟨csv113,fv113,rfl,ov113,frv113,hb115⟩
    have Rv113:=(rBox_ok NB).toRep ov113
    have hC2:Below w103.heap.size w103 w114:=Below.link hC1 hb115
    replace Rv107:=(rModel_ok NB).keep Rv107 (cells_below hb115)
    replace Rv110:=(rQuery_ok NB).keep Rv110 (cells_below hb115)
    replace bkX:=Bk.below bkX hb115
    replace ltX:=Nat.lt_of_lt_of_le ltX hb115.size
    go_wp2_with fail
    refine hK.out _ _ (HSS106.out _ hC2) (fun hHeld=>?_)
    clear hK K
    try simp only [putS]
    refine rd 6 (some 122) fun K hK=>?_
    clear hHeld
    go_simp
    refine(iBuildSpace_c _ xM _ xQ _ xB _ Rv107 Rv110 Rv113).mono ?_
    rintro e w116 ⟨csh0,fh0,rfl,oh0,frh0,hb117⟩
    obtain⟨Ah0BoxLow,nh0BoxLow,ch0BoxLow,Ah0BoxHigh,nh0BoxHigh,ch0BoxHigh,Ah0Costs,nh0Costs,ch0Costs,Ah0Choices,nh0Choices,ch0Choices,Ah0Plans,nh0Plans,ch0Plans,rfl,_,_,_,_,_⟩:=rSpace_rep.1 ((rSpace_ok NB).toRep oh0)
    have hF:Below w103.heap.size w103 w116:=Below.link hC2 hb117
    replace bkX:=Bk.below bkX hb117
    have jf:=bkX.frozen
    have jc0:=bkX.bx 0 _ rfl
    have jc1:=bkX.bx 1 _ rfl
    have jc2:=bkX.bx 2 _ rfl
    have jc3:=bkX.bx 3 _ rfl
    have jc4:=bkX.bx 4 _ rfl
    go_wp2_with fail
    refine hK.out _ _ (HSS106.out _ hF) (fun hHeld=>?_)
    clear hK K
    try simp only [putS]
    refine tka 7 115 hHeld ?_;simp only [putS]
    refine tka 8 123 hHeld ?_;simp only [putS]
    refine tka 9 124 hHeld ?_;simp only [putS]
    refine rd 11 none fun K hK=>?_
    clear hHeld
    go_simp
    refine hK.out _ _ (HSS106.out _ (Below.setCells hF hgX 0 [.slice Ah0BoxLow nh0BoxLow ch0BoxLow,.slice Ah0BoxHigh nh0BoxHigh ch0BoxHigh,.slice Ah0Costs nh0Costs ch0Costs,.slice Ah0Choices nh0Choices ch0Choices,.slice Ah0Plans nh0Plans ch0Plans])) (fun hHeld=>?_)
    clear hK K
    try simp only [putS]
    refine tka 12 19 hHeld ?_;simp only [putS]
    refine wpAnyH_done (by kernel_rfl) ?_ _
    clear hHeld
    (go_wp2_with fail)
    go_meet
    refine⟨[.slice Ah0BoxLow nh0BoxLow ch0BoxLow,.slice Ah0BoxHigh nh0BoxHigh ch0BoxHigh,.slice Ah0Costs nh0Costs ch0Costs,.slice Ah0Choices nh0Choices ch0Choices,.slice Ah0Plans nh0Plans ch0Plans],fh0,_,rfl,rfl,?_⟩
    exact Left.first (rSpace_ok NB) oh0 frh0 hC2 hb117 bkX ltX hgX rfl
  ·have hA:=(Below.refl w103.drew.heap.size w103.drew).alloc (Nat.le_refl _) (.cells #[.slice none 0 0,.slice none 0 0,.slice none 0 0,.slice none 0 0,.slice none 0 0] 39)
   have bkX:Bk (w103.drew.alloc (.cells #[.slice none 0 0,.slice none 0 0,.slice none 0 0,.slice none 0 0,.slice none 0 0] 39)) w103.heap.size 39 [.slice none 0 0,.slice none 0 0,.slice none 0 0,.slice none 0 0,.slice none 0 0]:=Bk.new w103.drew _ _
   have ltX:w103.heap.size<(w103.drew.alloc (.cells #[.slice none 0 0,.slice none 0 0,.slice none 0 0,.slice none 0 0,.slice none 0 0] 39)).heap.size:=Nat.lt_of_lt_of_eq (Nat.lt_succ_self _) (World.size_alloc ..).symm
   have hgX:w103.heap.size<=w103.heap.size:=hd13.size
   have hZ:=Below.link hd13 hA
   go_simp
   refine hK.out _ _ (HSS106.out _ hZ) (fun hHeld=>?_)
   clear hK K
   try simp only [putS]
   refine rd 1 (some 117) fun K hK=>?_
   clear hHeld
   go_simp
   refine(toModel_c _ xM _ ((rModel_ok NB).keep sM (cells_below (Below.link hB hZ)))).mono ?_
   rintro e w108 ⟨csv107,fv107,rfl,ov107,frv107,hb109⟩
   have Rv107:=(rModel_ok NB).toRep ov107
   have hC0:Below w103.heap.size w103 w108:=Below.link hZ hb109
   replace bkX:=Bk.below bkX hb109
   replace ltX:=Nat.lt_of_lt_of_le ltX hb109.size
   go_wp2_with fail
   refine hK.out _ _ (HSS106.out _ hC0) (fun hHeld=>?_)
   clear hK K
   try simp only [putS]
   refine rd 3 (some 119) fun K hK=>?_
   clear hHeld
   go_simp
   refine(toQuery_c _ xQ _ ((rQuery_ok NB).keep sQ (cells_below (Below.link hB hC0)))).mono ?_
   rintro e w111 ⟨csv110,fv110,rfl,ov110,frv110,hb112⟩
   have Rv110:=(rQuery_ok NB).toRep ov110
   have hC1:Below w103.heap.size w103 w111:=Below.link hC0 hb112
   replace Rv107:=(rModel_ok NB).keep Rv107 (cells_below hb112)
   replace bkX:=Bk.below bkX hb112
   replace ltX:=Nat.lt_of_lt_of_le ltX hb112.size
   go_wp2_with fail
   refine hK.out _ _ (HSS106.out _ hC1) (fun hHeld=>?_)
   clear hK K
   try simp only [putS]
   refine rd 5 (some 121) fun K hK=>?_
   clear hHeld
   go_simp
   refine(toBox_c _ xB _ ((rBox_ok NB).keep sB (cells_below (Below.link hB hC1)))).mono ?_
   rintro e w114 ⟨csv113,fv113,rfl,ov113,frv113,hb115⟩
   have Rv113:=(rBox_ok NB).toRep ov113
   have hC2:Below w103.heap.size w103 w114:=Below.link hC1 hb115
   replace Rv107:=(rModel_ok NB).keep Rv107 (cells_below hb115)
   replace Rv110:=(rQuery_ok NB).keep Rv110 (cells_below hb115)
   replace bkX:=Bk.below bkX hb115
   replace ltX:=Nat.lt_of_lt_of_le ltX hb115.size
   go_wp2_with fail
   refine hK.out _ _ (HSS106.out _ hC2) (fun hHeld=>?_)
   clear hK K
   try simp only [putS]
   refine rd 6 (some 122) fun K hK=>?_
   clear hHeld
   go_simp
   refine(iBuildSpace_c _ xM _ xQ _ xB _ Rv107 Rv110 Rv113).mono ?_
   rintro e w116 ⟨csh0,fh0,rfl,oh0,frh0,hb117⟩
   obtain⟨Ah0BoxLow,nh0BoxLow,ch0BoxLow,Ah0BoxHigh,nh0BoxHigh,ch0BoxHigh,Ah0Costs,nh0Costs,ch0Costs,Ah0Choices,nh0Choices,ch0Choices,Ah0Plans,nh0Plans,ch0Plans,rfl,_,_,_,_,_⟩:=rSpace_rep.1 ((rSpace_ok NB).toRep oh0)
   have hF:Below w103.heap.size w103 w116:=Below.link hC2 hb117
   replace bkX:=Bk.below bkX hb117
   have jf:=bkX.frozen
   have jc0:=bkX.bx 0 _ rfl
   have jc1:=bkX.bx 1 _ rfl
   have jc2:=bkX.bx 2 _ rfl
   have jc3:=bkX.bx 3 _ rfl
   have jc4:=bkX.bx 4 _ rfl
   go_wp2_with fail
   refine hK.out _ _ (HSS106.out _ hF) (fun hHeld=>?_)
   clear hK K
   try simp only [putS]
   refine tka 7 115 hHeld ?_;simp only [putS]
   refine tka 8 123 hHeld ?_;simp only [putS]
   refine tka 9 124 hHeld ?_;simp only [putS]
   refine rd 11 none fun K hK=>?_
   clear hHeld
   go_simp
   refine hK.out _ _ (HSS106.out _ (Below.setCells hF hgX 0 [.slice Ah0BoxLow nh0BoxLow ch0BoxLow,.slice Ah0BoxHigh nh0BoxHigh ch0BoxHigh,.slice Ah0Costs nh0Costs ch0Costs,.slice Ah0Choices nh0Choices ch0Choices,.slice Ah0Plans nh0Plans ch0Plans])) (fun hHeld=>?_)
   clear hK K
   try simp only [putS]
   refine tka 12 19 hHeld ?_;simp only [putS]
   refine wpAnyH_done (by kernel_rfl) ?_ _
   clear hHeld
   (go_wp2_with fail)
   go_meet
   refine⟨[.slice Ah0BoxLow nh0BoxLow ch0BoxLow,.slice Ah0BoxHigh nh0BoxHigh ch0BoxHigh,.slice Ah0Costs nh0Costs ch0Costs,.slice Ah0Choices nh0Choices ch0Choices,.slice Ah0Plans nh0Plans ch0Plans],fh0,_,rfl,rfl,?_⟩
   exact Left.first (rSpace_ok NB) oh0 frh0 hC2 hb117 bkX ltX hgX rfl
 case rest =>
 obtain⟨csh0,fh0,gh0,rfl,rfl,⟨oh0,frh0,ngh0,ggh0,bkh0,hCh0⟩⟩:=hcut
 obtain⟨wxh0,hwxh0⟩:∃ W:World,W=wc:=⟨_,rfl⟩
 subst hwxh0
 obtain⟨Ah0BoxLow,nh0BoxLow,ch0BoxLow,Ah0BoxHigh,nh0BoxHigh,ch0BoxHigh,Ah0Costs,nh0Costs,ch0Costs,Ah0Choices,nh0Choices,ch0Choices,Ah0Plans,nh0Plans,ch0Plans,rfl,_,_,_,_,_⟩:=rSpace_rep.1 ((rSpace_ok NB).toRep oh0)
 have z119:=hCh0.size
 try simp only [setCells_kit,setCells_size,World.size_alloc]at z119
 have Hz119:=Lib.hid z119;clear z119
 replace ow0:=(rSpace_ok NB).ownB ow0 hCh0
 replace ox0:=(rModel_ok NB).ownB ox0 hCh0
 replace ox1:=(rQuery_ok NB).ownB ox1 hCh0
 replace ox2:=(rBox_ok NB).ownB ox2 hCh0
 replace og0:=(rSpace_ok NB).ownB og0 hCh0
 replace hB:=hB.trans (hCh0.mono hB.size)
 replace bxM:=bxM.below hCh0
 replace bxQ:=bxQ.below hCh0
 replace bxB:=bxB.below hCh0
 replace bxw0:=bxw0.below hCh0
 replace bxx0:=bxx0.below hCh0
 replace bxx1:=bxx1.below hCh0
 replace bxx2:=bxx2.below hCh0
 replace bxg0:=bxg0.below hCh0
 clear HSS106
 have lth0:=Lib.hid ((rSpace_ok NB).lt oh0)
 have fsh0:=frh0
 have HFh0:Hid (∀ k∈fh0,_<=k):=fsh0.ge
 try simp only [setCells_kit,setCells_size,World.size_alloc]at HFh0
 have ndh0:=fsh0.nd;have NDh0:=Lib.hid ndh0;clear ndh0 fsh0
 have GGh0:=Lib.hid (And.intro ggh0 (Bk.lt bkh0));clear ggh0
 have NGh0:=Lib.hid ngh0;clear ngh0
 have bxh0:=Bk.bx bkh0;clear bkh0 hCh0
 have cbxw0_0:=bxw0 0 _ rfl
 have cbxw0_1:=bxw0 1 _ rfl
 have cbxw0_2:=bxw0 2 _ rfl
 have cbxw0_3:=bxw0 3 _ rfl
 have cbxw0_4:=bxw0 4 _ rfl
 have cbxh0_0:=bxh0 0 _ rfl
 have cbxh0_1:=bxh0 1 _ rfl
 have cbxh0_2:=bxh0 2 _ rfl
 have cbxh0_3:=bxh0 3 _ rfl
 have cbxh0_4:=bxh0 4 _ rfl
 go_wp2_with (first|(refine wpList_load_mid rfl 26 _ rfl (w.heap.size) 0 rfl csM _ bxM.range Tryz.underlying26 rfl (by rw [lenM];exact sizeLawModel) ?_)|(refine wpList_load_mid rfl 46 _ rfl (w30.heap.size) 0 rfl csx0 _ bxx0.range Tryz.underlying46 rfl (by rw [lenx0];exact sizeModel) ?_))
 refine(eqSpace_c _ _ ((buildE xM xQ xB).1) ((buildE xM xQ xB).1) _ ((rSpace_ok NB).toRep oh0) ((rSpace_ok NB).toRep ow0)).mono ?_
 rintro e w120 ⟨rfl,hb121⟩
 have z122:=hb121.size
 try simp only [setCells_kit,setCells_size,World.size_alloc]at z122
 have Hz122:=Lib.hid z122;clear z122
 replace ow0:=(rSpace_ok NB).ownB ow0 hb121
 replace ox0:=(rModel_ok NB).ownB ox0 hb121
 replace ox1:=(rQuery_ok NB).ownB ox1 hb121
 replace ox2:=(rBox_ok NB).ownB ox2 hb121
 replace og0:=(rSpace_ok NB).ownB og0 hb121
 replace oh0:=(rSpace_ok NB).ownB oh0 hb121
 replace hB:=hB.trans (hb121.mono hB.size)
 replace bxM:=bxM.below hb121
 replace bxQ:=bxQ.below hb121
 replace bxB:=bxB.below hb121
 replace bxw0:=bxw0.below hb121
 replace bxx0:=bxx0.below hb121
 replace bxx1:=bxx1.below hb121
 replace bxx2:=bxx2.below hb121
 replace bxg0:=bxg0.below hb121
 replace bxh0:=bxh0.below hb121
 clear hb121 cbxw0_0 cbxw0_1 cbxw0_2 cbxw0_3 cbxw0_4 cbxh0_0 cbxh0_1 cbxh0_2 cbxh0_3 cbxh0_4
 have hdr123:decide (((buildE xM xQ xB).1)=((buildE xM xQ xB).1))=true:=by simp
 have cbxg0_0:=bxg0 0 _ rfl
 have cbxg0_1:=bxg0 1 _ rfl
 have cbxg0_2:=bxg0 2 _ rfl
 have cbxg0_3:=bxg0 3 _ rfl
 have cbxg0_4:=bxg0 4 _ rfl
 go_wp2_with (first|(refine wpList_load_mid rfl 26 _ rfl (w.heap.size) 0 rfl csM _ bxM.range Tryz.underlying26 rfl (by rw [lenM];exact sizeLawModel) ?_)|(refine wpList_load_mid rfl 46 _ rfl (w30.heap.size) 0 rfl csx0 _ bxx0.range Tryz.underlying46 rfl (by rw [lenx0];exact sizeModel) ?_))
 have hcbw124:(cnt_Space ((buildE xM xQ xB).1))<=1099511627776:=hcbr.out
 refine(heldSpace_m _ ((buildE xM xQ xB).1) 1 _ ((rSpace_ok NB).toRep og0) (by omega) (by omega)).mono ?_
 rintro e w124 ⟨rfl,hb125⟩
 have z126:=hb125.size
 try simp only [setCells_kit,setCells_size,World.size_alloc]at z126
 have Hz126:=Lib.hid z126;clear z126
 replace ow0:=(rSpace_ok NB).ownB ow0 hb125
 replace ox0:=(rModel_ok NB).ownB ox0 hb125
 replace ox1:=(rQuery_ok NB).ownB ox1 hb125
 replace ox2:=(rBox_ok NB).ownB ox2 hb125
 replace og0:=(rSpace_ok NB).ownB og0 hb125
 replace oh0:=(rSpace_ok NB).ownB oh0 hb125
 replace hB:=hB.trans (hb125.mono hB.size)
 replace bxM:=bxM.below hb125
 replace bxQ:=bxQ.below hb125
 replace bxB:=bxB.below hb125
 replace bxw0:=bxw0.below hb125
 replace bxx0:=bxx0.below hb125
 replace bxx1:=bxx1.below hb125
 replace bxx2:=bxx2.below hb125
 replace bxg0:=bxg0.below hb125
 replace bxh0:=bxh0.below hb125
 clear hb125 hcbw124 cbxg0_0 cbxg0_1 cbxg0_2 cbxg0_3 cbxg0_4
 rw [<- Hkkk102.out]
 go_wp2
 go_ret
 exact⟨rfl,hB⟩

set_option maxRecDepth 100000 in
theorem lifted (os:Os) (started:os.Started) (H:Type) (enc:TypeId × Value->H) :
  ReturnsInHanded {} Tryz.checked os 3 .any (Rows.fnExactBuildSpaceSpec.pre6 enc Tryz.prog Tryz.f3 Rows.fnExactBuildSpaceRow.domain false) (Rows.fnExactBuildSpaceSpec.post enc Tryz.prog Tryz.f3 false true false false):=by
 refine returnsInHanded_of_change (C:=Tryz.checked) own started (by kernel_rfl) Tryz.func3
  (ChangeSpec.witness6 (enc:=enc) (C:=Tryz.checked) false ⟨#[],#[.agg #[.int .i64 0,.int .i64 0,.int .i64 0,.int .i64 0,.int .i64 0,.slice none 0 0,.int .i64 0,.int .i64 0,.int .i64 0,.int .i64 0,.int .i64 0,.slice none 0 0,.int .i64 0,.int .i64 0,.int .i64 0,.int .i64 0,.int .i64 0,.slice none 0 0,.int .i64 0,.int .i64 0,.int .i64 0,.int .i64 0,.int .i64 0,.slice none 0 0,.int .i64 0,.int .i64 0,.int .i64 0,.int .i64 0,.int .i64 0,.slice none 0 0],.agg #[.int .i64 0,.slice none 0 0],.agg #[.slice none 0 0,.slice none 0 0]],[]⟩ 8 (by kernel_rfl) (by kernel_rfl) (by kernel_rfl) (by kernel_rfl)) ?_
 intro W base args ds gs before hval0 hW hcnd _
 have hval:∀ (j:Nat) t v,Tryz.f3.params[j]?=some t->args[j]?=some v->Value.okWide Tryz.prog W .any base t v:=hval0
 have hW':=hW
 obtain⟨p,q,hA0,hV,rfl,hfz,hnd⟩:=hW
 have hA:DataW.TrodAll enc Tryz.prog W 0 (fun _=>true) true Tryz.f3.params.toList args.toList ds p:=hA0
 rw [Tryz.params3]at hA hval
 obtain⟨v0,vs0,d0,ds0,p0,q0,hargs,rfl,rfl,h0,r0⟩:=trodAll_cons hA
 obtain⟨v1,vs1,d1,ds1,p1,q1,rfl,rfl,rfl,h1,r1⟩:=trodAll_cons r0
 obtain⟨v2,vs2,d2,ds2,p2,q2,rfl,rfl,rfl,h2,r2⟩:=trodAll_cons r1
 obtain⟨rfl,rfl,rfl⟩:=trodAll_nil r2
 obtain rfl:args=#[v0,v1,v2]:=by cases args;simp_all
 obtain⟨rfl,rfl⟩:=trodVars_none hV
 obtain⟨ca0,rfl,_⟩:=okWide_struct Tryz.underlying26 (hval 0 26 v0 rfl rfl)
 obtain⟨cl0⟩:=ca0
 have k0:=h0
 have lt0:∀ x∈p0,x.block<W.heap.size:=by obtain⟨m,hm⟩:=k0;exact DataW.trod_lt m _ _ _ hm
 obtain⟨x0,g0⟩:∃ x,(rModel maxLen).rep W cl0 x:=by
  obtain⟨fuel,hf⟩:=h0
  exact opensModel hf
 obtain⟨ca1,rfl,_⟩:=okWide_struct Tryz.underlying29 (hval 1 29 v1 rfl rfl)
 obtain⟨cl1⟩:=ca1
 have k1:=h1
 have lt1:∀ x∈p1,x.block<W.heap.size:=by obtain⟨m,hm⟩:=k1;exact DataW.trod_lt m _ _ _ hm
 obtain⟨x1,g1⟩:∃ x,(rQuery maxLen).rep W cl1 x:=by
  obtain⟨fuel,hf⟩:=h1
  exact opensQuery hf
 obtain⟨ca2,rfl,_⟩:=okWide_struct Tryz.underlying32 (hval 2 32 v2 rfl rfl)
 obtain⟨cl2⟩:=ca2
 have k2:=h2
 have lt2:∀ x∈p2,x.block<W.heap.size:=by obtain⟨m,hm⟩:=k2;exact DataW.trod_lt m _ _ _ hm
 obtain⟨x2,g2⟩:∃ x,(rBox maxLen).rep W cl2 x:=by
  obtain⟨fuel,hf⟩:=h2
  exact opensBox hf
 clear hA0 hval0
 refine(walk cl0 x0 cl1 x1 cl2 x2 W g0 g1 g2).mono fun e W' ⟨he,bel⟩=>?_
 subst he
 exact⟨_,rfl,_,_,_,[],_,[],hW',trodAll_mk1 (shut_bool Tryz.underlying4 _),(trodAll_cons_mk (Below.trod laidOut (by kernel_rfl) (of_decide_eq_true (by kernel_rfl)) k0 bel lt0) (trodAll_cons_mk (Below.trod laidOut (by kernel_rfl) (of_decide_eq_true (by kernel_rfl)) k1 bel lt1) (trodAll_cons_mk (Below.trod laidOut (by kernel_rfl) (of_decide_eq_true (by kernel_rfl)) k2 bel lt2) trodAll_mk0))),rfl,bel.frame _,fun h=>by cases h⟩

theorem over:Rows.fnExactBuildSpaceRow.holds Tryz.pinned (OpenSpec.ofChange Rows.fnExactBuildSpaceSpec) :=
 OpenClaim.holds_of_wide 3 Tryz.f3 rfl rfl rfl rfl rfl rfl rfl ⟨rfl,rfl,rfl,rfl,rfl⟩ rfl rfl rfl rfl rfl (by kernel_rfl) Tryz.func3 (by kernel_rfl)
  (of_decide_eq_true (by kernel_rfl)) (by unfold Func.isWrapper;first|(rw [if_pos (by decide +kernel)];kernel_rfl)|(rw [if_neg (by decide +kernel)];exact⟨rfl,rfl⟩))
  (fun os started H enc _=>lifted os started H enc)

theorem proved : Rows.FnExactBuildSpaceSaid := over
#print axioms proved
end Go.Proofs.YtnlcfkpcmfljeaaGreat.fnExactBuildSpace
