/-
  FnExactRunPlan
-/
import Derived.Test.YtpodldagcnfhlaaGreatRows
import Derived.Test.YtpodldagcnfhlaaGreatKeep
import Derived.Test.YtpodldagcnfhlaaGreatRpl
import Derived.Test.YtpodldagcnfhlaaGreatJnC
import Derived.Test.YtpodldagcnfhlaaGreatOpens
import Derived.Test.YtpodldagcnfhlaaGreatTo
import Derived.Test.YtpodldagcnfhlaaGreatEq
import Derived.WalkKit
import Derived.ProofKit
import Derived.OpenShut
import Derived.ShutString
import Derived.ChangeOld
import Derived.Below
import Derived.Deep.RegionHeld3
import Derived.Test.YtpodldagcnfhlaaGreatMarkC
namespace Go.Proofs.YtpodldagcnfhlaaGreat.fnExactRunPlan
open Go.ChangeShapes Go.WideShapes Go.ChangeAt Go.RowKit
open Go.ChangeMaps (open_string shut_string)
set_option linter.unusedVariables false
set_option linter.unusedSimpArgs false

theorem own:ownKnob Tryz.prog.godebug=none:=by kernel_rfl
theorem laidOut:laidOutB Tryz.prog=true:=by kernel_rfl

set_option maxRecDepth 100000 in
set_option maxHeartbeats 4000000 in
theorem walk (csDb:List Value) (xDb:DatabaseD) (csQ:List Value) (xQ:QueryD) (csP:List Value) (xP:PlanD) (w:World) (rDb:(rDatabase maxLen).rep w csDb xDb) (rQ:(rQuery maxLen).rep w csQ xQ) (rP:(rPlan maxLen).rep w csP xP) :
  Calls Tryz.prog 5 #[.agg csDb.toArray,.agg csQ.toArray,.agg csP.toArray] w fun e w'=>e=.returned (.bool true)/\Below w.heap.size w w':=by
 have hB:Below w.heap.size w w:=Below.refl _ _
 have qDb:=rDb
 obtain⟨ADbTables,nDbTables,cDbTables,rfl,hDbTables⟩:=rDatabase_rep.1 qDb
 clear qDb
 have qQ:=rQ
 obtain⟨AQAtoms,nQAtoms,cQAtoms,rfl,hQVariableCount,hQAtoms⟩:=rQuery_rep.1 qQ
 clear qQ
 have qP:=rP
 obtain⟨APSteps,nPSteps,cPSteps,rfl,hPSteps⟩:=rPlan_rep.1 qP
 clear qP
 go_enter Tryz.func5,Tryz.ntmps5
 have hA1:=(Below.refl (World.heap (w)).size (w)).alloc (Nat.le_refl _) (.cells #[.slice ADbTables nDbTables cDbTables] 47)
 replace hB:=hB.trans (hA1.mono hB.size)
 have bxDb:=Bx.new (w) [.slice ADbTables nDbTables cDbTables] 47
 clear hA1
 have hA2:=(Below.refl (World.heap ((w).alloc (.cells #[.slice ADbTables nDbTables cDbTables] 47))).size ((w).alloc (.cells #[.slice ADbTables nDbTables cDbTables] 47))).alloc (Nat.le_refl _) (.cells #[.int .i64 xQ.fVariableCount,.slice AQAtoms nQAtoms cQAtoms] 50)
 replace hB:=hB.trans (hA2.mono hB.size)
 replace bxDb:=bxDb.below hA2
 have bxQ:=Bx.new ((w).alloc (.cells #[.slice ADbTables nDbTables cDbTables] 47)) [.int .i64 xQ.fVariableCount,.slice AQAtoms nQAtoms cQAtoms] 50
 simp only [World.size_alloc]at bxQ
 clear hA2
 have hA3:=(Below.refl (World.heap (((w).alloc (.cells #[.slice ADbTables nDbTables cDbTables] 47)).alloc (.cells #[.int .i64 xQ.fVariableCount,.slice AQAtoms nQAtoms cQAtoms] 50))).size (((w).alloc (.cells #[.slice ADbTables nDbTables cDbTables] 47)).alloc (.cells #[.int .i64 xQ.fVariableCount,.slice AQAtoms nQAtoms cQAtoms] 50))).alloc (Nat.le_refl _) (.cells #[.slice APSteps nPSteps cPSteps] 53)
 replace hB:=hB.trans (hA3.mono hB.size)
 replace bxDb:=bxDb.below hA3
 replace bxQ:=bxQ.below hA3
 have bxP:=Bx.new (((w).alloc (.cells #[.slice ADbTables nDbTables cDbTables] 47)).alloc (.cells #[.int .i64 xQ.fVariableCount,.slice AQAtoms nQAtoms cQAtoms] 50)) [.slice APSteps nPSteps cPSteps] 53
 simp only [World.size_alloc]at bxP
 clear hA3
 go_wp2_with fail
 refine(szDatabase_c _ xDb _ _ ((rDatabase_ok maxLen).keep rDb (cells_below hB)) (by omega) (by omega)).mono ?_
 rintro e w5 ⟨rfl,hb4⟩
 have z6:=hb4.size
 try simp only [World.size_alloc]at z6
 have Hz6:=Lib.hid z6;clear z6
 replace hB:=hB.trans (hb4.mono hB.size)
 replace bxDb:=bxDb.below hb4
 replace bxQ:=bxQ.below hb4
 replace bxP:=bxP.below hb4
 clear hb4
 by_cases hszDb:((bulkDatabase xDb:Nat):Int)<=1048576
 rotate_left
 ·rw [lessBy_no hszDb]
  go_wp2
  go_ret
  exact⟨rfl,hB⟩
 rw [lessBy_yes hszDb]
 have sDb:=smallDatabase rDb (by omega)
 obtain⟨L7,hL7⟩:∃ L:Int,L=1048576 - ((bulkDatabase xDb:Nat):Int):=⟨_,rfl⟩
 rw [<- hL7]
 have pL7:0<=L7:=by omega
 have uL7:L7<=1048576:=by omega
 clear hL7
 have cbxQ_0:=bxQ 0 _ rfl
 have cbxQ_1:=bxQ 1 _ rfl
 go_wp2_with fail
 refine(szQuery_c _ xQ _ _ ((rQuery_ok maxLen).keep rQ (cells_below hB)) (by omega) (by omega)).mono ?_
 rintro e w9 ⟨rfl,hb8⟩
 have z10:=hb8.size
 try simp only [World.size_alloc]at z10
 have Hz10:=Lib.hid z10;clear z10
 replace hB:=hB.trans (hb8.mono hB.size)
 replace bxDb:=bxDb.below hb8
 replace bxQ:=bxQ.below hb8
 replace bxP:=bxP.below hb8
 clear hb8 cbxQ_0 cbxQ_1
 by_cases hszQ:((bulkQuery xQ:Nat):Int)<=L7
 rotate_left
 ·rw [lessBy_no hszQ]
  go_wp2
  go_ret
  exact⟨rfl,hB⟩
 rw [lessBy_yes hszQ]
 have sQ:=smallQuery rQ (by omega)
 obtain⟨L11,hL11⟩:∃ L:Int,L=L7 - ((bulkQuery xQ:Nat):Int):=⟨_,rfl⟩
 rw [<- hL11]
 have pL11:0<=L11:=by omega
 have uL11:L11<=1048576:=by omega
 clear hL11
 have cbxP_0:=bxP 0 _ rfl
 go_wp2_with fail
 refine(szPlan_c _ xP _ _ ((rPlan_ok maxLen).keep rP (cells_below hB)) (by omega) (by omega)).mono ?_
 rintro e w13 ⟨rfl,hb12⟩
 have z14:=hb12.size
 try simp only [World.size_alloc]at z14
 have Hz14:=Lib.hid z14;clear z14
 replace hB:=hB.trans (hb12.mono hB.size)
 replace bxDb:=bxDb.below hb12
 replace bxQ:=bxQ.below hb12
 replace bxP:=bxP.below hb12
 clear hb12 cbxP_0
 by_cases hszP:((bulkPlan xP:Nat):Int)<=L11
 rotate_left
 ·rw [lessBy_no hszP]
  go_wp2
  go_ret
  exact⟨rfl,hB⟩
 rw [lessBy_yes hszP]
 have sP:=smallPlan rP (by omega)
 obtain⟨L15,hL15⟩:∃ L:Int,L=L11 - ((bulkPlan xP:Nat):Int):=⟨_,rfl⟩
 rw [<- hL15]
 have pL15:0<=L15:=by omega
 have uL15:L15<=1048576:=by omega
 clear hL15
 go_upto_region 11 with fail
 have SS16:∀ w',Below w13.heap.size w13 w'->(w'.cell? ⟨w.heap.size,0,none⟩=some (.slice ADbTables nDbTables cDbTables)/\w'.cell? ⟨w.heap.size+1,0,none⟩=some (.int .i64 xQ.fVariableCount)/\w'.cell? ⟨w.heap.size+1,1,none⟩=some (.slice AQAtoms nQAtoms cQAtoms)/\w'.cell? ⟨w.heap.size+1+1,0,none⟩=some (.slice APSteps nPSteps cPSteps)):=fun w' hb=>⟨bxDb.below hb 0 _ rfl,bxQ.below hb 0 _ rfl,bxQ.below hb 1 _ rfl,bxP.below hb 0 _ rfl⟩
 have HSS16:=Lib.hid SS16;clear SS16
 go_cut [8,9] (fun s8 s9 wx=>∃ (cs:List Value) (f:List Nat) (g:Nat),s8=.pointer (some ⟨g,0,none⟩)/\s9=.bool (runPlan xDb xQ xP).2/\Left (rStream NB) 35 ((runPlan xDb xQ xP).1) w13 g f cs wx)
 case first =>
  have hd13:=(Below.refl w13.heap.size w13).drew
  refine hbg HSS16.out hd13 (fun hHeld=>?_)
  refine tka 0 36 hHeld ?_;simp only [putS]
  refine tka 2 38 hHeld ?_;simp only [putS]
  refine tka 4 40 hHeld ?_;simp only [putS]
  refine rd2 1 (some 37) 10 (some 8) (fun K hK=>?_) fun K hK=>?_
  all_goals clear hHeld
  ·go_simp
   refine(toDatabase_c _ xDb _ ((rDatabase_ok NB).keep sDb (cells_below (Below.link hB hd13)))).mono ?_
   rintro e w18 ⟨csv17,fv17,rfl,ov17,frv17,hb19⟩
   have Rv17:=(rDatabase_ok NB).toRep ov17
   have hC0:Below w13.heap.size w13 w18:=Below.link hd13 hb19
   go_wp2_with fail
   refine hK.out _ _ (HSS16.out _ hC0) (fun hHeld=>?_)
   clear hK K
   try simp only [putS]
   refine rd2 3 (some 39) 10 (some 8) (fun K hK=>?_) fun K hK=>?_
   all_goals clear hHeld
   ·go_simp
    refine(toQuery_c _ xQ _ ((rQuery_ok NB).keep sQ (cells_below (Below.link hB hC0)))).mono ?_
    rintro e w21 ⟨csv20,fv20,rfl,ov20,frv20,hb22⟩
    have Rv20:=(rQuery_ok NB).toRep ov20
    have hC1:Below w13.heap.size w13 w21:=Below.link hC0 hb22
    replace Rv17:=(rDatabase_ok NB).keep Rv17 (cells_below hb22)
    go_wp2_with fail
    refine hK.out _ _ (HSS16.out _ hC1) (fun hHeld=>?_)
    clear hK K
    try simp only [putS]
    refine rd2 5 (some 41) 10 (some 8) (fun K hK=>?_) fun K hK=>?_
    all_goals clear hHeld
    ·go_simp
     refine(toPlan_c _ xP _ ((rPlan_ok NB).keep sP (cells_below (Below.link hB hC1)))).mono ?_
     rintro e w24 ⟨csv23,fv23,rfl,ov23,frv23,hb25⟩
     have Rv23:=(rPlan_ok NB).toRep ov23
     have hC2:Below w13.heap.size w13 w24:=Below.link hC1 hb25
     replace Rv17:=(rDatabase_ok NB).keep Rv17 (cells_below hb25)
     replace Rv20:=(rQuery_ok NB).keep Rv20 (cells_below hb25)
     go_wp2_with fail
     refine hK.out _ _ (HSS16.out _ hC2) (fun hHeld=>?_)
     clear hK K
     try simp only [putS]
     refine rd2 6 (some 42) 10 (some 8) (fun K hK=>?_) fun K hK=>?_
     all_goals clear hHeld
     ·go_simp
      refine(sRunPlan_c _ xDb _ xQ _ xP _ Rv17 Rv20 Rv23).mono ?_
      rintro e w26 ⟨csw0,fw0,rfl,ow0,frw0,hb27⟩
      obtain⟨Aw0Vars,nw0Vars,cw0Vars,Aw0Rows,nw0Rows,cw0Rows,rfl,_,_⟩:=rStream_rep.1 ((rStream_ok NB).toRep ow0)
      have hF:Below w13.heap.size w13 w26:=Below.link hC2 hb27
      go_wp2_with fail
      refine hK.out _ _ (HSS16.out _ hF) (fun hHeld=>?_)
      clear hK K
      try simp only [putS]
      refine tka 7 35 hHeld ?_;simp only [putS]
      refine tka 8 43 hHeld ?_;simp only [putS]
      refine tka 9 44 hHeld ?_;simp only [putS]
      refine rd 10 (some 8) fun K hK=>?_
      clear hHeld
      go_simp
      refine hK.out _ _ (HSS16.out _ (Below.alc hF (.cells #[.slice none 0 0,.slice none 0 0] 35))) (fun hHeld=>?_)
      clear hK K
      try simp only [putS]
      refine rd 11 none fun K hK=>?_
      clear hHeld
      go_simp
      refine hK.out _ _ (HSS16.out _ (Below.alc hF (.cells #[.slice Aw0Vars nw0Vars cw0Vars,.slice Aw0Rows nw0Rows cw0Rows] 35))) (fun hHeld=>?_)
      clear hK K
      try simp only [putS]
      refine tka 12 9 hHeld ?_;simp only [putS]
      refine wpAnyH_done (by kernel_rfl) ?_ _
      clear hHeld
      (go_wp2_with fail)
      go_meet
      refine⟨[.slice Aw0Vars nw0Vars cw0Vars,.slice Aw0Rows nw0Rows cw0Rows],fw0,_,rfl,rfl,?_⟩
      exact Left.last (rStream_ok NB) ow0 frw0 hC2 hb27
     ·have hA:=(Below.refl w24.heap.size w24).alloc (Nat.le_refl _) (.cells #[.slice none 0 0,.slice none 0 0] 35)
      have bkX:Bk (w24.alloc (.cells #[.slice none 0 0,.slice none 0 0] 35)) w24.heap.size 35 [.slice none 0 0,.slice none 0 0]:=Bk.new w24 _ _
      have ltX:w24.heap.size<(w24.alloc (.cells #[.slice none 0 0,.slice none 0 0] 35)).heap.size:=Nat.lt_of_lt_of_eq (Nat.lt_succ_self _) (World.size_alloc ..).symm
      have hgX:w13.heap.size<=w24.heap.size:=hC2.size
      replace Rv17:=(rDatabase_ok NB).keep Rv17 (cells_below hA)
      replace Rv20:=(rQuery_ok NB).keep Rv20 (cells_below hA)
      replace Rv23:=(rPlan_ok NB).keep Rv23 (cells_below hA)
      have hZ:=Below.link hC2 hA
      go_simp
      refine hK.out _ _ (HSS16.out _ hZ) (fun hHeld=>?_)
      clear hK K
      try simp only [putS]
      refine rd 6 (some 42) fun K hK=>?_
      clear hHeld
      go_simp
      refine(sRunPlan_c _ xDb _ xQ _ xP _ Rv17 Rv20 Rv23).mono ?_
      rintro e w26 ⟨csw0,fw0,rfl,ow0,frw0,hb27⟩
      obtain⟨Aw0Vars,nw0Vars,cw0Vars,Aw0Rows,nw0Rows,cw0Rows,rfl,_,_⟩:=rStream_rep.1 ((rStream_ok NB).toRep ow0)
      have hF:Below w13.heap.size w13 w26:=Below.link hZ hb27
      replace bkX:=Bk.below bkX hb27
      have jf:=bkX.frozen
      have jc0:=bkX.bx 0 _ rfl
      have jc1:=bkX.bx 1 _ rfl
      go_wp2_with fail
      refine hK.out _ _ (HSS16.out _ hF) (fun hHeld=>?_)
      clear hK K
      try simp only [putS]
      refine tka 7 35 hHeld ?_;simp only [putS]
      refine tka 8 43 hHeld ?_;simp only [putS]
      refine tka 9 44 hHeld ?_;simp only [putS]
      refine rd 11 none fun K hK=>?_
      clear hHeld
      go_simp
      refine hK.out _ _ (HSS16.out _ (Below.setCells hF hgX 0 [.slice Aw0Vars nw0Vars cw0Vars,.slice Aw0Rows nw0Rows cw0Rows])) (fun hHeld=>?_)
      clear hK K
      try simp only [putS]
      refine tka 12 9 hHeld ?_;simp only [putS]
      refine wpAnyH_done (by kernel_rfl) ?_ _
      clear hHeld
      (go_wp2_with fail)
      go_meet
      refine⟨[.slice Aw0Vars nw0Vars cw0Vars,.slice Aw0Rows nw0Rows cw0Rows],fw0,_,rfl,rfl,?_⟩
      exact Left.first (rStream_ok NB) ow0 frw0 hZ hb27 bkX ltX hgX rfl
    ·have hA:=(Below.refl w21.heap.size w21).alloc (Nat.le_refl _) (.cells #[.slice none 0 0,.slice none 0 0] 35)
     have bkX:Bk (w21.alloc (.cells #[.slice none 0 0,.slice none 0 0] 35)) w21.heap.size 35 [.slice none 0 0,.slice none 0 0]:=Bk.new w21 _ _
     have ltX:w21.heap.size<(w21.alloc (.cells #[.slice none 0 0,.slice none 0 0] 35)).heap.size:=Nat.lt_of_lt_of_eq (Nat.lt_succ_self _) (World.size_alloc ..).symm
     have hgX:w13.heap.size<=w21.heap.size:=hC1.size
     replace Rv17:=(rDatabase_ok NB).keep Rv17 (cells_below hA)
     replace Rv20:=(rQuery_ok NB).keep Rv20 (cells_below hA)
     have hZ:=Below.link hC1 hA
     go_simp
     refine hK.out _ _ (HSS16.out _ hZ) (fun hHeld=>?_)
     clear hK K
     try simp only [putS]
     refine rd 5 (some 41) fun K hK=>?_
     clear hHeld
     go_simp
     refine(toPlan_c _ xP _ ((rPlan_ok NB).keep sP (cells_below (Below.link hB hZ)))).mono ?_
     rintro e w24 ⟨csv23,fv23,rfl,ov23,frv23,hb25⟩
     have Rv23:=(rPlan_ok NB).toRep ov23
     have hC2:Below w13.heap.size w13 w24:=Below.link hZ hb25
     replace Rv17:=(rDatabase_ok NB).keep Rv17 (cells_below hb25)
     replace Rv20:=(rQuery_ok NB).keep Rv20 (cells_below hb25)
     replace bkX:=Bk.below bkX hb25
     replace ltX:=Nat.lt_of_lt_of_le ltX hb25.size
     go_wp2_with fail
     refine hK.out _ _ (HSS16.out _ hC2) (fun hHeld=>?_)
     clear hK K
     try simp only [putS]
     refine rd 6 (some 42) fun K hK=>?_
     clear hHeld
     go_simp
     refine(sRunPlan_c _ xDb _ xQ _ xP _ Rv17 Rv20 Rv23).mono ?_
     rintro e w26 ⟨csw0,fw0,rfl,ow0,frw0,hb27⟩
     obtain⟨Aw0Vars,nw0Vars,cw0Vars,Aw0Rows,nw0Rows,cw0Rows,rfl,_,_⟩:=rStream_rep.1 ((rStream_ok NB).toRep ow0)
     have hF:Below w13.heap.size w13 w26:=Below.link hC2 hb27
     replace bkX:=Bk.below bkX hb27
     have jf:=bkX.frozen
     have jc0:=bkX.bx 0 _ rfl
     have jc1:=bkX.bx 1 _ rfl
     go_wp2_with fail
     refine hK.out _ _ (HSS16.out _ hF) (fun hHeld=>?_)
     clear hK K
     try simp only [putS]
     refine tka 7 35 hHeld ?_;simp only [putS]
     refine tka 8 43 hHeld ?_;simp only [putS]
     refine tka 9 44 hHeld ?_;simp only [putS]
     refine rd 11 none fun K hK=>?_
     clear hHeld
     go_simp
     refine hK.out _ _ (HSS16.out _ (Below.setCells hF hgX 0 [.slice Aw0Vars nw0Vars cw0Vars,.slice Aw0Rows nw0Rows cw0Rows])) (fun hHeld=>?_)
     clear hK K
     try simp only [putS]
     refine tka 12 9 hHeld ?_;simp only [putS]
     refine wpAnyH_done (by kernel_rfl) ?_ _
     clear hHeld
     (go_wp2_with fail)
     go_meet
     refine⟨[.slice Aw0Vars nw0Vars cw0Vars,.slice Aw0Rows nw0Rows cw0Rows],fw0,_,rfl,rfl,?_⟩
     exact Left.first (rStream_ok NB) ow0 frw0 hC2 hb27 bkX ltX hgX rfl
   ·have hA:=(Below.refl w18.heap.size w18).alloc (Nat.le_refl _) (.cells #[.slice none 0 0,.slice none 0 0] 35)
    have bkX:Bk (w18.alloc (.cells #[.slice none 0 0,.slice none 0 0] 35)) w18.heap.size 35 [.slice none 0 0,.slice none 0 0]:=Bk.new w18 _ _
    have ltX:w18.heap.size<(w18.alloc (.cells #[.slice none 0 0,.slice none 0 0] 35)).heap.size:=Nat.lt_of_lt_of_eq (Nat.lt_succ_self _) (World.size_alloc ..).symm
    have hgX:w13.heap.size<=w18.heap.size:=hC0.size
    replace Rv17:=(rDatabase_ok NB).keep Rv17 (cells_below hA)
    have hZ:=Below.link hC0 hA
    go_simp
    refine hK.out _ _ (HSS16.out _ hZ) (fun hHeld=>?_)
    clear hK K
    try simp only [putS]
    refine rd 3 (some 39) fun K hK=>?_
    clear hHeld
    go_simp
    refine(toQuery_c _ xQ _ ((rQuery_ok NB).keep sQ (cells_below (Below.link hB hZ)))).mono ?_
    rintro e w21 ⟨csv20,fv20,rfl,ov20,frv20,hb22⟩
    have Rv20:=(rQuery_ok NB).toRep ov20
    have hC1:Below w13.heap.size w13 w21:=Below.link hZ hb22
    replace Rv17:=(rDatabase_ok NB).keep Rv17 (cells_below hb22)
    replace bkX:=Bk.below bkX hb22
    replace ltX:=Nat.lt_of_lt_of_le ltX hb22.size
    go_wp2_with fail
    refine hK.out _ _ (HSS16.out _ hC1) (fun hHeld=>?_)
    clear hK K
    try simp only [putS]
    refine rd 5 (some 41) fun K hK=>?_
    clear hHeld
    go_simp
    refine(toPlan_c _ xP _ ((rPlan_ok NB).keep sP (cells_below (Below.link hB hC1)))).mono ?_
    rintro e w24 ⟨csv23,fv23,rfl,ov23,frv23,hb25⟩
    have Rv23:=(rPlan_ok NB).toRep ov23
    have hC2:Below w13.heap.size w13 w24:=Below.link hC1 hb25
    replace Rv17:=(rDatabase_ok NB).keep Rv17 (cells_below hb25)
    replace Rv20:=(rQuery_ok NB).keep Rv20 (cells_below hb25)
    replace bkX:=Bk.below bkX hb25
    replace ltX:=Nat.lt_of_lt_of_le ltX hb25.size
    go_wp2_with fail
    refine hK.out _ _ (HSS16.out _ hC2) (fun hHeld=>?_)
    clear hK K
    try simp only [putS]
    refine rd 6 (some 42) fun K hK=>?_
    clear hHeld
    go_simp
    refine(sRunPlan_c _ xDb _ xQ _ xP _ Rv17 Rv20 Rv23).mono ?_
    rintro e w26 ⟨csw0,fw0,rfl,ow0,frw0,hb27⟩
    obtain⟨Aw0Vars,nw0Vars,cw0Vars,Aw0Rows,nw0Rows,cw0Rows,rfl,_,_⟩:=rStream_rep.1 ((rStream_ok NB).toRep ow0)
    have hF:Below w13.heap.size w13 w26:=Below.link hC2 hb27
    replace bkX:=Bk.below bkX hb27
    have jf:=bkX.frozen
    have jc0:=bkX.bx 0 _ rfl
    have jc1:=bkX.bx 1 _ rfl
    go_wp2_with fail
    refine hK.out _ _ (HSS16.out _ hF) (fun hHeld=>?_)
    clear hK K
    try simp only [putS]
    refine tka 7 35 hHeld ?_;simp only [putS]
    refine tka 8 43 hHeld ?_;simp only [putS]
    refine tka 9 44 hHeld ?_;simp only [putS]
    refine rd 11 none fun K hK=>?_
    clear hHeld
    go_simp
    refine hK.out _ _ (HSS16.out _ (Below.setCells hF hgX 0 [.slice Aw0Vars nw0Vars cw0Vars,.slice Aw0Rows nw0Rows cw0Rows])) (fun hHeld=>?_)
    clear hK K
    try simp only [putS]
    refine tka 12 9 hHeld ?_;simp only [putS]
    refine wpAnyH_done (by kernel_rfl) ?_ _
    clear hHeld
    (go_wp2_with fail)
    go_meet
    refine⟨[.slice Aw0Vars nw0Vars cw0Vars,.slice Aw0Rows nw0Rows cw0Rows],fw0,_,rfl,rfl,?_⟩
    exact Left.first (rStream_ok NB) ow0 frw0 hC2 hb27 bkX ltX hgX rfl
  ·have hA:=(Below.refl w13.drew.heap.size w13.drew).alloc (Nat.le_refl _) (.cells #[.slice none 0 0,.slice none 0 0] 35)
   have bkX:Bk (w13.drew.alloc (.cells #[.slice none 0 0,.slice none 0 0] 35)) w13.heap.size 35 [.slice none 0 0,.slice none 0 0]:=Bk.new w13.drew _ _
   have ltX:w13.heap.size<(w13.drew.alloc (.cells #[.slice none 0 0,.slice none 0 0] 35)).heap.size:=Nat.lt_of_lt_of_eq (Nat.lt_succ_self _) (World.size_alloc ..).symm
   have hgX:w13.heap.size<=w13.heap.size:=hd13.size
   have hZ:=Below.link hd13 hA
   go_simp
   refine hK.out _ _ (HSS16.out _ hZ) (fun hHeld=>?_)
   clear hK K
   try simp only [putS]
   refine rd 1 (some 37) fun K hK=>?_
   clear hHeld
   go_simp
   refine(toDatabase_c _ xDb _ ((rDatabase_ok NB).keep sDb (cells_below (Below.link hB hZ)))).mono ?_
   rintro e w18 ⟨csv17,fv17,rfl,ov17,frv17,hb19⟩
   have Rv17:=(rDatabase_ok NB).toRep ov17
   have hC0:Below w13.heap.size w13 w18:=Below.link hZ hb19
   replace bkX:=Bk.below bkX hb19
   replace ltX:=Nat.lt_of_lt_of_le ltX hb19.size
   go_wp2_with fail
   refine hK.out _ _ (HSS16.out _ hC0) (fun hHeld=>?_)
   clear hK K
   try simp only [putS]
   refine rd 3 (some 39) fun K hK=>?_
   clear hHeld
   go_simp
   refine(toQuery_c _ xQ _ ((rQuery_ok NB).keep sQ (cells_below (Below.link hB hC0)))).mono ?_
   rintro e w21 ⟨csv20,fv20,rfl,ov20,frv20,hb22⟩
   have Rv20:=(rQuery_ok NB).toRep ov20
   have hC1:Below w13.heap.size w13 w21:=Below.link hC0 hb22
   replace Rv17:=(rDatabase_ok NB).keep Rv17 (cells_below hb22)
   replace bkX:=Bk.below bkX hb22
   replace ltX:=Nat.lt_of_lt_of_le ltX hb22.size
   go_wp2_with fail
   refine hK.out _ _ (HSS16.out _ hC1) (fun hHeld=>?_)
   clear hK K
   try simp only [putS]
   refine rd 5 (some 41) fun K hK=>?_
   clear hHeld
   go_simp
   refine(toPlan_c _ xP _ ((rPlan_ok NB).keep sP (cells_below (Below.link hB hC1)))).mono ?_
   rintro e w24 ⟨csv23,fv23,rfl,ov23,frv23,hb25⟩
   have Rv23:=(rPlan_ok NB).toRep ov23
   have hC2:Below w13.heap.size w13 w24:=Below.link hC1 hb25
   replace Rv17:=(rDatabase_ok NB).keep Rv17 (cells_below hb25)
   replace Rv20:=(rQuery_ok NB).keep Rv20 (cells_below hb25)
   replace bkX:=Bk.below bkX hb25
   replace ltX:=Nat.lt_of_lt_of_le ltX hb25.size
   go_wp2_with fail
   refine hK.out _ _ (HSS16.out _ hC2) (fun hHeld=>?_)
   clear hK K
   try simp only [putS]
   refine rd 6 (some 42) fun K hK=>?_
   clear hHeld
   go_simp
   refine(sRunPlan_c _ xDb _ xQ _ xP _ Rv17 Rv20 Rv23).mono ?_
   rintro e w26 ⟨csw0,fw0,rfl,ow0,frw0,hb27⟩
   obtain⟨Aw0Vars,nw0Vars,cw0Vars,Aw0Rows,nw0Rows,cw0Rows,rfl,_,_⟩:=rStream_rep.1 ((rStream_ok NB).toRep ow0)
   have hF:Below w13.heap.size w13 w26:=Below.link hC2 hb27
   replace bkX:=Bk.below bkX hb27
   have jf:=bkX.frozen
   have jc0:=bkX.bx 0 _ rfl
   have jc1:=bkX.bx 1 _ rfl
   go_wp2_with fail
   refine hK.out _ _ (HSS16.out _ hF) (fun hHeld=>?_)
   clear hK K
   try simp only [putS]
   refine tka 7 35 hHeld ?_;simp only [putS]
   refine tka 8 43 hHeld ?_;simp only [putS]
   refine tka 9 44 hHeld ?_;simp only [putS]
   refine rd 11 none fun K hK=>?_
   clear hHeld
   go_simp
   refine hK.out _ _ (HSS16.out _ (Below.setCells hF hgX 0 [.slice Aw0Vars nw0Vars cw0Vars,.slice Aw0Rows nw0Rows cw0Rows])) (fun hHeld=>?_)
   clear hK K
   try simp only [putS]
   refine tka 12 9 hHeld ?_;simp only [putS]
   refine wpAnyH_done (by kernel_rfl) ?_ _
   clear hHeld
   (go_wp2_with fail)
   go_meet
   refine⟨[.slice Aw0Vars nw0Vars cw0Vars,.slice Aw0Rows nw0Rows cw0Rows],fw0,_,rfl,rfl,?_⟩
   exact Left.first (rStream_ok NB) ow0 frw0 hC2 hb27 bkX ltX hgX rfl
 case rest =>
 obtain⟨csw0,fw0,gw0,rfl,rfl,⟨ow0,frw0,ngw0,ggw0,bkw0,hCw0⟩⟩:=hcut
 obtain⟨wxw0,hwxw0⟩:∃ W:World,W=wc:=⟨_,rfl⟩
 subst hwxw0
 obtain⟨Aw0Vars,nw0Vars,cw0Vars,Aw0Rows,nw0Rows,cw0Rows,rfl,_,_⟩:=rStream_rep.1 ((rStream_ok NB).toRep ow0)
 have z29:=hCw0.size
 try simp only [World.size_alloc]at z29
 have Hz29:=Lib.hid z29;clear z29
 replace hB:=hB.trans (hCw0.mono hB.size)
 replace bxDb:=bxDb.below hCw0
 replace bxQ:=bxQ.below hCw0
 replace bxP:=bxP.below hCw0
 clear HSS16
 have ltw0:=Lib.hid ((rStream_ok NB).lt ow0)
 have fsw0:=frw0
 have HFw0:Hid (∀ k∈fw0,_<=k):=fsw0.ge
 try simp only [World.size_alloc]at HFw0
 have ndw0:=fsw0.nd;have NDw0:=Lib.hid ndw0;clear ndw0 fsw0
 have GGw0:=Lib.hid (And.intro ggw0 (Bk.lt bkw0));clear ggw0
 have NGw0:=Lib.hid ngw0;clear ngw0
 have bxw0:=Bk.bx bkw0;clear bkw0 hCw0
 have cbxDb_0:=bxDb 0 _ rfl
 go_wp2_with fail
 refine(toDatabase_c _ xDb _ ((rDatabase_ok NB).keep sDb (cells_below hB))).mono ?_
 rintro e w30 ⟨csx0,fx0,rfl,ox0,frx0,hb31⟩
 have z32:=hb31.size
 try simp only [World.size_alloc]at z32
 have Hz32:=Lib.hid z32;clear z32
 replace ow0:=(rStream_ok NB).ownB ow0 hb31
 replace hB:=hB.trans (hb31.mono hB.size)
 replace bxDb:=bxDb.below hb31
 replace bxQ:=bxQ.below hb31
 replace bxP:=bxP.below hb31
 replace bxw0:=bxw0.below hb31
 clear hb31 cbxDb_0
 have ltx0:=Lib.hid ((rDatabase_ok NB).lt ox0)
 have fsx0:=frx0
 have HFx0:Hid (∀ k∈fx0,_<=k):=fsx0.ge
 try simp only [World.size_alloc]at HFx0
 have ndx0:=fsx0.nd;have NDx0:=Lib.hid ndx0;clear ndx0 fsx0
 obtain⟨Ax0Tables,nx0Tables,cx0Tables,rfl,_⟩:=rDatabase_rep.1 ((rDatabase_ok NB).toRep ox0)
 have hA33:=(Below.refl w30.heap.size w30).alloc (Nat.le_refl _) (.cells #[.slice Ax0Tables nx0Tables cx0Tables] 26)
 replace ow0:=(rStream_ok NB).ownB ow0 hA33
 replace ox0:=(rDatabase_ok NB).ownB ox0 hA33
 replace hB:=hB.trans (hA33.mono hB.size)
 replace bxDb:=bxDb.below hA33
 replace bxQ:=bxQ.below hA33
 replace bxP:=bxP.below hA33
 replace bxw0:=bxw0.below hA33
 have bxx0:=Bx.new w30 [.slice Ax0Tables nx0Tables cx0Tables] 26
 clear hA33
 have cbxQ_0:=bxQ 0 _ rfl
 have cbxQ_1:=bxQ 1 _ rfl
 go_wp2_with fail
 refine(toQuery_c _ xQ _ ((rQuery_ok NB).keep sQ (cells_below hB))).mono ?_
 rintro e w34 ⟨csx1,fx1,rfl,ox1,frx1,hb35⟩
 have z36:=hb35.size
 try simp only [World.size_alloc]at z36
 have Hz36:=Lib.hid z36;clear z36
 replace ow0:=(rStream_ok NB).ownB ow0 hb35
 replace ox0:=(rDatabase_ok NB).ownB ox0 hb35
 replace hB:=hB.trans (hb35.mono hB.size)
 replace bxDb:=bxDb.below hb35
 replace bxQ:=bxQ.below hb35
 replace bxP:=bxP.below hb35
 replace bxw0:=bxw0.below hb35
 replace bxx0:=bxx0.below hb35
 clear hb35 cbxQ_0 cbxQ_1
 have ltx1:=Lib.hid ((rQuery_ok NB).lt ox1)
 have fsx1:=frx1
 have HFx1:Hid (∀ k∈fx1,_<=k):=fsx1.ge
 try simp only [World.size_alloc]at HFx1
 have ndx1:=fsx1.nd;have NDx1:=Lib.hid ndx1;clear ndx1 fsx1
 obtain⟨Ax1Atoms,nx1Atoms,cx1Atoms,rfl,_,_⟩:=rQuery_rep.1 ((rQuery_ok NB).toRep ox1)
 have hA37:=(Below.refl w34.heap.size w34).alloc (Nat.le_refl _) (.cells #[.int .i64 xQ.fVariableCount,.slice Ax1Atoms nx1Atoms cx1Atoms] 29)
 replace ow0:=(rStream_ok NB).ownB ow0 hA37
 replace ox0:=(rDatabase_ok NB).ownB ox0 hA37
 replace ox1:=(rQuery_ok NB).ownB ox1 hA37
 replace hB:=hB.trans (hA37.mono hB.size)
 replace bxDb:=bxDb.below hA37
 replace bxQ:=bxQ.below hA37
 replace bxP:=bxP.below hA37
 replace bxw0:=bxw0.below hA37
 replace bxx0:=bxx0.below hA37
 have bxx1:=Bx.new w34 [.int .i64 xQ.fVariableCount,.slice Ax1Atoms nx1Atoms cx1Atoms] 29
 clear hA37
 have cbxP_0:=bxP 0 _ rfl
 go_wp2_with fail
 refine(toPlan_c _ xP _ ((rPlan_ok NB).keep sP (cells_below hB))).mono ?_
 rintro e w38 ⟨csx2,fx2,rfl,ox2,frx2,hb39⟩
 have z40:=hb39.size
 try simp only [World.size_alloc]at z40
 have Hz40:=Lib.hid z40;clear z40
 replace ow0:=(rStream_ok NB).ownB ow0 hb39
 replace ox0:=(rDatabase_ok NB).ownB ox0 hb39
 replace ox1:=(rQuery_ok NB).ownB ox1 hb39
 replace hB:=hB.trans (hb39.mono hB.size)
 replace bxDb:=bxDb.below hb39
 replace bxQ:=bxQ.below hb39
 replace bxP:=bxP.below hb39
 replace bxw0:=bxw0.below hb39
 replace bxx0:=bxx0.below hb39
 replace bxx1:=bxx1.below hb39
 clear hb39 cbxP_0
 have ltx2:=Lib.hid ((rPlan_ok NB).lt ox2)
 have fsx2:=frx2
 have HFx2:Hid (∀ k∈fx2,_<=k):=fsx2.ge
 try simp only [World.size_alloc]at HFx2
 have ndx2:=fsx2.nd;have NDx2:=Lib.hid ndx2;clear ndx2 fsx2
 obtain⟨Ax2Steps,nx2Steps,cx2Steps,rfl,_⟩:=rPlan_rep.1 ((rPlan_ok NB).toRep ox2)
 have hA41:=(Below.refl w38.heap.size w38).alloc (Nat.le_refl _) (.cells #[.slice Ax2Steps nx2Steps cx2Steps] 62)
 replace ow0:=(rStream_ok NB).ownB ow0 hA41
 replace ox0:=(rDatabase_ok NB).ownB ox0 hA41
 replace ox1:=(rQuery_ok NB).ownB ox1 hA41
 replace ox2:=(rPlan_ok NB).ownB ox2 hA41
 replace hB:=hB.trans (hA41.mono hB.size)
 replace bxDb:=bxDb.below hA41
 replace bxQ:=bxQ.below hA41
 replace bxP:=bxP.below hA41
 replace bxw0:=bxw0.below hA41
 replace bxx0:=bxx0.below hA41
 replace bxx1:=bxx1.below hA41
 have bxx2:=Bx.new w38 [.slice Ax2Steps nx2Steps cx2Steps] 62
 clear hA41
 have cbxx0_0:=bxx0 0 _ rfl
 have cbxx1_0:=bxx1 0 _ rfl
 have cbxx1_1:=bxx1 1 _ rfl
 have cbxx2_0:=bxx2 0 _ rfl
 go_wp2_with fail
 refine(iRunPlan_c _ xDb _ xQ _ xP _ ((rDatabase_ok NB).toRep ox0) ((rQuery_ok NB).toRep ox1) ((rPlan_ok NB).toRep ox2)).mono ?_
 rintro e w42 ⟨csg0,fg0,rfl,og0,frg0,hb43⟩
 have z44:=hb43.size
 try simp only [World.size_alloc]at z44
 have Hz44:=Lib.hid z44;clear z44
 replace ow0:=(rStream_ok NB).ownB ow0 hb43
 replace ox0:=(rDatabase_ok NB).ownB ox0 hb43
 replace ox1:=(rQuery_ok NB).ownB ox1 hb43
 replace ox2:=(rPlan_ok NB).ownB ox2 hb43
 replace hB:=hB.trans (hb43.mono hB.size)
 replace bxDb:=bxDb.below hb43
 replace bxQ:=bxQ.below hb43
 replace bxP:=bxP.below hb43
 replace bxw0:=bxw0.below hb43
 replace bxx0:=bxx0.below hb43
 replace bxx1:=bxx1.below hb43
 replace bxx2:=bxx2.below hb43
 clear hb43 cbxx0_0 cbxx1_0 cbxx1_1 cbxx2_0
 obtain⟨Ag0Vars,ng0Vars,cg0Vars,Ag0Rows,ng0Rows,cg0Rows,rfl,_,_⟩:=rStream_rep.1 ((rStream_ok NB).toRep og0)
 have ltg0:=Lib.hid ((rStream_ok NB).lt og0)
 have fsg0:=frg0
 have HFg0:Hid (∀ k∈fg0,_<=k):=fsg0.ge
 try simp only [World.size_alloc]at HFg0
 have ndg0:=fsg0.nd;have NDg0:=Lib.hid ndg0;clear ndg0 fsg0
 have hA45:=(Below.refl w42.heap.size w42).alloc (Nat.le_refl _) (.cells #[.slice Ag0Vars ng0Vars cg0Vars,.slice Ag0Rows ng0Rows cg0Rows] 35)
 replace ow0:=(rStream_ok NB).ownB ow0 hA45
 replace ox0:=(rDatabase_ok NB).ownB ox0 hA45
 replace ox1:=(rQuery_ok NB).ownB ox1 hA45
 replace ox2:=(rPlan_ok NB).ownB ox2 hA45
 replace og0:=(rStream_ok NB).ownB og0 hA45
 replace hB:=hB.trans (hA45.mono hB.size)
 replace bxDb:=bxDb.below hA45
 replace bxQ:=bxQ.below hA45
 replace bxP:=bxP.below hA45
 replace bxw0:=bxw0.below hA45
 replace bxx0:=bxx0.below hA45
 replace bxx1:=bxx1.below hA45
 replace bxx2:=bxx2.below hA45
 have bxg0:=Bx.new w42 [.slice Ag0Vars ng0Vars cg0Vars,.slice Ag0Rows ng0Rows cg0Rows] 35
 clear hA45
 have hnei:∀ v:Int,(v != v)=false:=fun v=>by simp
 have hneb:∀ v:Bool,(v==v)=true:=fun v=>by simp
 have cbxw0_0:=bxw0 0 _ rfl
 have cbxw0_1:=bxw0 1 _ rfl
 have cbxg0_0:=bxg0 0 _ rfl
 have cbxg0_1:=bxg0 1 _ rfl
 go_wp2_with fail
 refine(eqStream_c _ _ ((runPlan xDb xQ xP).1) ((runPlan xDb xQ xP).1) _ ((rStream_ok NB).toRep og0) ((rStream_ok NB).toRep ow0)).mono ?_
 rintro e w46 ⟨rfl,hb47⟩
 have z48:=hb47.size
 try simp only [World.size_alloc]at z48
 have Hz48:=Lib.hid z48;clear z48
 replace ow0:=(rStream_ok NB).ownB ow0 hb47
 replace ox0:=(rDatabase_ok NB).ownB ox0 hb47
 replace ox1:=(rQuery_ok NB).ownB ox1 hb47
 replace ox2:=(rPlan_ok NB).ownB ox2 hb47
 replace og0:=(rStream_ok NB).ownB og0 hb47
 replace hB:=hB.trans (hb47.mono hB.size)
 replace bxDb:=bxDb.below hb47
 replace bxQ:=bxQ.below hb47
 replace bxP:=bxP.below hb47
 replace bxw0:=bxw0.below hb47
 replace bxx0:=bxx0.below hb47
 replace bxx1:=bxx1.below hb47
 replace bxx2:=bxx2.below hb47
 replace bxg0:=bxg0.below hb47
 clear hb47 cbxw0_0 cbxw0_1 cbxg0_0 cbxg0_1
 have hdr49:decide (((runPlan xDb xQ xP).1)=((runPlan xDb xQ xP).1))=true:=by simp
 go_wp2_with fail
 have SS50:∀ w',Below w46.heap.size w46 w'->(Below w46.heap.size w46 w'/\w'.cell? ⟨w.heap.size,0,none⟩=some (.slice ADbTables nDbTables cDbTables)/\w'.cell? ⟨w30.heap.size,0,none⟩=some (.slice Ax0Tables nx0Tables cx0Tables)):=fun w' hb=>⟨hb,bxDb.below hb 0 _ rfl,bxx0.below hb 0 _ rfl⟩
 have HSS50:=Lib.hid SS50;clear SS50
 have tok55:True:=trivial
 have tok59:True:=trivial
 go_region_held3 (fun w'=>Below w46.heap.size w46 w'/\w'.cell? ⟨w.heap.size,0,none⟩=some (.slice ADbTables nDbTables cDbTables)/\w'.cell? ⟨w30.heap.size,0,none⟩=some (.slice Ax0Tables nx0Tables cx0Tables)) (first|exact HSS50.out _ (Below.refl _ _).drew|exact HSS50.out _ (by assumption)) (first|(go_at_call 22;have _t:=tok55;refine(toDatabase_c _ xDb _ ((rDatabase_ok NB).keep sDb (cells_below (hB.trans (Below.mono ((Below.refl w46.heap.size w46).drew) hB.size))))).mono ?_;rintro e w52 ⟨csv51,fv51,rfl,ov51,frv51,hb53⟩;have hC54:Below w46.heap.size w46 w52:=Below.trans ((Below.refl w46.heap.size w46).drew) (hb53.mono ((Below.refl w46.heap.size w46).drew).size);have Rv51:=(rDatabase_ok NB).toRep ov51;clear tok55)|(go_at_call 27;have _t:=tok59;refine(eqDatabase_c _ _ xDb xDb _ ((rDatabase_ok NB).keep ((rDatabase_ok NB).toRep ox0) (cells_below (hC54))) Rv51).mono ?_;rintro e w56 ⟨rfl,hb57⟩;have hC58:Below w46.heap.size w46 w56:=Below.trans (hC54) (hb57.mono (hC54).size);clear tok59))
 have z60:=hC58.size
 try simp only [World.size_alloc]at z60
 have Hz60:=Lib.hid z60;clear z60
 replace ow0:=(rStream_ok NB).ownB ow0 hC58
 replace ox0:=(rDatabase_ok NB).ownB ox0 hC58
 replace ox1:=(rQuery_ok NB).ownB ox1 hC58
 replace ox2:=(rPlan_ok NB).ownB ox2 hC58
 replace og0:=(rStream_ok NB).ownB og0 hC58
 replace hB:=hB.trans (hC58.mono hB.size)
 replace bxDb:=bxDb.below hC58
 replace bxQ:=bxQ.below hC58
 replace bxP:=bxP.below hC58
 replace bxw0:=bxw0.below hC58
 replace bxx0:=bxx0.below hC58
 replace bxx1:=bxx1.below hC58
 replace bxx2:=bxx2.below hC58
 replace bxg0:=bxg0.below hC58
 clear HSS50 hC58
 have hdx0:decide (xDb=xDb)=true:=by simp
 go_wp2_with fail
 have SS61:∀ w',Below w56.heap.size w56 w'->(Below w56.heap.size w56 w'/\w'.cell? ⟨w.heap.size+1,0,none⟩=some (.int .i64 xQ.fVariableCount)/\w'.cell? ⟨w.heap.size+1,1,none⟩=some (.slice AQAtoms nQAtoms cQAtoms)/\w'.cell? ⟨w34.heap.size,0,none⟩=some (.int .i64 xQ.fVariableCount)/\w'.cell? ⟨w34.heap.size,1,none⟩=some (.slice Ax1Atoms nx1Atoms cx1Atoms)):=fun w' hb=>⟨hb,bxQ.below hb 0 _ rfl,bxQ.below hb 1 _ rfl,bxx1.below hb 0 _ rfl,bxx1.below hb 1 _ rfl⟩
 have HSS61:=Lib.hid SS61;clear SS61
 have tok66:True:=trivial
 have tok70:True:=trivial
 go_region_held3 (fun w'=>Below w56.heap.size w56 w'/\w'.cell? ⟨w.heap.size+1,0,none⟩=some (.int .i64 xQ.fVariableCount)/\w'.cell? ⟨w.heap.size+1,1,none⟩=some (.slice AQAtoms nQAtoms cQAtoms)/\w'.cell? ⟨w34.heap.size,0,none⟩=some (.int .i64 xQ.fVariableCount)/\w'.cell? ⟨w34.heap.size,1,none⟩=some (.slice Ax1Atoms nx1Atoms cx1Atoms)) (first|exact HSS61.out _ (Below.refl _ _).drew|exact HSS61.out _ (by assumption)) (first|(go_at_call 23;have _t:=tok66;refine(toQuery_c _ xQ _ ((rQuery_ok NB).keep sQ (cells_below (hB.trans (Below.mono ((Below.refl w56.heap.size w56).drew) hB.size))))).mono ?_;rintro e w63 ⟨csv62,fv62,rfl,ov62,frv62,hb64⟩;have hC65:Below w56.heap.size w56 w63:=Below.trans ((Below.refl w56.heap.size w56).drew) (hb64.mono ((Below.refl w56.heap.size w56).drew).size);have Rv62:=(rQuery_ok NB).toRep ov62;clear tok66)|(go_at_call 28;have _t:=tok70;refine(eqQuery_c _ _ xQ xQ _ ((rQuery_ok NB).keep ((rQuery_ok NB).toRep ox1) (cells_below (hC65))) Rv62).mono ?_;rintro e w67 ⟨rfl,hb68⟩;have hC69:Below w56.heap.size w56 w67:=Below.trans (hC65) (hb68.mono (hC65).size);clear tok70))
 have z71:=hC69.size
 try simp only [World.size_alloc]at z71
 have Hz71:=Lib.hid z71;clear z71
 replace ow0:=(rStream_ok NB).ownB ow0 hC69
 replace ox0:=(rDatabase_ok NB).ownB ox0 hC69
 replace ox1:=(rQuery_ok NB).ownB ox1 hC69
 replace ox2:=(rPlan_ok NB).ownB ox2 hC69
 replace og0:=(rStream_ok NB).ownB og0 hC69
 replace hB:=hB.trans (hC69.mono hB.size)
 replace bxDb:=bxDb.below hC69
 replace bxQ:=bxQ.below hC69
 replace bxP:=bxP.below hC69
 replace bxw0:=bxw0.below hC69
 replace bxx0:=bxx0.below hC69
 replace bxx1:=bxx1.below hC69
 replace bxx2:=bxx2.below hC69
 replace bxg0:=bxg0.below hC69
 clear HSS61 hC69
 have hdx1:decide (xQ=xQ)=true:=by simp
 go_wp2_with fail
 have SS72:∀ w',Below w67.heap.size w67 w'->(Below w67.heap.size w67 w'/\w'.cell? ⟨w.heap.size+1+1,0,none⟩=some (.slice APSteps nPSteps cPSteps)/\w'.cell? ⟨w38.heap.size,0,none⟩=some (.slice Ax2Steps nx2Steps cx2Steps)):=fun w' hb=>⟨hb,bxP.below hb 0 _ rfl,bxx2.below hb 0 _ rfl⟩
 have HSS72:=Lib.hid SS72;clear SS72
 have tok77:True:=trivial
 have tok81:True:=trivial
 go_region_held3 (fun w'=>Below w67.heap.size w67 w'/\w'.cell? ⟨w.heap.size+1+1,0,none⟩=some (.slice APSteps nPSteps cPSteps)/\w'.cell? ⟨w38.heap.size,0,none⟩=some (.slice Ax2Steps nx2Steps cx2Steps)) (first|exact HSS72.out _ (Below.refl _ _).drew|exact HSS72.out _ (by assumption)) (first|(go_at_call 24;have _t:=tok77;refine(toPlan_c _ xP _ ((rPlan_ok NB).keep sP (cells_below (hB.trans (Below.mono ((Below.refl w67.heap.size w67).drew) hB.size))))).mono ?_;rintro e w74 ⟨csv73,fv73,rfl,ov73,frv73,hb75⟩;have hC76:Below w67.heap.size w67 w74:=Below.trans ((Below.refl w67.heap.size w67).drew) (hb75.mono ((Below.refl w67.heap.size w67).drew).size);have Rv73:=(rPlan_ok NB).toRep ov73;clear tok77)|(go_at_call 29;have _t:=tok81;refine(eqPlan_c _ _ xP xP _ ((rPlan_ok NB).keep ((rPlan_ok NB).toRep ox2) (cells_below (hC76))) Rv73).mono ?_;rintro e w78 ⟨rfl,hb79⟩;have hC80:Below w67.heap.size w67 w78:=Below.trans (hC76) (hb79.mono (hC76).size);clear tok81))
 have z82:=hC80.size
 try simp only [World.size_alloc]at z82
 have Hz82:=Lib.hid z82;clear z82
 replace ow0:=(rStream_ok NB).ownB ow0 hC80
 replace ox0:=(rDatabase_ok NB).ownB ox0 hC80
 replace ox1:=(rQuery_ok NB).ownB ox1 hC80
 replace ox2:=(rPlan_ok NB).ownB ox2 hC80
 replace og0:=(rStream_ok NB).ownB og0 hC80
 replace hB:=hB.trans (hC80.mono hB.size)
 replace bxDb:=bxDb.below hC80
 replace bxQ:=bxQ.below hC80
 replace bxP:=bxP.below hC80
 replace bxw0:=bxw0.below hC80
 replace bxx0:=bxx0.below hC80
 replace bxx1:=bxx1.below hC80
 replace bxx2:=bxx2.below hC80
 replace bxg0:=bxg0.below hC80
 clear HSS72 hC80
 have hdx2:decide (xP=xP)=true:=by simp
 have hcbr:Hid ((cnt_Stream ((runPlan xDb xQ xP).1))<=1099511627776):=(by show _<=_;exact cnt_runPlan xDb xQ xP)
 have cbxx0_0:=bxx0 0 _ rfl
 go_wp2_with fail
 have hcbw83:(cnt_Database (xDb))<=1099511627776:=(by have e:=cntb_Database xDb;omega)
 refine(markDatabase_m _ (xDb) 1 _ fx0 ox0 NDx0.out (by omega) (by omega)).mono ?_
 rintro e w83 ⟨rfl,omw83,hc84⟩
 replace hB:=hB.trans (hc84.toBelow hB.size (fun k hk=>by have:=HFx0.out k hk;have:=Hz6.out;have:=Hz10.out;have:=Hz14.out;have:=Hz29.out;have:=GGw0.out;have:=Hz32.out;have:=Hz36.out;have:=Hz40.out;have:=Hz44.out;have:=Hz48.out;have:=Hz60.out;have:=Hz71.out;have:=Hz82.out;omega))
 replace bxDb:=bxDb.chg hc84 (fun hk=>by have:=HFx0.out _ hk;have:=ltx0.out _ hk;have:=Hz6.out;have:=Hz10.out;have:=Hz14.out;have:=Hz29.out;have:=GGw0.out;have:=Hz32.out;have:=Hz36.out;have:=Hz40.out;have:=Hz44.out;have:=Hz48.out;have:=Hz60.out;have:=Hz71.out;have:=Hz82.out;omega)
 replace bxQ:=bxQ.chg hc84 (fun hk=>by have:=HFx0.out _ hk;have:=ltx0.out _ hk;have:=Hz6.out;have:=Hz10.out;have:=Hz14.out;have:=Hz29.out;have:=GGw0.out;have:=Hz32.out;have:=Hz36.out;have:=Hz40.out;have:=Hz44.out;have:=Hz48.out;have:=Hz60.out;have:=Hz71.out;have:=Hz82.out;omega)
 replace bxP:=bxP.chg hc84 (fun hk=>by have:=HFx0.out _ hk;have:=ltx0.out _ hk;have:=Hz6.out;have:=Hz10.out;have:=Hz14.out;have:=Hz29.out;have:=GGw0.out;have:=Hz32.out;have:=Hz36.out;have:=Hz40.out;have:=Hz44.out;have:=Hz48.out;have:=Hz60.out;have:=Hz71.out;have:=Hz82.out;omega)
 replace bxw0:=bxw0.chg hc84 (fun hk=>by have:=HFx0.out _ hk;have:=ltx0.out _ hk;have:=Hz6.out;have:=Hz10.out;have:=Hz14.out;have:=Hz29.out;have:=GGw0.out;have:=Hz32.out;have:=Hz36.out;have:=Hz40.out;have:=Hz44.out;have:=Hz48.out;have:=Hz60.out;have:=Hz71.out;have:=Hz82.out;omega)
 replace bxx0:=bxx0.chg hc84 (fun hk=>by have:=HFx0.out _ hk;have:=ltx0.out _ hk;have:=Hz6.out;have:=Hz10.out;have:=Hz14.out;have:=Hz29.out;have:=GGw0.out;have:=Hz32.out;have:=Hz36.out;have:=Hz40.out;have:=Hz44.out;have:=Hz48.out;have:=Hz60.out;have:=Hz71.out;have:=Hz82.out;omega)
 replace bxx1:=bxx1.chg hc84 (fun hk=>by have:=HFx0.out _ hk;have:=ltx0.out _ hk;have:=Hz6.out;have:=Hz10.out;have:=Hz14.out;have:=Hz29.out;have:=GGw0.out;have:=Hz32.out;have:=Hz36.out;have:=Hz40.out;have:=Hz44.out;have:=Hz48.out;have:=Hz60.out;have:=Hz71.out;have:=Hz82.out;omega)
 replace bxx2:=bxx2.chg hc84 (fun hk=>by have:=HFx0.out _ hk;have:=ltx0.out _ hk;have:=Hz6.out;have:=Hz10.out;have:=Hz14.out;have:=Hz29.out;have:=GGw0.out;have:=Hz32.out;have:=Hz36.out;have:=Hz40.out;have:=Hz44.out;have:=Hz48.out;have:=Hz60.out;have:=Hz71.out;have:=Hz82.out;omega)
 replace bxg0:=bxg0.chg hc84 (fun hk=>by have:=HFx0.out _ hk;have:=ltx0.out _ hk;have:=Hz6.out;have:=Hz10.out;have:=Hz14.out;have:=Hz29.out;have:=GGw0.out;have:=Hz32.out;have:=Hz36.out;have:=Hz40.out;have:=Hz44.out;have:=Hz48.out;have:=Hz60.out;have:=Hz71.out;have:=Hz82.out;omega)
 replace ow0:=(rStream_ok NB).ownC ow0 hc84 (fun k hk hk'=>by have:=HFw0.out k hk;have:=ltw0.out k hk;have:=HFx0.out k hk';have:=ltx0.out k hk';have:=Hz6.out;have:=Hz10.out;have:=Hz14.out;have:=Hz29.out;have:=GGw0.out;have:=Hz32.out;have:=Hz36.out;have:=Hz40.out;have:=Hz44.out;have:=Hz48.out;have:=Hz60.out;have:=Hz71.out;have:=Hz82.out;omega)
 replace ox1:=(rQuery_ok NB).ownC ox1 hc84 (fun k hk hk'=>by have:=HFx1.out k hk;have:=ltx1.out k hk;have:=HFx0.out k hk';have:=ltx0.out k hk';have:=Hz6.out;have:=Hz10.out;have:=Hz14.out;have:=Hz29.out;have:=GGw0.out;have:=Hz32.out;have:=Hz36.out;have:=Hz40.out;have:=Hz44.out;have:=Hz48.out;have:=Hz60.out;have:=Hz71.out;have:=Hz82.out;omega)
 replace ox2:=(rPlan_ok NB).ownC ox2 hc84 (fun k hk hk'=>by have:=HFx2.out k hk;have:=ltx2.out k hk;have:=HFx0.out k hk';have:=ltx0.out k hk';have:=Hz6.out;have:=Hz10.out;have:=Hz14.out;have:=Hz29.out;have:=GGw0.out;have:=Hz32.out;have:=Hz36.out;have:=Hz40.out;have:=Hz44.out;have:=Hz48.out;have:=Hz60.out;have:=Hz71.out;have:=Hz82.out;omega)
 replace og0:=(rStream_ok NB).ownC og0 hc84 (fun k hk hk'=>by have:=HFg0.out k hk;have:=ltg0.out k hk;have:=HFx0.out k hk';have:=ltx0.out k hk';have:=Hz6.out;have:=Hz10.out;have:=Hz14.out;have:=Hz29.out;have:=GGw0.out;have:=Hz32.out;have:=Hz36.out;have:=Hz40.out;have:=Hz44.out;have:=Hz48.out;have:=Hz60.out;have:=Hz71.out;have:=Hz82.out;omega)
 clear ox0;have ox0:=omw83;clear omw83
 have Hz85:=Lib.hid hc84.size
 try simp only [World.size_alloc]at Hz85
 clear hc84 cbxx0_0
 obtain⟨kk86,hkk86⟩:∃ q:Int,q=1+((cnt_Database (xDb)):Nat):=⟨_,rfl⟩
 rw [<- hkk86]
 have pkk86:0<=kk86:=by omega
 have ukk86:kk86<=2199023255552:=by omega
 have Hkkk86:=Lib.hid hkk86;clear hkk86 hcbw83
 have cbxx1_0:=bxx1 0 _ rfl
 have cbxx1_1:=bxx1 1 _ rfl
 go_wp2_with fail
 have hcbw87:(cnt_Query (xQ))<=1099511627776:=(by have e:=cntb_Query xQ;omega)
 refine(markQuery_m _ (xQ) kk86 _ fx1 ox1 NDx1.out (by omega) (by omega)).mono ?_
 rintro e w87 ⟨rfl,omw87,hc88⟩
 replace hB:=hB.trans (hc88.toBelow hB.size (fun k hk=>by have:=HFx1.out k hk;have:=Hz6.out;have:=Hz10.out;have:=Hz14.out;have:=Hz29.out;have:=GGw0.out;have:=Hz32.out;have:=Hz36.out;have:=Hz40.out;have:=Hz44.out;have:=Hz48.out;have:=Hz60.out;have:=Hz71.out;have:=Hz82.out;have:=Hz85.out;omega))
 replace bxDb:=bxDb.chg hc88 (fun hk=>by have:=HFx1.out _ hk;have:=ltx1.out _ hk;have:=Hz6.out;have:=Hz10.out;have:=Hz14.out;have:=Hz29.out;have:=GGw0.out;have:=Hz32.out;have:=Hz36.out;have:=Hz40.out;have:=Hz44.out;have:=Hz48.out;have:=Hz60.out;have:=Hz71.out;have:=Hz82.out;have:=Hz85.out;omega)
 replace bxQ:=bxQ.chg hc88 (fun hk=>by have:=HFx1.out _ hk;have:=ltx1.out _ hk;have:=Hz6.out;have:=Hz10.out;have:=Hz14.out;have:=Hz29.out;have:=GGw0.out;have:=Hz32.out;have:=Hz36.out;have:=Hz40.out;have:=Hz44.out;have:=Hz48.out;have:=Hz60.out;have:=Hz71.out;have:=Hz82.out;have:=Hz85.out;omega)
 replace bxP:=bxP.chg hc88 (fun hk=>by have:=HFx1.out _ hk;have:=ltx1.out _ hk;have:=Hz6.out;have:=Hz10.out;have:=Hz14.out;have:=Hz29.out;have:=GGw0.out;have:=Hz32.out;have:=Hz36.out;have:=Hz40.out;have:=Hz44.out;have:=Hz48.out;have:=Hz60.out;have:=Hz71.out;have:=Hz82.out;have:=Hz85.out;omega)
 replace bxw0:=bxw0.chg hc88 (fun hk=>by have:=HFx1.out _ hk;have:=ltx1.out _ hk;have:=Hz6.out;have:=Hz10.out;have:=Hz14.out;have:=Hz29.out;have:=GGw0.out;have:=Hz32.out;have:=Hz36.out;have:=Hz40.out;have:=Hz44.out;have:=Hz48.out;have:=Hz60.out;have:=Hz71.out;have:=Hz82.out;have:=Hz85.out;omega)
 replace bxx0:=bxx0.chg hc88 (fun hk=>by have:=HFx1.out _ hk;have:=ltx1.out _ hk;have:=Hz6.out;have:=Hz10.out;have:=Hz14.out;have:=Hz29.out;have:=GGw0.out;have:=Hz32.out;have:=Hz36.out;have:=Hz40.out;have:=Hz44.out;have:=Hz48.out;have:=Hz60.out;have:=Hz71.out;have:=Hz82.out;have:=Hz85.out;omega)
 replace bxx1:=bxx1.chg hc88 (fun hk=>by have:=HFx1.out _ hk;have:=ltx1.out _ hk;have:=Hz6.out;have:=Hz10.out;have:=Hz14.out;have:=Hz29.out;have:=GGw0.out;have:=Hz32.out;have:=Hz36.out;have:=Hz40.out;have:=Hz44.out;have:=Hz48.out;have:=Hz60.out;have:=Hz71.out;have:=Hz82.out;have:=Hz85.out;omega)
 replace bxx2:=bxx2.chg hc88 (fun hk=>by have:=HFx1.out _ hk;have:=ltx1.out _ hk;have:=Hz6.out;have:=Hz10.out;have:=Hz14.out;have:=Hz29.out;have:=GGw0.out;have:=Hz32.out;have:=Hz36.out;have:=Hz40.out;have:=Hz44.out;have:=Hz48.out;have:=Hz60.out;have:=Hz71.out;have:=Hz82.out;have:=Hz85.out;omega)
 replace bxg0:=bxg0.chg hc88 (fun hk=>by have:=HFx1.out _ hk;have:=ltx1.out _ hk;have:=Hz6.out;have:=Hz10.out;have:=Hz14.out;have:=Hz29.out;have:=GGw0.out;have:=Hz32.out;have:=Hz36.out;have:=Hz40.out;have:=Hz44.out;have:=Hz48.out;have:=Hz60.out;have:=Hz71.out;have:=Hz82.out;have:=Hz85.out;omega)
 replace ow0:=(rStream_ok NB).ownC ow0 hc88 (fun k hk hk'=>by have:=HFw0.out k hk;have:=ltw0.out k hk;have:=HFx1.out k hk';have:=ltx1.out k hk';have:=Hz6.out;have:=Hz10.out;have:=Hz14.out;have:=Hz29.out;have:=GGw0.out;have:=Hz32.out;have:=Hz36.out;have:=Hz40.out;have:=Hz44.out;have:=Hz48.out;have:=Hz60.out;have:=Hz71.out;have:=Hz82.out;have:=Hz85.out;omega)
 replace ox0:=(rDatabase_ok NB).ownC ox0 hc88 (fun k hk hk'=>by have:=HFx0.out k hk;have:=ltx0.out k hk;have:=HFx1.out k hk';have:=ltx1.out k hk';have:=Hz6.out;have:=Hz10.out;have:=Hz14.out;have:=Hz29.out;have:=GGw0.out;have:=Hz32.out;have:=Hz36.out;have:=Hz40.out;have:=Hz44.out;have:=Hz48.out;have:=Hz60.out;have:=Hz71.out;have:=Hz82.out;have:=Hz85.out;omega)
 replace ox2:=(rPlan_ok NB).ownC ox2 hc88 (fun k hk hk'=>by have:=HFx2.out k hk;have:=ltx2.out k hk;have:=HFx1.out k hk';have:=ltx1.out k hk';have:=Hz6.out;have:=Hz10.out;have:=Hz14.out;have:=Hz29.out;have:=GGw0.out;have:=Hz32.out;have:=Hz36.out;have:=Hz40.out;have:=Hz44.out;have:=Hz48.out;have:=Hz60.out;have:=Hz71.out;have:=Hz82.out;have:=Hz85.out;omega)
 replace og0:=(rStream_ok NB).ownC og0 hc88 (fun k hk hk'=>by have:=HFg0.out k hk;have:=ltg0.out k hk;have:=HFx1.out k hk';have:=ltx1.out k hk';have:=Hz6.out;have:=Hz10.out;have:=Hz14.out;have:=Hz29.out;have:=GGw0.out;have:=Hz32.out;have:=Hz36.out;have:=Hz40.out;have:=Hz44.out;have:=Hz48.out;have:=Hz60.out;have:=Hz71.out;have:=Hz82.out;have:=Hz85.out;omega)
 clear ox1;have ox1:=omw87;clear omw87
 have Hz89:=Lib.hid hc88.size
 try simp only [World.size_alloc]at Hz89
 clear hc88 cbxx1_0 cbxx1_1
 obtain⟨kk90,hkk90⟩:∃ q:Int,q=kk86+((cnt_Query (xQ)):Nat):=⟨_,rfl⟩
 rw [<- hkk90]
 have pkk90:0<=kk90:=by omega
 have ukk90:kk90<=4398046511104:=by omega
 have Hkkk90:=Lib.hid hkk90;clear hkk90 hcbw87
 have cbxx2_0:=bxx2 0 _ rfl
 go_wp2_with fail
 have hcbw91:(cnt_Plan (xP))<=1099511627776:=(by have e:=cntb_Plan xP;omega)
 refine(markPlan_m _ (xP) kk90 _ fx2 ox2 NDx2.out (by omega) (by omega)).mono ?_
 rintro e w91 ⟨rfl,omw91,hc92⟩
 replace hB:=hB.trans (hc92.toBelow hB.size (fun k hk=>by have:=HFx2.out k hk;have:=Hz6.out;have:=Hz10.out;have:=Hz14.out;have:=Hz29.out;have:=GGw0.out;have:=Hz32.out;have:=Hz36.out;have:=Hz40.out;have:=Hz44.out;have:=Hz48.out;have:=Hz60.out;have:=Hz71.out;have:=Hz82.out;have:=Hz85.out;have:=Hz89.out;omega))
 replace bxDb:=bxDb.chg hc92 (fun hk=>by have:=HFx2.out _ hk;have:=ltx2.out _ hk;have:=Hz6.out;have:=Hz10.out;have:=Hz14.out;have:=Hz29.out;have:=GGw0.out;have:=Hz32.out;have:=Hz36.out;have:=Hz40.out;have:=Hz44.out;have:=Hz48.out;have:=Hz60.out;have:=Hz71.out;have:=Hz82.out;have:=Hz85.out;have:=Hz89.out;omega)
 replace bxQ:=bxQ.chg hc92 (fun hk=>by have:=HFx2.out _ hk;have:=ltx2.out _ hk;have:=Hz6.out;have:=Hz10.out;have:=Hz14.out;have:=Hz29.out;have:=GGw0.out;have:=Hz32.out;have:=Hz36.out;have:=Hz40.out;have:=Hz44.out;have:=Hz48.out;have:=Hz60.out;have:=Hz71.out;have:=Hz82.out;have:=Hz85.out;have:=Hz89.out;omega)
 replace bxP:=bxP.chg hc92 (fun hk=>by have:=HFx2.out _ hk;have:=ltx2.out _ hk;have:=Hz6.out;have:=Hz10.out;have:=Hz14.out;have:=Hz29.out;have:=GGw0.out;have:=Hz32.out;have:=Hz36.out;have:=Hz40.out;have:=Hz44.out;have:=Hz48.out;have:=Hz60.out;have:=Hz71.out;have:=Hz82.out;have:=Hz85.out;have:=Hz89.out;omega)
 replace bxw0:=bxw0.chg hc92 (fun hk=>by have:=HFx2.out _ hk;have:=ltx2.out _ hk;have:=Hz6.out;have:=Hz10.out;have:=Hz14.out;have:=Hz29.out;have:=GGw0.out;have:=Hz32.out;have:=Hz36.out;have:=Hz40.out;have:=Hz44.out;have:=Hz48.out;have:=Hz60.out;have:=Hz71.out;have:=Hz82.out;have:=Hz85.out;have:=Hz89.out;omega)
 replace bxx0:=bxx0.chg hc92 (fun hk=>by have:=HFx2.out _ hk;have:=ltx2.out _ hk;have:=Hz6.out;have:=Hz10.out;have:=Hz14.out;have:=Hz29.out;have:=GGw0.out;have:=Hz32.out;have:=Hz36.out;have:=Hz40.out;have:=Hz44.out;have:=Hz48.out;have:=Hz60.out;have:=Hz71.out;have:=Hz82.out;have:=Hz85.out;have:=Hz89.out;omega)
 replace bxx1:=bxx1.chg hc92 (fun hk=>by have:=HFx2.out _ hk;have:=ltx2.out _ hk;have:=Hz6.out;have:=Hz10.out;have:=Hz14.out;have:=Hz29.out;have:=GGw0.out;have:=Hz32.out;have:=Hz36.out;have:=Hz40.out;have:=Hz44.out;have:=Hz48.out;have:=Hz60.out;have:=Hz71.out;have:=Hz82.out;have:=Hz85.out;have:=Hz89.out;omega)
 replace bxx2:=bxx2.chg hc92 (fun hk=>by have:=HFx2.out _ hk;have:=ltx2.out _ hk;have:=Hz6.out;have:=Hz10.out;have:=Hz14.out;have:=Hz29.out;have:=GGw0.out;have:=Hz32.out;have:=Hz36.out;have:=Hz40.out;have:=Hz44.out;have:=Hz48.out;have:=Hz60.out;have:=Hz71.out;have:=Hz82.out;have:=Hz85.out;have:=Hz89.out;omega)
 replace bxg0:=bxg0.chg hc92 (fun hk=>by have:=HFx2.out _ hk;have:=ltx2.out _ hk;have:=Hz6.out;have:=Hz10.out;have:=Hz14.out;have:=Hz29.out;have:=GGw0.out;have:=Hz32.out;have:=Hz36.out;have:=Hz40.out;have:=Hz44.out;have:=Hz48.out;have:=Hz60.out;have:=Hz71.out;have:=Hz82.out;have:=Hz85.out;have:=Hz89.out;omega)
 replace ow0:=(rStream_ok NB).ownC ow0 hc92 (fun k hk hk'=>by have:=HFw0.out k hk;have:=ltw0.out k hk;have:=HFx2.out k hk';have:=ltx2.out k hk';have:=Hz6.out;have:=Hz10.out;have:=Hz14.out;have:=Hz29.out;have:=GGw0.out;have:=Hz32.out;have:=Hz36.out;have:=Hz40.out;have:=Hz44.out;have:=Hz48.out;have:=Hz60.out;have:=Hz71.out;have:=Hz82.out;have:=Hz85.out;have:=Hz89.out;omega)
 replace ox0:=(rDatabase_ok NB).ownC ox0 hc92 (fun k hk hk'=>by have:=HFx0.out k hk;have:=ltx0.out k hk;have:=HFx2.out k hk';have:=ltx2.out k hk';have:=Hz6.out;have:=Hz10.out;have:=Hz14.out;have:=Hz29.out;have:=GGw0.out;have:=Hz32.out;have:=Hz36.out;have:=Hz40.out;have:=Hz44.out;have:=Hz48.out;have:=Hz60.out;have:=Hz71.out;have:=Hz82.out;have:=Hz85.out;have:=Hz89.out;omega)
 replace ox1:=(rQuery_ok NB).ownC ox1 hc92 (fun k hk hk'=>by have:=HFx1.out k hk;have:=ltx1.out k hk;have:=HFx2.out k hk';have:=ltx2.out k hk';have:=Hz6.out;have:=Hz10.out;have:=Hz14.out;have:=Hz29.out;have:=GGw0.out;have:=Hz32.out;have:=Hz36.out;have:=Hz40.out;have:=Hz44.out;have:=Hz48.out;have:=Hz60.out;have:=Hz71.out;have:=Hz82.out;have:=Hz85.out;have:=Hz89.out;omega)
 replace og0:=(rStream_ok NB).ownC og0 hc92 (fun k hk hk'=>by have:=HFg0.out k hk;have:=ltg0.out k hk;have:=HFx2.out k hk';have:=ltx2.out k hk';have:=Hz6.out;have:=Hz10.out;have:=Hz14.out;have:=Hz29.out;have:=GGw0.out;have:=Hz32.out;have:=Hz36.out;have:=Hz40.out;have:=Hz44.out;have:=Hz48.out;have:=Hz60.out;have:=Hz71.out;have:=Hz82.out;have:=Hz85.out;have:=Hz89.out;omega)
 clear ox2;have ox2:=omw91;clear omw91
 have Hz93:=Lib.hid hc92.size
 try simp only [World.size_alloc]at Hz93
 clear hc92 cbxx2_0
 obtain⟨kk94,hkk94⟩:∃ q:Int,q=kk90+((cnt_Plan (xP)):Nat):=⟨_,rfl⟩
 rw [<- hkk94]
 have pkk94:0<=kk94:=by omega
 have ukk94:kk94<=6597069766656:=by omega
 have Hkkk94:=Lib.hid hkk94;clear hkk94 hcbw91
 have cbxw0_0:=bxw0 0 _ rfl
 have cbxw0_1:=bxw0 1 _ rfl
 have cbxg0_0:=bxg0 0 _ rfl
 have cbxg0_1:=bxg0 1 _ rfl
 go_wp2_with fail
 refine(eqStream_c _ _ ((runPlan xDb xQ xP).1) ((runPlan xDb xQ xP).1) _ ((rStream_ok NB).toRep og0) ((rStream_ok NB).toRep ow0)).mono ?_
 rintro e w95 ⟨rfl,hb96⟩
 have z97:=hb96.size
 try simp only [World.size_alloc]at z97
 have Hz97:=Lib.hid z97;clear z97
 replace ow0:=(rStream_ok NB).ownB ow0 hb96
 replace ox0:=(rDatabase_ok NB).ownB ox0 hb96
 replace ox1:=(rQuery_ok NB).ownB ox1 hb96
 replace ox2:=(rPlan_ok NB).ownB ox2 hb96
 replace og0:=(rStream_ok NB).ownB og0 hb96
 replace hB:=hB.trans (hb96.mono hB.size)
 replace bxDb:=bxDb.below hb96
 replace bxQ:=bxQ.below hb96
 replace bxP:=bxP.below hb96
 replace bxw0:=bxw0.below hb96
 replace bxx0:=bxx0.below hb96
 replace bxx1:=bxx1.below hb96
 replace bxx2:=bxx2.below hb96
 replace bxg0:=bxg0.below hb96
 clear hb96 cbxw0_0 cbxw0_1 cbxg0_0 cbxg0_1
 have hdr98:decide (((runPlan xDb xQ xP).1)=((runPlan xDb xQ xP).1))=true:=by simp
 have cbxg0_0:=bxg0 0 _ rfl
 have cbxg0_1:=bxg0 1 _ rfl
 go_wp2_with fail
 have hcbw99:(cnt_Stream ((runPlan xDb xQ xP).1))<=1099511627776:=hcbr.out
 refine(markStream_m _ ((runPlan xDb xQ xP).1) 1 _ fg0 og0 NDg0.out (by omega) (by omega)).mono ?_
 rintro e w99 ⟨rfl,omw99,hc100⟩
 replace hB:=hB.trans (hc100.toBelow hB.size (fun k hk=>by have:=HFg0.out k hk;have:=Hz6.out;have:=Hz10.out;have:=Hz14.out;have:=Hz29.out;have:=GGw0.out;have:=Hz32.out;have:=Hz36.out;have:=Hz40.out;have:=Hz44.out;have:=Hz48.out;have:=Hz60.out;have:=Hz71.out;have:=Hz82.out;have:=Hz85.out;have:=Hz89.out;have:=Hz93.out;have:=Hz97.out;omega))
 replace bxDb:=bxDb.chg hc100 (fun hk=>by have:=HFg0.out _ hk;have:=ltg0.out _ hk;have:=Hz6.out;have:=Hz10.out;have:=Hz14.out;have:=Hz29.out;have:=GGw0.out;have:=Hz32.out;have:=Hz36.out;have:=Hz40.out;have:=Hz44.out;have:=Hz48.out;have:=Hz60.out;have:=Hz71.out;have:=Hz82.out;have:=Hz85.out;have:=Hz89.out;have:=Hz93.out;have:=Hz97.out;omega)
 replace bxQ:=bxQ.chg hc100 (fun hk=>by have:=HFg0.out _ hk;have:=ltg0.out _ hk;have:=Hz6.out;have:=Hz10.out;have:=Hz14.out;have:=Hz29.out;have:=GGw0.out;have:=Hz32.out;have:=Hz36.out;have:=Hz40.out;have:=Hz44.out;have:=Hz48.out;have:=Hz60.out;have:=Hz71.out;have:=Hz82.out;have:=Hz85.out;have:=Hz89.out;have:=Hz93.out;have:=Hz97.out;omega)
 replace bxP:=bxP.chg hc100 (fun hk=>by have:=HFg0.out _ hk;have:=ltg0.out _ hk;have:=Hz6.out;have:=Hz10.out;have:=Hz14.out;have:=Hz29.out;have:=GGw0.out;have:=Hz32.out;have:=Hz36.out;have:=Hz40.out;have:=Hz44.out;have:=Hz48.out;have:=Hz60.out;have:=Hz71.out;have:=Hz82.out;have:=Hz85.out;have:=Hz89.out;have:=Hz93.out;have:=Hz97.out;omega)
 replace bxw0:=bxw0.chg hc100 (fun hk=>by have:=HFg0.out _ hk;have:=ltg0.out _ hk;have:=Hz6.out;have:=Hz10.out;have:=Hz14.out;have:=Hz29.out;have:=GGw0.out;have:=Hz32.out;have:=Hz36.out;have:=Hz40.out;have:=Hz44.out;have:=Hz48.out;have:=Hz60.out;have:=Hz71.out;have:=Hz82.out;have:=Hz85.out;have:=Hz89.out;have:=Hz93.out;have:=Hz97.out;omega)
 replace bxx0:=bxx0.chg hc100 (fun hk=>by have:=HFg0.out _ hk;have:=ltg0.out _ hk;have:=Hz6.out;have:=Hz10.out;have:=Hz14.out;have:=Hz29.out;have:=GGw0.out;have:=Hz32.out;have:=Hz36.out;have:=Hz40.out;have:=Hz44.out;have:=Hz48.out;have:=Hz60.out;have:=Hz71.out;have:=Hz82.out;have:=Hz85.out;have:=Hz89.out;have:=Hz93.out;have:=Hz97.out;omega)
 replace bxx1:=bxx1.chg hc100 (fun hk=>by have:=HFg0.out _ hk;have:=ltg0.out _ hk;have:=Hz6.out;have:=Hz10.out;have:=Hz14.out;have:=Hz29.out;have:=GGw0.out;have:=Hz32.out;have:=Hz36.out;have:=Hz40.out;have:=Hz44.out;have:=Hz48.out;have:=Hz60.out;have:=Hz71.out;have:=Hz82.out;have:=Hz85.out;have:=Hz89.out;have:=Hz93.out;have:=Hz97.out;omega)
 replace bxx2:=bxx2.chg hc100 (fun hk=>by have:=HFg0.out _ hk;have:=ltg0.out _ hk;have:=Hz6.out;have:=Hz10.out;have:=Hz14.out;have:=Hz29.out;have:=GGw0.out;have:=Hz32.out;have:=Hz36.out;have:=Hz40.out;have:=Hz44.out;have:=Hz48.out;have:=Hz60.out;have:=Hz71.out;have:=Hz82.out;have:=Hz85.out;have:=Hz89.out;have:=Hz93.out;have:=Hz97.out;omega)
 replace bxg0:=bxg0.chg hc100 (fun hk=>by have:=HFg0.out _ hk;have:=ltg0.out _ hk;have:=Hz6.out;have:=Hz10.out;have:=Hz14.out;have:=Hz29.out;have:=GGw0.out;have:=Hz32.out;have:=Hz36.out;have:=Hz40.out;have:=Hz44.out;have:=Hz48.out;have:=Hz60.out;have:=Hz71.out;have:=Hz82.out;have:=Hz85.out;have:=Hz89.out;have:=Hz93.out;have:=Hz97.out;omega)
 replace ow0:=(rStream_ok NB).ownC ow0 hc100 (fun k hk hk'=>by have:=HFw0.out k hk;have:=ltw0.out k hk;have:=HFg0.out k hk';have:=ltg0.out k hk';have:=Hz6.out;have:=Hz10.out;have:=Hz14.out;have:=Hz29.out;have:=GGw0.out;have:=Hz32.out;have:=Hz36.out;have:=Hz40.out;have:=Hz44.out;have:=Hz48.out;have:=Hz60.out;have:=Hz71.out;have:=Hz82.out;have:=Hz85.out;have:=Hz89.out;have:=Hz93.out;have:=Hz97.out;omega)
 replace ox0:=(rDatabase_ok NB).ownC ox0 hc100 (fun k hk hk'=>by have:=HFx0.out k hk;have:=ltx0.out k hk;have:=HFg0.out k hk';have:=ltg0.out k hk';have:=Hz6.out;have:=Hz10.out;have:=Hz14.out;have:=Hz29.out;have:=GGw0.out;have:=Hz32.out;have:=Hz36.out;have:=Hz40.out;have:=Hz44.out;have:=Hz48.out;have:=Hz60.out;have:=Hz71.out;have:=Hz82.out;have:=Hz85.out;have:=Hz89.out;have:=Hz93.out;have:=Hz97.out;omega)
 replace ox1:=(rQuery_ok NB).ownC ox1 hc100 (fun k hk hk'=>by have:=HFx1.out k hk;have:=ltx1.out k hk;have:=HFg0.out k hk';have:=ltg0.out k hk';have:=Hz6.out;have:=Hz10.out;have:=Hz14.out;have:=Hz29.out;have:=GGw0.out;have:=Hz32.out;have:=Hz36.out;have:=Hz40.out;have:=Hz44.out;have:=Hz48.out;have:=Hz60.out;have:=Hz71.out;have:=Hz82.out;have:=Hz85.out;have:=Hz89.out;have:=Hz93.out;have:=Hz97.out;omega)
 replace ox2:=(rPlan_ok NB).ownC ox2 hc100 (fun k hk hk'=>by have:=HFx2.out k hk;have:=ltx2.out k hk;have:=HFg0.out k hk';have:=ltg0.out k hk';have:=Hz6.out;have:=Hz10.out;have:=Hz14.out;have:=Hz29.out;have:=GGw0.out;have:=Hz32.out;have:=Hz36.out;have:=Hz40.out;have:=Hz44.out;have:=Hz48.out;have:=Hz60.out;have:=Hz71.out;have:=Hz82.out;have:=Hz85.out;have:=Hz89.out;have:=Hz93.out;have:=Hz97.out;omega)
 clear og0;have og0:=omw99;clear omw99
 have Hz101:=Lib.hid hc100.size
 try simp only [World.size_alloc]at Hz101
 clear hc100 cbxg0_0 cbxg0_1
 obtain⟨kk102,hkk102⟩:∃ q:Int,q=1+((cnt_Stream ((runPlan xDb xQ xP).1)):Nat):=⟨_,rfl⟩
 rw [<- hkk102]
 have pkk102:0<=kk102:=by omega
 have ukk102:kk102<=2199023255552:=by omega
 have Hkkk102:=Lib.hid hkk102;clear hkk102 hcbw99
 have cbxg0_0:=bxg0 0 _ rfl
 have cbxg0_1:=bxg0 1 _ rfl
 go_wp2_with fail
 have hcbw103:(cnt_Stream ((runPlan xDb xQ xP).1))<=1099511627776:=hcbr.out
 refine(heldStream_m _ ((runPlan xDb xQ xP).1) 1 _ ((rStream_ok NB).toRep og0) (by omega) (by omega)).mono ?_
 rintro e w103 ⟨rfl,hb104⟩
 have z105:=hb104.size
 try simp only [World.size_alloc]at z105
 have Hz105:=Lib.hid z105;clear z105
 replace ow0:=(rStream_ok NB).ownB ow0 hb104
 replace ox0:=(rDatabase_ok NB).ownB ox0 hb104
 replace ox1:=(rQuery_ok NB).ownB ox1 hb104
 replace ox2:=(rPlan_ok NB).ownB ox2 hb104
 replace og0:=(rStream_ok NB).ownB og0 hb104
 replace hB:=hB.trans (hb104.mono hB.size)
 replace bxDb:=bxDb.below hb104
 replace bxQ:=bxQ.below hb104
 replace bxP:=bxP.below hb104
 replace bxw0:=bxw0.below hb104
 replace bxx0:=bxx0.below hb104
 replace bxx1:=bxx1.below hb104
 replace bxx2:=bxx2.below hb104
 replace bxg0:=bxg0.below hb104
 clear hb104 hcbw103 cbxg0_0 cbxg0_1
 rw [<- Hkkk102.out]
 go_upto_region 38 with fail
 have SS106:∀ w',Below w103.heap.size w103 w'->(w'.cell? ⟨w.heap.size,0,none⟩=some (.slice ADbTables nDbTables cDbTables)/\w'.cell? ⟨w.heap.size+1,0,none⟩=some (.int .i64 xQ.fVariableCount)/\w'.cell? ⟨w.heap.size+1,1,none⟩=some (.slice AQAtoms nQAtoms cQAtoms)/\w'.cell? ⟨w.heap.size+1+1,0,none⟩=some (.slice APSteps nPSteps cPSteps)):=fun w' hb=>⟨bxDb.below hb 0 _ rfl,bxQ.below hb 0 _ rfl,bxQ.below hb 1 _ rfl,bxP.below hb 0 _ rfl⟩
 have HSS106:=Lib.hid SS106;clear SS106
 go_cut [18,19] (fun s18 s19 wx=>∃ (cs:List Value) (f:List Nat) (g:Nat),s18=.pointer (some ⟨g,0,none⟩)/\s19=.bool (runPlan xDb xQ xP).2/\Left (rStream NB) 35 ((runPlan xDb xQ xP).1) w103 g f cs wx)
 case first =>
  have hd13:=(Below.refl w103.heap.size w103).drew
  refine hbg HSS106.out hd13 (fun hHeld=>?_)
  refine tka 0 116 hHeld ?_;simp only [putS]
  refine tka 2 118 hHeld ?_;simp only [putS]
  refine tka 4 120 hHeld ?_;simp only [putS]
  refine rd2 1 (some 117) 10 (some 18) (fun K hK=>?_) fun K hK=>?_
  all_goals clear hHeld
  ·go_simp
   refine(toDatabase_c _ xDb _ ((rDatabase_ok NB).keep sDb (cells_below (Below.link hB hd13)))).mono ?_
   rintro e w108 ⟨csv107,fv107,rfl,ov107,frv107,hb109⟩
   have Rv107:=(rDatabase_ok NB).toRep ov107
   have hC0:Below w103.heap.size w103 w108:=Below.link hd13 hb109
   go_wp2_with fail
   refine hK.out _ _ (HSS106.out _ hC0) (fun hHeld=>?_)
   clear hK K
   try simp only [putS]
   refine rd2 3 (some 119) 10 (some 18) (fun K hK=>?_) fun K hK=>?_
   all_goals clear hHeld
   ·go_simp
    refine(toQuery_c _ xQ _ ((rQuery_ok NB).keep sQ (cells_below (Below.link hB hC0)))).mono ?_
    rintro e w111 ⟨csv110,fv110,rfl,ov110,frv110,hb112⟩
    have Rv110:=(rQuery_ok NB).toRep ov110
    have hC1:Below w103.heap.size w103 w111:=Below.link hC0 hb112
    replace Rv107:=(rDatabase_ok NB).keep Rv107 (cells_below hb112)
    go_wp2_with fail
    refine hK.out _ _ (HSS106.out _ hC1) (fun hHeld=>?_)
    clear hK K
    try simp only [putS]
    refine rd2 5 (some 121) 10 (some 18) (fun K hK=>?_) fun K hK=>?_
    all_goals clear hHeld
    ·go_simp
     refine(toPlan_c _ xP _ ((rPlan_ok NB).keep sP (cells_below (Below.link hB hC1)))).mono ?_
     rintro e w114 ⟨csv113,fv113,rfl,ov113,frv113,hb115⟩
     have Rv113:=(rPlan_ok NB).toRep ov113
     have hC2:Below w103.heap.size w103 w114:=Below.link hC1 hb115
     replace Rv107:=(rDatabase_ok NB).keep Rv107 (cells_below hb115)
     replace Rv110:=(rQuery_ok NB).keep Rv110 (cells_below hb115)
     go_wp2_with fail
     refine hK.out _ _ (HSS106.out _ hC2) (fun hHeld=>?_)
     clear hK K
     try simp only [putS]
     refine rd2 6 (some 122) 10 (some 18) (fun K hK=>?_) fun K hK=>?_
     all_goals clear hHeld
     ·go_simp
      refine(iRunPlan_c _ xDb _ xQ _ xP _ Rv107 Rv110 Rv113).mono ?_
      rintro e w116 ⟨csh0,fh0,rfl,oh0,frh0,hb117⟩
      obtain⟨Ah0Vars,nh0Vars,ch0Vars,Ah0Rows,nh0Rows,ch0Rows,rfl,_,_⟩:=rStream_rep.1 ((rStream_ok NB).toRep oh0)
      have hF:Below w103.heap.size w103 w116:=Below.link hC2 hb117
      go_wp2_with fail
      refine hK.out _ _ (HSS106.out _ hF) (fun hHeld=>?_)
      clear hK K
      try simp only [putS]
      refine tka 7 115 hHeld ?_;simp only [putS]
      refine tka 8 123 hHeld ?_;simp only [putS]
      refine tka 9 124 hHeld ?_;simp only [putS]
      refine rd 10 (some 18) fun K hK=>?_
      clear hHeld
      go_simp
      refine hK.out _ _ (HSS106.out _ (Below.alc hF (.cells #[.slice none 0 0,.slice none 0 0] 35))) (fun hHeld=>?_)
      clear hK K
      try simp only [putS]
      refine rd 11 none fun K hK=>?_
      clear hHeld
      go_simp
      refine hK.out _ _ (HSS106.out _ (Below.alc hF (.cells #[.slice Ah0Vars nh0Vars ch0Vars,.slice Ah0Rows nh0Rows ch0Rows] 35))) (fun hHeld=>?_)
      clear hK K
      try simp only [putS]
      refine tka 12 19 hHeld ?_;simp only [putS]
      refine wpAnyH_done (by kernel_rfl) ?_ _
      clear hHeld
      (go_wp2_with fail)
      go_meet
      refine⟨[.slice Ah0Vars nh0Vars ch0Vars,.slice Ah0Rows nh0Rows ch0Rows],fh0,_,rfl,rfl,?_⟩
      exact Left.last (rStream_ok NB) oh0 frh0 hC2 hb117
     ·have hA:=(Below.refl w114.heap.size w114).alloc (Nat.le_refl _) (.cells #[.slice none 0 0,.slice none 0 0] 35)
      have bkX:Bk (w114.alloc (.cells #[.slice none 0 0,.slice none 0 0] 35)) w114.heap.size 35 [.slice none 0 0,.slice none 0 0]:=Bk.new w114 _ _
      have ltX:w114.heap.size<(w114.alloc (.cells #[.slice none 0 0,.slice none 0 0] 35)).heap.size:=Nat.lt_of_lt_of_eq (Nat.lt_succ_self _) (World.size_alloc ..).symm
      have hgX:w103.heap.size<=w114.heap.size:=hC2.size
      replace Rv107:=(rDatabase_ok NB).keep Rv107 (cells_below hA)
      replace Rv110:=(rQuery_ok NB).keep Rv110 (cells_below hA)
      replace Rv113:=(rPlan_ok NB).keep Rv113 (cells_below hA)
      have hZ:=Below.link hC2 hA
      go_simp
      refine hK.out _ _ (HSS106.out _ hZ) (fun hHeld=>?_)
      clear hK K
      try simp only [putS]
      refine rd 6 (some 122) fun K hK=>?_
      clear hHeld
      go_simp
      refine(iRunPlan_c _ xDb _ xQ _ xP _ Rv107 Rv110 Rv113).mono ?_
      rintro e w116 ⟨csh0,fh0,rfl,oh0,frh0,hb117⟩
      obtain⟨Ah0Vars,nh0Vars,ch0Vars,Ah0Rows,nh0Rows,ch0Rows,rfl,_,_⟩:=rStream_rep.1 ((rStream_ok NB).toRep oh0)
      have hF:Below w103.heap.size w103 w116:=Below.link hZ hb117
      replace bkX:=Bk.below bkX hb117
      have jf:=bkX.frozen
      have jc0:=bkX.bx 0 _ rfl
      have jc1:=bkX.bx 1 _ rfl
      go_wp2_with fail
      refine hK.out _ _ (HSS106.out _ hF) (fun hHeld=>?_)
      clear hK K
      try simp only [putS]
      refine tka 7 115 hHeld ?_;simp only [putS]
      refine tka 8 123 hHeld ?_;simp only [putS]
      refine tka 9 124 hHeld ?_;simp only [putS]
      refine rd 11 none fun K hK=>?_
      clear hHeld
      go_simp
      refine hK.out _ _ (HSS106.out _ (Below.setCells hF hgX 0 [.slice Ah0Vars nh0Vars ch0Vars,.slice Ah0Rows nh0Rows ch0Rows])) (fun hHeld=>?_)
      clear hK K
      try simp only [putS]
      refine tka 12 19 hHeld ?_;simp only [putS]
      refine wpAnyH_done (by kernel_rfl) ?_ _
      clear hHeld
      (go_wp2_with fail)
      go_meet
      refine⟨[.slice Ah0Vars nh0Vars ch0Vars,.slice Ah0Rows nh0Rows ch0Rows],fh0,_,rfl,rfl,?_⟩
      exact Left.first (rStream_ok NB) oh0 frh0 hZ hb117 bkX ltX hgX rfl
    ·have hA:=(Below.refl w111.heap.size w111).alloc (Nat.le_refl _) (.cells #[.slice none 0 0,.slice none 0 0] 35)
     have bkX:Bk (w111.alloc (.cells #[.slice none 0 0,.slice none 0 0] 35)) w111.heap.size 35 [.slice none 0 0,.slice none 0 0]:=Bk.new w111 _ _
     have ltX:w111.heap.size<(w111.alloc (.cells #[.slice none 0 0,.slice none 0 0] 35)).heap.size:=Nat.lt_of_lt_of_eq (Nat.lt_succ_self _) (World.size_alloc ..).symm
     have hgX:w103.heap.size<=w111.heap.size:=hC1.size
     replace Rv107:=(rDatabase_ok NB).keep Rv107 (cells_below hA)
     replace Rv110:=(rQuery_ok NB).keep Rv110 (cells_below hA)
     have hZ:=Below.link hC1 hA
     go_simp
     refine hK.out _ _ (HSS106.out _ hZ) (fun hHeld=>?_)
     clear hK K
     try simp only [putS]
     refine rd 5 (some 121) fun K hK=>?_
     clear hHeld
     go_simp
     refine(toPlan_c _ xP _ ((rPlan_ok NB).keep sP (cells_below (Below.link hB hZ)))).mono ?_
     rintro e w114 ⟨csv113,fv113,rfl,ov113,frv113,hb115⟩
     have Rv113:=(rPlan_ok NB).toRep ov113
     have hC2:Below w103.heap.size w103 w114:=Below.link hZ hb115
     replace Rv107:=(rDatabase_ok NB).keep Rv107 (cells_below hb115)
     replace Rv110:=(rQuery_ok NB).keep Rv110 (cells_below hb115)
     replace bkX:=Bk.below bkX hb115
     replace ltX:=Nat.lt_of_lt_of_le ltX hb115.size
     go_wp2_with fail
     refine hK.out _ _ (HSS106.out _ hC2) (fun hHeld=>?_)
     clear hK K
     try simp only [putS]
     refine rd 6 (some 122) fun K hK=>?_
     clear hHeld
     go_simp
     refine(iRunPlan_c _ xDb _ xQ _ xP _ Rv107 Rv110 Rv113).mono ?_
     rintro e w116 ⟨csh0,fh0,rfl,oh0,frh0,hb117⟩
     obtain⟨Ah0Vars,nh0Vars,ch0Vars,Ah0Rows,nh0Rows,ch0Rows,rfl,_,_⟩:=rStream_rep.1 ((rStream_ok NB).toRep oh0)
     have hF:Below w103.heap.size w103 w116:=Below.link hC2 hb117
     replace bkX:=Bk.below bkX hb117
     have jf:=bkX.frozen
     have jc0:=bkX.bx 0 _ rfl
     have jc1:=bkX.bx 1 _ rfl
     go_wp2_with fail
     refine hK.out _ _ (HSS106.out _ hF) (fun hHeld=>?_)
     clear hK K
     try simp only [putS]
     refine tka 7 115 hHeld ?_;simp only [putS]
     refine tka 8 123 hHeld ?_;simp only [putS]
     refine tka 9 124 hHeld ?_;simp only [putS]
     refine rd 11 none fun K hK=>?_
     clear hHeld
     go_simp
     refine hK.out _ _ (HSS106.out _ (Below.setCells hF hgX 0 [.slice Ah0Vars nh0Vars ch0Vars,.slice Ah0Rows nh0Rows ch0Rows])) (fun hHeld=>?_)
     clear hK K
     try simp only [putS]
     refine tka 12 19 hHeld ?_;simp only [putS]
     refine wpAnyH_done (by kernel_rfl) ?_ _
     clear hHeld
     (go_wp2_with fail)
     go_meet
     refine⟨[.slice Ah0Vars nh0Vars ch0Vars,.slice Ah0Rows nh0Rows ch0Rows],fh0,_,rfl,rfl,?_⟩
     exact Left.first (rStream_ok NB) oh0 frh0 hC2 hb117 bkX ltX hgX rfl
   ·have hA:=(Below.refl w108.heap.size w108).alloc (Nat.le_refl _) (.cells #[.slice none 0 0,.slice none 0 0] 35)
    have bkX:Bk (w108.alloc (.cells #[.slice none 0 0,.slice none 0 0] 35)) w108.heap.size 35 [.slice none 0 0,.slice none 0 0]:=Bk.new w108 _ _
    have ltX:w108.heap.size<(w108.alloc (.cells #[.slice none 0 0,.slice none 0 0] 35)).heap.size:=Nat.lt_of_lt_of_eq (Nat.lt_succ_self _) (World.size_alloc ..).symm
    have hgX:w103.heap.size<=w108.heap.size:=hC0.size
    replace Rv107:=(rDatabase_ok NB).keep Rv107 (cells_below hA)
    have hZ:=Below.link hC0 hA
    go_simp
    refine hK.out _ _ (HSS106.out _ hZ) (fun hHeld=>?_)
    clear hK K
    try simp only [putS]
    refine rd 3 (some 119) fun K hK=>?_
    clear hHeld
    go_simp
    refine(toQuery_c _ xQ _ ((rQuery_ok NB).keep sQ (cells_below (Below.link hB hZ)))).mono ?_
    rintro e w111 ⟨csv110,fv110,rfl,ov110,frv110,hb112⟩
    have Rv110:=(rQuery_ok NB).toRep ov110
    have hC1:Below w103.heap.size w103 w111:=Below.link hZ hb112
    replace Rv107:=(rDatabase_ok NB).keep Rv107 (cells_below hb112)
    replace bkX:=Bk.below bkX hb112
    replace ltX:=Nat.lt_of_lt_of_le ltX hb112.size
    go_wp2_with fail
    refine hK.out _ _ (HSS106.out _ hC1) (fun hHeld=>?_)
    clear hK K
    try simp only [putS]
    refine rd 5 (some 121) fun K hK=>?_
    clear hHeld
    go_simp
    refine(toPlan_c _ xP _ ((rPlan_ok NB).keep sP (cells_below (Below.link hB hC1)))).mono ?_
    rintro e w114 ⟨csv113,fv113,rfl,ov113,frv113,hb115⟩
    have Rv113:=(rPlan_ok NB).toRep ov113
    have hC2:Below w103.heap.size w103 w114:=Below.link hC1 hb115
    replace Rv107:=(rDatabase_ok NB).keep Rv107 (cells_below hb115)
    replace Rv110:=(rQuery_ok NB).keep Rv110 (cells_below hb115)
    replace bkX:=Bk.below bkX hb115
    replace ltX:=Nat.lt_of_lt_of_le ltX hb115.size
    go_wp2_with fail
    refine hK.out _ _ (HSS106.out _ hC2) (fun hHeld=>?_)
    clear hK K
    try simp only [putS]
    refine rd 6 (some 122) fun K hK=>?_
    clear hHeld
    go_simp
    refine(iRunPlan_c _ xDb _ xQ _ xP _ Rv107 Rv110 Rv113).mono ?_
    rintro e w116 ⟨csh0,fh0,rfl,oh0,frh0,hb117⟩
    obtain⟨Ah0Vars,nh0Vars,ch0Vars,Ah0Rows,nh0Rows,ch0Rows,rfl,_,_⟩:=rStream_rep.1 ((rStream_ok NB).toRep oh0)
    have hF:Below w103.heap.size w103 w116:=Below.link hC2 hb117
    replace bkX:=Bk.below bkX hb117
    have jf:=bkX.frozen
    have jc0:=bkX.bx 0 _ rfl
    have jc1:=bkX.bx 1 _ rfl
    go_wp2_with fail
    refine hK.out _ _ (HSS106.out _ hF) (fun hHeld=>?_)
    clear hK K
    try simp only [putS]
    refine tka 7 115 hHeld ?_;simp only [putS]
    refine tka 8 123 hHeld ?_;simp only [putS]
    refine tka 9 124 hHeld ?_;simp only [putS]
    refine rd 11 none fun K hK=>?_
    clear hHeld
    go_simp
    refine hK.out _ _ (HSS106.out _ (Below.setCells hF hgX 0 [.slice Ah0Vars nh0Vars ch0Vars,.slice Ah0Rows nh0Rows ch0Rows])) (fun hHeld=>?_)
    clear hK K
    try simp only [putS]
    refine tka 12 19 hHeld ?_;simp only [putS]
    refine wpAnyH_done (by kernel_rfl) ?_ _
    clear hHeld
    (go_wp2_with fail)
    go_meet
    refine⟨[.slice Ah0Vars nh0Vars ch0Vars,.slice Ah0Rows nh0Rows ch0Rows],fh0,_,rfl,rfl,?_⟩
    exact Left.first (rStream_ok NB) oh0 frh0 hC2 hb117 bkX ltX hgX rfl
  ·have hA:=(Below.refl w103.drew.heap.size w103.drew).alloc (Nat.le_refl _) (.cells #[.slice none 0 0,.slice none 0 0] 35)
   have bkX:Bk (w103.drew.alloc (.cells #[.slice none 0 0,.slice none 0 0] 35)) w103.heap.size 35 [.slice none 0 0,.slice none 0 0]:=Bk.new w103.drew _ _
   have ltX:w103.heap.size<(w103.drew.alloc (.cells #[.slice none 0 0,.slice none 0 0] 35)).heap.size:=Nat.lt_of_lt_of_eq (Nat.lt_succ_self _) (World.size_alloc ..).symm
   have hgX:w103.heap.size<=w103.heap.size:=hd13.size
   have hZ:=Below.link hd13 hA
   go_simp
   refine hK.out _ _ (HSS106.out _ hZ) (fun hHeld=>?_)
   clear hK K
   try simp only [putS]
   refine rd 1 (some 117) fun K hK=>?_
   clear hHeld
   go_simp
   refine(toDatabase_c _ xDb _ ((rDatabase_ok NB).keep sDb (cells_below (Below.link hB hZ)))).mono ?_
   rintro e w108 ⟨csv107,fv107,rfl,ov107,frv107,hb109⟩
   have Rv107:=(rDatabase_ok NB).toRep ov107
   have hC0:Below w103.heap.size w103 w108:=Below.link hZ hb109
   replace bkX:=Bk.below bkX hb109
   replace ltX:=Nat.lt_of_lt_of_le ltX hb109.size
   go_wp2_with fail
   refine hK.out _ _ (HSS106.out _ hC0) (fun hHeld=>?_)
   clear hK K
   try simp only [putS]
   refine rd 3 (some 119) fun K hK=>?_
   clear hHeld
   go_simp
   refine(toQuery_c _ xQ _ ((rQuery_ok NB).keep sQ (cells_below (Below.link hB hC0)))).mono ?_
   rintro e w111 ⟨csv110,fv110,rfl,ov110,frv110,hb112⟩
   have Rv110:=(rQuery_ok NB).toRep ov110
   have hC1:Below w103.heap.size w103 w111:=Below.link hC0 hb112
   replace Rv107:=(rDatabase_ok NB).keep Rv107 (cells_below hb112)
   replace bkX:=Bk.below bkX hb112
   replace ltX:=Nat.lt_of_lt_of_le ltX hb112.size
   go_wp2_with fail
   refine hK.out _ _ (HSS106.out _ hC1) (fun hHeld=>?_)
   clear hK K
   try simp only [putS]
   refine rd 5 (some 121) fun K hK=>?_
   clear hHeld
   go_simp
   refine(toPlan_c _ xP _ ((rPlan_ok NB).keep sP (cells_below (Below.link hB hC1)))).mono ?_
   rintro e w114 ⟨csv113,fv113,rfl,ov113,frv113,hb115⟩
   have Rv113:=(rPlan_ok NB).toRep ov113
   have hC2:Below w103.heap.size w103 w114:=Below.link hC1 hb115
   replace Rv107:=(rDatabase_ok NB).keep Rv107 (cells_below hb115)
   replace Rv110:=(rQuery_ok NB).keep Rv110 (cells_below hb115)
   replace bkX:=Bk.below bkX hb115
   replace ltX:=Nat.lt_of_lt_of_le ltX hb115.size
   go_wp2_with fail
   refine hK.out _ _ (HSS106.out _ hC2) (fun hHeld=>?_)
   clear hK K
   try simp only [putS]
   refine rd 6 (some 122) fun K hK=>?_
   clear hHeld
   go_simp
   refine(iRunPlan_c _ xDb _ xQ _ xP _ Rv107 Rv110 Rv113).mono ?_
   rintro e w116 ⟨csh0,fh0,rfl,oh0,frh0,hb117⟩
   obtain⟨Ah0Vars,nh0Vars,ch0Vars,Ah0Rows,nh0Rows,ch0Rows,rfl,_,_⟩:=rStream_rep.1 ((rStream_ok NB).toRep oh0)
   have hF:Below w103.heap.size w103 w116:=Below.link hC2 hb117
   replace bkX:=Bk.below bkX hb117
   have jf:=bkX.frozen
   have jc0:=bkX.bx 0 _ rfl
   have jc1:=bkX.bx 1 _ rfl
   go_wp2_with fail
   refine hK.out _ _ (HSS106.out _ hF) (fun hHeld=>?_)
   clear hK K
   try simp only [putS]
   refine tka 7 115 hHeld ?_;simp only [putS]
   refine tka 8 123 hHeld ?_;simp only [putS]
   refine tka 9 124 hHeld ?_;simp only [putS]
   refine rd 11 none fun K hK=>?_
   clear hHeld
   go_simp
   refine hK.out _ _ (HSS106.out _ (Below.setCells hF hgX 0 [.slice Ah0Vars nh0Vars ch0Vars,.slice Ah0Rows nh0Rows ch0Rows])) (fun hHeld=>?_)
   clear hK K
   try simp only [putS]
   refine tka 12 19 hHeld ?_;simp only [putS]
   refine wpAnyH_done (by kernel_rfl) ?_ _
   clear hHeld
   (go_wp2_with fail)
   go_meet
   refine⟨[.slice Ah0Vars nh0Vars ch0Vars,.slice Ah0Rows nh0Rows ch0Rows],fh0,_,rfl,rfl,?_⟩
   exact Left.first (rStream_ok NB) oh0 frh0 hC2 hb117 bkX ltX hgX rfl
 case rest =>
 obtain⟨csh0,fh0,gh0,rfl,rfl,⟨oh0,frh0,ngh0,ggh0,bkh0,hCh0⟩⟩:=hcut
 obtain⟨wxh0,hwxh0⟩:∃ W:World,W=wc:=⟨_,rfl⟩
 subst hwxh0
 obtain⟨Ah0Vars,nh0Vars,ch0Vars,Ah0Rows,nh0Rows,ch0Rows,rfl,_,_⟩:=rStream_rep.1 ((rStream_ok NB).toRep oh0)
 have z119:=hCh0.size
 try simp only [World.size_alloc]at z119
 have Hz119:=Lib.hid z119;clear z119
 replace ow0:=(rStream_ok NB).ownB ow0 hCh0
 replace ox0:=(rDatabase_ok NB).ownB ox0 hCh0
 replace ox1:=(rQuery_ok NB).ownB ox1 hCh0
 replace ox2:=(rPlan_ok NB).ownB ox2 hCh0
 replace og0:=(rStream_ok NB).ownB og0 hCh0
 replace hB:=hB.trans (hCh0.mono hB.size)
 replace bxDb:=bxDb.below hCh0
 replace bxQ:=bxQ.below hCh0
 replace bxP:=bxP.below hCh0
 replace bxw0:=bxw0.below hCh0
 replace bxx0:=bxx0.below hCh0
 replace bxx1:=bxx1.below hCh0
 replace bxx2:=bxx2.below hCh0
 replace bxg0:=bxg0.below hCh0
 clear HSS106
 have lth0:=Lib.hid ((rStream_ok NB).lt oh0)
 have fsh0:=frh0
 have HFh0:Hid (∀ k∈fh0,_<=k):=fsh0.ge
 try simp only [World.size_alloc]at HFh0
 have ndh0:=fsh0.nd;have NDh0:=Lib.hid ndh0;clear ndh0 fsh0
 have GGh0:=Lib.hid (And.intro ggh0 (Bk.lt bkh0));clear ggh0
 have NGh0:=Lib.hid ngh0;clear ngh0
 have bxh0:=Bk.bx bkh0;clear bkh0 hCh0
 have cbxw0_0:=bxw0 0 _ rfl
 have cbxw0_1:=bxw0 1 _ rfl
 have cbxh0_0:=bxh0 0 _ rfl
 have cbxh0_1:=bxh0 1 _ rfl
 go_wp2_with fail
 refine(eqStream_c _ _ ((runPlan xDb xQ xP).1) ((runPlan xDb xQ xP).1) _ ((rStream_ok NB).toRep oh0) ((rStream_ok NB).toRep ow0)).mono ?_
 rintro e w120 ⟨rfl,hb121⟩
 have z122:=hb121.size
 try simp only [World.size_alloc]at z122
 have Hz122:=Lib.hid z122;clear z122
 replace ow0:=(rStream_ok NB).ownB ow0 hb121
 replace ox0:=(rDatabase_ok NB).ownB ox0 hb121
 replace ox1:=(rQuery_ok NB).ownB ox1 hb121
 replace ox2:=(rPlan_ok NB).ownB ox2 hb121
 replace og0:=(rStream_ok NB).ownB og0 hb121
 replace oh0:=(rStream_ok NB).ownB oh0 hb121
 replace hB:=hB.trans (hb121.mono hB.size)
 replace bxDb:=bxDb.below hb121
 replace bxQ:=bxQ.below hb121
 replace bxP:=bxP.below hb121
 replace bxw0:=bxw0.below hb121
 replace bxx0:=bxx0.below hb121
 replace bxx1:=bxx1.below hb121
 replace bxx2:=bxx2.below hb121
 replace bxg0:=bxg0.below hb121
 replace bxh0:=bxh0.below hb121
 clear hb121 cbxw0_0 cbxw0_1 cbxh0_0 cbxh0_1
 have hdr123:decide (((runPlan xDb xQ xP).1)=((runPlan xDb xQ xP).1))=true:=by simp
 have cbxg0_0:=bxg0 0 _ rfl
 have cbxg0_1:=bxg0 1 _ rfl
 go_wp2_with fail
 have hcbw124:(cnt_Stream ((runPlan xDb xQ xP).1))<=1099511627776:=hcbr.out
 refine(heldStream_m _ ((runPlan xDb xQ xP).1) 1 _ ((rStream_ok NB).toRep og0) (by omega) (by omega)).mono ?_
 rintro e w124 ⟨rfl,hb125⟩
 have z126:=hb125.size
 try simp only [World.size_alloc]at z126
 have Hz126:=Lib.hid z126;clear z126
 replace ow0:=(rStream_ok NB).ownB ow0 hb125
 replace ox0:=(rDatabase_ok NB).ownB ox0 hb125
 replace ox1:=(rQuery_ok NB).ownB ox1 hb125
 replace ox2:=(rPlan_ok NB).ownB ox2 hb125
 replace og0:=(rStream_ok NB).ownB og0 hb125
 replace oh0:=(rStream_ok NB).ownB oh0 hb125
 replace hB:=hB.trans (hb125.mono hB.size)
 replace bxDb:=bxDb.below hb125
 replace bxQ:=bxQ.below hb125
 replace bxP:=bxP.below hb125
 replace bxw0:=bxw0.below hb125
 replace bxx0:=bxx0.below hb125
 replace bxx1:=bxx1.below hb125
 replace bxx2:=bxx2.below hb125
 replace bxg0:=bxg0.below hb125
 replace bxh0:=bxh0.below hb125
 clear hb125 hcbw124 cbxg0_0 cbxg0_1
 rw [<- Hkkk102.out]
 go_wp2
 go_ret
 exact⟨rfl,hB⟩

set_option maxRecDepth 100000 in
theorem lifted (os:Os) (started:os.Started) (H:Type) (enc:TypeId × Value->H) :
  ReturnsInHanded {} Tryz.checked os 5 .any (Rows.fnExactRunPlanSpec.pre6 enc Tryz.prog Tryz.f5 Rows.fnExactRunPlanRow.domain false) (Rows.fnExactRunPlanSpec.post enc Tryz.prog Tryz.f5 false true false false):=by
 refine returnsInHanded_of_change (C:=Tryz.checked) own started (by kernel_rfl) Tryz.func5
  (ChangeSpec.witness6 (enc:=enc) (C:=Tryz.checked) false ⟨#[],#[.agg #[.slice none 0 0],.agg #[.int .i64 0,.slice none 0 0],.agg #[.slice none 0 0]],[]⟩ 8 (by kernel_rfl) (by kernel_rfl) (by kernel_rfl) (by kernel_rfl)) ?_
 intro W base args ds gs before hval0 hW hcnd _
 have hval:∀ (j:Nat) t v,Tryz.f5.params[j]?=some t->args[j]?=some v->Value.okWide Tryz.prog W .any base t v:=hval0
 have hW':=hW
 obtain⟨p,q,hA0,hV,rfl,hfz,hnd⟩:=hW
 have hA:DataW.TrodAll enc Tryz.prog W 0 (fun _=>true) true Tryz.f5.params.toList args.toList ds p:=hA0
 rw [Tryz.params5]at hA hval
 obtain⟨v0,vs0,d0,ds0,p0,q0,hargs,rfl,rfl,h0,r0⟩:=trodAll_cons hA
 obtain⟨v1,vs1,d1,ds1,p1,q1,rfl,rfl,rfl,h1,r1⟩:=trodAll_cons r0
 obtain⟨v2,vs2,d2,ds2,p2,q2,rfl,rfl,rfl,h2,r2⟩:=trodAll_cons r1
 obtain⟨rfl,rfl,rfl⟩:=trodAll_nil r2
 obtain rfl:args=#[v0,v1,v2]:=by cases args;simp_all
 obtain⟨rfl,rfl⟩:=trodVars_none hV
 obtain⟨ca0,rfl,_⟩:=okWide_struct Tryz.underlying47 (hval 0 47 v0 rfl rfl)
 obtain⟨cl0⟩:=ca0
 have k0:=h0
 have lt0:∀ x∈p0,x.block<W.heap.size:=by obtain⟨m,hm⟩:=k0;exact DataW.trod_lt m _ _ _ hm
 obtain⟨x0,g0⟩:∃ x,(rDatabase maxLen).rep W cl0 x:=by
  obtain⟨fuel,hf⟩:=h0
  exact opensDatabase hf
 obtain⟨ca1,rfl,_⟩:=okWide_struct Tryz.underlying50 (hval 1 50 v1 rfl rfl)
 obtain⟨cl1⟩:=ca1
 have k1:=h1
 have lt1:∀ x∈p1,x.block<W.heap.size:=by obtain⟨m,hm⟩:=k1;exact DataW.trod_lt m _ _ _ hm
 obtain⟨x1,g1⟩:∃ x,(rQuery maxLen).rep W cl1 x:=by
  obtain⟨fuel,hf⟩:=h1
  exact opensQuery hf
 obtain⟨ca2,rfl,_⟩:=okWide_struct Tryz.underlying53 (hval 2 53 v2 rfl rfl)
 obtain⟨cl2⟩:=ca2
 have k2:=h2
 have lt2:∀ x∈p2,x.block<W.heap.size:=by obtain⟨m,hm⟩:=k2;exact DataW.trod_lt m _ _ _ hm
 obtain⟨x2,g2⟩:∃ x,(rPlan maxLen).rep W cl2 x:=by
  obtain⟨fuel,hf⟩:=h2
  exact opensPlan hf
 clear hA0 hval0
 refine(walk cl0 x0 cl1 x1 cl2 x2 W g0 g1 g2).mono fun e W' ⟨he,bel⟩=>?_
 subst he
 exact⟨_,rfl,_,_,_,[],_,[],hW',trodAll_mk1 (shut_bool Tryz.underlying4 _),(trodAll_cons_mk (Below.trod laidOut (by kernel_rfl) (of_decide_eq_true (by kernel_rfl)) k0 bel lt0) (trodAll_cons_mk (Below.trod laidOut (by kernel_rfl) (of_decide_eq_true (by kernel_rfl)) k1 bel lt1) (trodAll_cons_mk (Below.trod laidOut (by kernel_rfl) (of_decide_eq_true (by kernel_rfl)) k2 bel lt2) trodAll_mk0))),rfl,bel.frame _,fun h=>by cases h⟩

theorem over:Rows.fnExactRunPlanRow.holds Tryz.pinned (OpenSpec.ofChange Rows.fnExactRunPlanSpec) :=
 OpenClaim.holds_of_wide 5 Tryz.f5 rfl rfl rfl rfl rfl rfl rfl ⟨rfl,rfl,rfl,rfl,rfl⟩ rfl rfl rfl rfl rfl (by kernel_rfl) Tryz.func5 (by kernel_rfl)
  (of_decide_eq_true (by kernel_rfl)) (by unfold Func.isWrapper;first|(rw [if_pos (by decide +kernel)];kernel_rfl)|(rw [if_neg (by decide +kernel)];exact⟨rfl,rfl⟩))
  (fun os started H enc _=>lifted os started H enc)

theorem proved : Rows.FnExactRunPlanSaid := over
#print axioms proved
end Go.Proofs.YtpodldagcnfhlaaGreat.fnExactRunPlan
