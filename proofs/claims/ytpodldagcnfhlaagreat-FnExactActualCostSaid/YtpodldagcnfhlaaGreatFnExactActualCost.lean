/-
  FnExactActualCost
-/
import Derived.Test.YtpodldagcnfhlaaGreatRows
import Derived.Test.YtpodldagcnfhlaaGreatKeep
import Derived.Test.YtpodldagcnfhlaaGreatAcc
import Derived.Test.YtpodldagcnfhlaaGreatOpens
import Derived.Test.YtpodldagcnfhlaaGreatTo
import Derived.Test.YtpodldagcnfhlaaGreatEq
import Derived.WalkKit
import Derived.ProofKit
import Derived.OpenShut
import Derived.ShutString
import Derived.ChangeOld
import Derived.Below
import Derived.Deep.RegionHeld3
namespace Go.Proofs.YtpodldagcnfhlaaGreat.fnExactActualCost
open Go.ChangeShapes Go.WideShapes Go.ChangeAt Go.RowKit
open Go.ChangeMaps (open_string shut_string)
set_option linter.unusedVariables false
set_option linter.unusedSimpArgs false

theorem sizeLawModel:(Tryz.prog.info? 79).map (·.size)=some 30:=by kernel_rfl
theorem own:ownKnob Tryz.prog.godebug=none:=by kernel_rfl
theorem laidOut:laidOutB Tryz.prog=true:=by kernel_rfl

set_option maxRecDepth 100000 in
set_option maxHeartbeats 4000000 in
theorem walk (csM:List Value) (xM:ModelD) (csDb:List Value) (xDb:DatabaseD) (csQ:List Value) (xQ:QueryD) (csP:List Value) (xP:PlanD) (w:World) (rM:(rModel maxLen).rep w csM xM) (rDb:(rDatabase maxLen).rep w csDb xDb) (rQ:(rQuery maxLen).rep w csQ xQ) (rP:(rPlan maxLen).rep w csP xP) :
  Calls Tryz.prog 6 #[.agg csM.toArray,.agg csDb.toArray,.agg csQ.toArray,.agg csP.toArray] w fun e w'=>e=.returned (.bool true)/\Below w.heap.size w w':=by
 have hB:Below w.heap.size w w:=Below.refl _ _
 have lenM:csM.length=30:=(rModel_ok maxLen).len rM
 have qDb:=rDb
 obtain⟨ADbTables,nDbTables,cDbTables,rfl,hDbTables⟩:=rDatabase_rep.1 qDb
 clear qDb
 have qQ:=rQ
 obtain⟨AQAtoms,nQAtoms,cQAtoms,rfl,hQVariableCount,hQAtoms⟩:=rQuery_rep.1 qQ
 clear qQ
 have qP:=rP
 obtain⟨APSteps,nPSteps,cPSteps,rfl,hPSteps⟩:=rPlan_rep.1 qP
 clear qP
 go_enter Tryz.func6,Tryz.ntmps6
 have hA1:=(Below.refl (World.heap (w)).size (w)).alloc (Nat.le_refl _) (.cells csM.toArray 79)
 replace hB:=hB.trans (hA1.mono hB.size)
 have bxM:=Bx.new (w) csM 79
 clear hA1
 have hA2:=(Below.refl (World.heap ((w).alloc (.cells csM.toArray 79))).size ((w).alloc (.cells csM.toArray 79))).alloc (Nat.le_refl _) (.cells #[.slice ADbTables nDbTables cDbTables] 47)
 replace hB:=hB.trans (hA2.mono hB.size)
 replace bxM:=bxM.below hA2
 have bxDb:=Bx.new ((w).alloc (.cells csM.toArray 79)) [.slice ADbTables nDbTables cDbTables] 47
 simp only [World.size_alloc]at bxDb
 clear hA2
 have hA3:=(Below.refl (World.heap (((w).alloc (.cells csM.toArray 79)).alloc (.cells #[.slice ADbTables nDbTables cDbTables] 47))).size (((w).alloc (.cells csM.toArray 79)).alloc (.cells #[.slice ADbTables nDbTables cDbTables] 47))).alloc (Nat.le_refl _) (.cells #[.int .i64 xQ.fVariableCount,.slice AQAtoms nQAtoms cQAtoms] 50)
 replace hB:=hB.trans (hA3.mono hB.size)
 replace bxM:=bxM.below hA3
 replace bxDb:=bxDb.below hA3
 have bxQ:=Bx.new (((w).alloc (.cells csM.toArray 79)).alloc (.cells #[.slice ADbTables nDbTables cDbTables] 47)) [.int .i64 xQ.fVariableCount,.slice AQAtoms nQAtoms cQAtoms] 50
 simp only [World.size_alloc]at bxQ
 clear hA3
 have hA4:=(Below.refl (World.heap ((((w).alloc (.cells csM.toArray 79)).alloc (.cells #[.slice ADbTables nDbTables cDbTables] 47)).alloc (.cells #[.int .i64 xQ.fVariableCount,.slice AQAtoms nQAtoms cQAtoms] 50))).size ((((w).alloc (.cells csM.toArray 79)).alloc (.cells #[.slice ADbTables nDbTables cDbTables] 47)).alloc (.cells #[.int .i64 xQ.fVariableCount,.slice AQAtoms nQAtoms cQAtoms] 50))).alloc (Nat.le_refl _) (.cells #[.slice APSteps nPSteps cPSteps] 53)
 replace hB:=hB.trans (hA4.mono hB.size)
 replace bxM:=bxM.below hA4
 replace bxDb:=bxDb.below hA4
 replace bxQ:=bxQ.below hA4
 have bxP:=Bx.new ((((w).alloc (.cells csM.toArray 79)).alloc (.cells #[.slice ADbTables nDbTables cDbTables] 47)).alloc (.cells #[.int .i64 xQ.fVariableCount,.slice AQAtoms nQAtoms cQAtoms] 50)) [.slice APSteps nPSteps cPSteps] 53
 simp only [World.size_alloc]at bxP
 clear hA4
 go_wp2_with (first|(refine wpList_load_mid rfl 79 _ rfl (w.heap.size) 0 rfl csM _ bxM.range Tryz.underlying79 rfl (by rw [lenM];exact sizeLawModel) ?_))
 refine(szModel_c _ xM _ _ ((rModel_ok maxLen).keep rM (cells_below hB)) (by omega) (by omega)).mono ?_
 rintro e w6 ⟨rfl,hb5⟩
 replace hB:=hB.trans (hb5.mono hB.size)
 replace bxM:=bxM.below hb5
 replace bxDb:=bxDb.below hb5
 replace bxQ:=bxQ.below hb5
 replace bxP:=bxP.below hb5
 clear hb5
 by_cases hszM:((bulkModel xM:Nat):Int)<=1048576
 rotate_left
 ·rw [lessBy_no hszM]
  go_wp2
  go_ret
  exact⟨rfl,hB⟩
 rw [lessBy_yes hszM]
 have sM:=smallModel rM (by omega)
 obtain⟨L7,hL7⟩:∃ L:Int,L=1048576 - ((bulkModel xM:Nat):Int):=⟨_,rfl⟩
 rw [<- hL7]
 have pL7:0<=L7:=by omega
 have uL7:L7<=1048576:=by omega
 clear hL7
 have cbxDb_0:=bxDb 0 _ rfl
 go_wp2_with (first|(refine wpList_load_mid rfl 79 _ rfl (w.heap.size) 0 rfl csM _ bxM.range Tryz.underlying79 rfl (by rw [lenM];exact sizeLawModel) ?_))
 refine(szDatabase_c _ xDb _ _ ((rDatabase_ok maxLen).keep rDb (cells_below hB)) (by omega) (by omega)).mono ?_
 rintro e w9 ⟨rfl,hb8⟩
 replace hB:=hB.trans (hb8.mono hB.size)
 replace bxM:=bxM.below hb8
 replace bxDb:=bxDb.below hb8
 replace bxQ:=bxQ.below hb8
 replace bxP:=bxP.below hb8
 clear hb8 cbxDb_0
 by_cases hszDb:((bulkDatabase xDb:Nat):Int)<=L7
 rotate_left
 ·rw [lessBy_no hszDb]
  go_wp2
  go_ret
  exact⟨rfl,hB⟩
 rw [lessBy_yes hszDb]
 have sDb:=smallDatabase rDb (by omega)
 obtain⟨L10,hL10⟩:∃ L:Int,L=L7 - ((bulkDatabase xDb:Nat):Int):=⟨_,rfl⟩
 rw [<- hL10]
 have pL10:0<=L10:=by omega
 have uL10:L10<=1048576:=by omega
 clear hL10
 have cbxQ_0:=bxQ 0 _ rfl
 have cbxQ_1:=bxQ 1 _ rfl
 go_wp2_with (first|(refine wpList_load_mid rfl 79 _ rfl (w.heap.size) 0 rfl csM _ bxM.range Tryz.underlying79 rfl (by rw [lenM];exact sizeLawModel) ?_))
 refine(szQuery_c _ xQ _ _ ((rQuery_ok maxLen).keep rQ (cells_below hB)) (by omega) (by omega)).mono ?_
 rintro e w12 ⟨rfl,hb11⟩
 replace hB:=hB.trans (hb11.mono hB.size)
 replace bxM:=bxM.below hb11
 replace bxDb:=bxDb.below hb11
 replace bxQ:=bxQ.below hb11
 replace bxP:=bxP.below hb11
 clear hb11 cbxQ_0 cbxQ_1
 by_cases hszQ:((bulkQuery xQ:Nat):Int)<=L10
 rotate_left
 ·rw [lessBy_no hszQ]
  go_wp2
  go_ret
  exact⟨rfl,hB⟩
 rw [lessBy_yes hszQ]
 have sQ:=smallQuery rQ (by omega)
 obtain⟨L13,hL13⟩:∃ L:Int,L=L10 - ((bulkQuery xQ:Nat):Int):=⟨_,rfl⟩
 rw [<- hL13]
 have pL13:0<=L13:=by omega
 have uL13:L13<=1048576:=by omega
 clear hL13
 have cbxP_0:=bxP 0 _ rfl
 go_wp2_with (first|(refine wpList_load_mid rfl 79 _ rfl (w.heap.size) 0 rfl csM _ bxM.range Tryz.underlying79 rfl (by rw [lenM];exact sizeLawModel) ?_))
 refine(szPlan_c _ xP _ _ ((rPlan_ok maxLen).keep rP (cells_below hB)) (by omega) (by omega)).mono ?_
 rintro e w15 ⟨rfl,hb14⟩
 replace hB:=hB.trans (hb14.mono hB.size)
 replace bxM:=bxM.below hb14
 replace bxDb:=bxDb.below hb14
 replace bxQ:=bxQ.below hb14
 replace bxP:=bxP.below hb14
 clear hb14 cbxP_0
 by_cases hszP:((bulkPlan xP:Nat):Int)<=L13
 rotate_left
 ·rw [lessBy_no hszP]
  go_wp2
  go_ret
  exact⟨rfl,hB⟩
 rw [lessBy_yes hszP]
 have sP:=smallPlan rP (by omega)
 obtain⟨L16,hL16⟩:∃ L:Int,L=L13 - ((bulkPlan xP:Nat):Int):=⟨_,rfl⟩
 rw [<- hL16]
 have pL16:0<=L16:=by omega
 have uL16:L16<=1048576:=by omega
 clear hL16
 go_wp2_with (first|(refine wpList_load_mid rfl 79 _ rfl (w.heap.size) 0 rfl csM _ bxM.range Tryz.underlying79 rfl (by rw [lenM];exact sizeLawModel) ?_))
 have SS17:∀ w',Below w15.heap.size w15 w'->(Below w15.heap.size w15 w'/\w'.rangeAt (w.heap.size) 0 csM/\w'.cell? ⟨w.heap.size+1,0,none⟩=some (.slice ADbTables nDbTables cDbTables)/\w'.cell? ⟨w.heap.size+1+1,0,none⟩=some (.int .i64 xQ.fVariableCount)/\w'.cell? ⟨w.heap.size+1+1,1,none⟩=some (.slice AQAtoms nQAtoms cQAtoms)/\w'.cell? ⟨w.heap.size+1+1+1,0,none⟩=some (.slice APSteps nPSteps cPSteps)):=fun w' hb=>⟨hb,(bxM.below hb).range,bxDb.below hb 0 _ rfl,bxQ.below hb 0 _ rfl,bxQ.below hb 1 _ rfl,bxP.below hb 0 _ rfl⟩
 have HSS17:=Lib.hid SS17;clear SS17
 refine hbg HSS17.out (Below.refl _ _).drew (fun hHeld=>?_)
 refine' wpAnyH_take (i:=0) (oi:=⟨some 36,_,_,_,_,_⟩) (v:=_) rfl (by kernel_rfl) (by kernel_rfl) (by kernel_rfl) (fun _ _ _ h=>h) (yieldsIf_load_mid (by rfl) _ _ rfl _ _ rfl _ _ (fun w h=>h.2.1) Tryz.underlying79 rfl (by rw [lenM];exact sizeLawModel)) hHeld ?_
 simp only [putS]
 refine tka 2 38 hHeld ?_;simp only [putS]
 refine tka 4 40 hHeld ?_;simp only [putS]
 refine tka 6 42 hHeld ?_;simp only [putS]
 refine rd 1 (some 37) fun K hK=>?_
 clear hHeld
 go_simp
 refine(toModel_c _ xM _ ((rModel_ok NB).keep sM (cells_below (hB.trans (Below.mono ((Below.refl w15.heap.size w15).drew) hB.size))))).mono ?_
 rintro e w19 ⟨csv18,fv18,rfl,ov18,frv18,hb20⟩
 have hC21:Below w15.heap.size w15 w19:=Below.trans ((Below.refl w15.heap.size w15).drew) (hb20.mono ((Below.refl w15.heap.size w15).drew).size)
 have Rv18:=(rModel_ok NB).toRep ov18
 go_wp2_with fail
 refine hK.out _ _ (HSS17.out _ hC21) (fun hHeld=>?_)
 clear hK K
 try simp only [putS]
 refine rd 3 (some 39) fun K hK=>?_
 clear hHeld
 go_simp
 refine(toDatabase_c _ xDb _ ((rDatabase_ok NB).keep sDb (cells_below (hB.trans (Below.mono (hC21) hB.size))))).mono ?_
 rintro e w24 ⟨csv23,fv23,rfl,ov23,frv23,hb25⟩
 have hC26:Below w15.heap.size w15 w24:=Below.trans (hC21) (hb25.mono (hC21).size)
 have Rv23:=(rDatabase_ok NB).toRep ov23
 replace Rv18:=(rModel_ok NB).keep Rv18 (cells_below hb25)
 go_wp2_with fail
 refine hK.out _ _ (HSS17.out _ hC26) (fun hHeld=>?_)
 clear hK K
 try simp only [putS]
 refine rd 5 (some 41) fun K hK=>?_
 clear hHeld
 go_simp
 refine(toQuery_c _ xQ _ ((rQuery_ok NB).keep sQ (cells_below (hB.trans (Below.mono (hC26) hB.size))))).mono ?_
 rintro e w29 ⟨csv28,fv28,rfl,ov28,frv28,hb30⟩
 have hC31:Below w15.heap.size w15 w29:=Below.trans (hC26) (hb30.mono (hC26).size)
 have Rv28:=(rQuery_ok NB).toRep ov28
 replace Rv18:=(rModel_ok NB).keep Rv18 (cells_below hb30)
 replace Rv23:=(rDatabase_ok NB).keep Rv23 (cells_below hb30)
 go_wp2_with fail
 refine hK.out _ _ (HSS17.out _ hC31) (fun hHeld=>?_)
 clear hK K
 try simp only [putS]
 refine rd 7 (some 43) fun K hK=>?_
 clear hHeld
 go_simp
 refine(toPlan_c _ xP _ ((rPlan_ok NB).keep sP (cells_below (hB.trans (Below.mono (hC31) hB.size))))).mono ?_
 rintro e w34 ⟨csv33,fv33,rfl,ov33,frv33,hb35⟩
 have hC36:Below w15.heap.size w15 w34:=Below.trans (hC31) (hb35.mono (hC31).size)
 have Rv33:=(rPlan_ok NB).toRep ov33
 replace Rv18:=(rModel_ok NB).keep Rv18 (cells_below hb35)
 replace Rv23:=(rDatabase_ok NB).keep Rv23 (cells_below hb35)
 replace Rv28:=(rQuery_ok NB).keep Rv28 (cells_below hb35)
 go_wp2_with fail
 refine hK.out _ _ (HSS17.out _ hC36) (fun hHeld=>?_)
 clear hK K
 try simp only [putS]
 refine rd 8 (some 44) fun K hK=>?_
 clear hHeld
 go_simp
 refine(sActualCost_c _ xM _ xDb _ xQ _ xP _ Rv18 Rv23 Rv28 Rv33).mono ?_
 rintro e w38 ⟨rfl,hb39⟩
 have hC40:Below w15.heap.size w15 w38:=Below.trans (hC36) (hb39.mono (hC36).size)
 go_wp2_with fail
 refine hK.out _ _ (HSS17.out _ hC40) (fun hHeld=>?_)
 clear hK K
 try simp only [putS]
 refine tka 9 10 hHeld ?_;simp only [putS]
 refine wpAnyH_done (by kernel_rfl) ?_ _
 clear hHeld
 replace hB:=hB.trans (hC40.mono hB.size)
 replace bxM:=bxM.below hC40
 replace bxDb:=bxDb.below hC40
 replace bxQ:=bxQ.below hC40
 replace bxP:=bxP.below hC40
 clear HSS17 hC40
 go_wp2_with (first|(refine wpList_load_mid rfl 79 _ rfl (w.heap.size) 0 rfl csM _ bxM.range Tryz.underlying79 rfl (by rw [lenM];exact sizeLawModel) ?_))
 refine(toModel_c _ xM _ ((rModel_ok NB).keep sM (cells_below hB))).mono ?_
 rintro e w42 ⟨csx0,fx0,rfl,ox0,frx0,hb43⟩
 replace hB:=hB.trans (hb43.mono hB.size)
 replace bxM:=bxM.below hb43
 replace bxDb:=bxDb.below hb43
 replace bxQ:=bxQ.below hb43
 replace bxP:=bxP.below hb43
 clear hb43
 have lenx0:csx0.length=30:=(rModel_ok NB).len ((rModel_ok NB).toRep ox0)
 have hA44:Below w42.heap.size w42 (World.setCells (w42.alloc (.cells #[.int .i64 0,.int .i64 0,.int .i64 0,.int .i64 0,.int .i64 0,.slice none 0 0,.int .i64 0,.int .i64 0,.int .i64 0,.int .i64 0,.int .i64 0,.slice none 0 0,.int .i64 0,.int .i64 0,.int .i64 0,.int .i64 0,.int .i64 0,.slice none 0 0,.int .i64 0,.int .i64 0,.int .i64 0,.int .i64 0,.int .i64 0,.slice none 0 0,.int .i64 0,.int .i64 0,.int .i64 0,.int .i64 0,.int .i64 0,.slice none 0 0] 86)) w42.heap.size 0 csx0):=by rw [setCells_kit];exact Below.setCells ((Below.refl _ _).alloc (Nat.le_refl _) _) (Nat.le_refl _) _ _
 replace ox0:=(rModel_ok NB).ownB ox0 hA44
 replace hB:=hB.trans (hA44.mono hB.size)
 replace bxM:=bxM.below hA44
 replace bxDb:=bxDb.below hA44
 replace bxQ:=bxQ.below hA44
 replace bxP:=bxP.below hA44
 have bxx0:Bx (World.setCells (w42.alloc (.cells #[.int .i64 0,.int .i64 0,.int .i64 0,.int .i64 0,.int .i64 0,.slice none 0 0,.int .i64 0,.int .i64 0,.int .i64 0,.int .i64 0,.int .i64 0,.slice none 0 0,.int .i64 0,.int .i64 0,.int .i64 0,.int .i64 0,.int .i64 0,.slice none 0 0,.int .i64 0,.int .i64 0,.int .i64 0,.int .i64 0,.int .i64 0,.slice none 0 0,.int .i64 0,.int .i64 0,.int .i64 0,.int .i64 0,.int .i64 0,.slice none 0 0] 86)) w42.heap.size 0 csx0) w42.heap.size csx0:=by rw [setCells_kit];exact((Bk.new w42 [.int .i64 0,.int .i64 0,.int .i64 0,.int .i64 0,.int .i64 0,.slice none 0 0,.int .i64 0,.int .i64 0,.int .i64 0,.int .i64 0,.int .i64 0,.slice none 0 0,.int .i64 0,.int .i64 0,.int .i64 0,.int .i64 0,.int .i64 0,.slice none 0 0,.int .i64 0,.int .i64 0,.int .i64 0,.int .i64 0,.int .i64 0,.slice none 0 0,.int .i64 0,.int .i64 0,.int .i64 0,.int .i64 0,.int .i64 0,.slice none 0 0] 86).fill lenx0).bx
 have Onex0:=all_oneCell_toArray ((rModel_ok NB).one ((rModel_ok NB).toRep ox0))
 have Thex0:(w42.alloc (.cells #[.int .i64 0,.int .i64 0,.int .i64 0,.int .i64 0,.int .i64 0,.slice none 0 0,.int .i64 0,.int .i64 0,.int .i64 0,.int .i64 0,.int .i64 0,.slice none 0 0,.int .i64 0,.int .i64 0,.int .i64 0,.int .i64 0,.int .i64 0,.slice none 0 0,.int .i64 0,.int .i64 0,.int .i64 0,.int .i64 0,.int .i64 0,.slice none 0 0,.int .i64 0,.int .i64 0,.int .i64 0,.int .i64 0,.int .i64 0,.slice none 0 0] 86)).there w42.heap.size 0 csx0.toArray.size:=by rw [show csx0.toArray.size=30 from List.size_toArray.trans lenx0];exact(Bk.new w42 [.int .i64 0,.int .i64 0,.int .i64 0,.int .i64 0,.int .i64 0,.slice none 0 0,.int .i64 0,.int .i64 0,.int .i64 0,.int .i64 0,.int .i64 0,.slice none 0 0,.int .i64 0,.int .i64 0,.int .i64 0,.int .i64 0,.int .i64 0,.slice none 0 0,.int .i64 0,.int .i64 0,.int .i64 0,.int .i64 0,.int .i64 0,.slice none 0 0,.int .i64 0,.int .i64 0,.int .i64 0,.int .i64 0,.int .i64 0,.slice none 0 0] 86).there
 clear hA44
 have cbxDb_0:=bxDb 0 _ rfl
 go_wp2_with (first|(refine wpList_store_mid rfl 86 _ _ rfl (w42.heap.size) 0 (List.toArray csx0) rfl rfl Thex0 (by rw [show csx0.toArray.size=30 from List.size_toArray.trans lenx0];exact sizeModel) Onex0 ?_)|(refine wpList_load_mid rfl 79 _ rfl (w.heap.size) 0 rfl csM _ bxM.range Tryz.underlying79 rfl (by rw [lenM];exact sizeLawModel) ?_)|(refine wpList_load_mid rfl 86 _ rfl (w42.heap.size) 0 rfl csx0 _ bxx0.range Tryz.underlying86 rfl (by rw [lenx0];exact sizeModel) ?_))
 clear Onex0 Thex0
 refine(toDatabase_c _ xDb _ ((rDatabase_ok NB).keep sDb (cells_below hB))).mono ?_
 rintro e w45 ⟨csx1,fx1,rfl,ox1,frx1,hb46⟩
 replace ox0:=(rModel_ok NB).ownB ox0 hb46
 replace hB:=hB.trans (hb46.mono hB.size)
 replace bxM:=bxM.below hb46
 replace bxDb:=bxDb.below hb46
 replace bxQ:=bxQ.below hb46
 replace bxP:=bxP.below hb46
 replace bxx0:=bxx0.below hb46
 clear hb46 cbxDb_0
 obtain⟨Ax1Tables,nx1Tables,cx1Tables,rfl,_⟩:=rDatabase_rep.1 ((rDatabase_ok NB).toRep ox1)
 have hA47:=(Below.refl w45.heap.size w45).alloc (Nat.le_refl _) (.cells #[.slice Ax1Tables nx1Tables cx1Tables] 26)
 replace ox0:=(rModel_ok NB).ownB ox0 hA47
 replace ox1:=(rDatabase_ok NB).ownB ox1 hA47
 replace hB:=hB.trans (hA47.mono hB.size)
 replace bxM:=bxM.below hA47
 replace bxDb:=bxDb.below hA47
 replace bxQ:=bxQ.below hA47
 replace bxP:=bxP.below hA47
 replace bxx0:=bxx0.below hA47
 have bxx1:=Bx.new w45 [.slice Ax1Tables nx1Tables cx1Tables] 26
 clear hA47
 have cbxQ_0:=bxQ 0 _ rfl
 have cbxQ_1:=bxQ 1 _ rfl
 go_wp2_with (first|(refine wpList_load_mid rfl 79 _ rfl (w.heap.size) 0 rfl csM _ bxM.range Tryz.underlying79 rfl (by rw [lenM];exact sizeLawModel) ?_)|(refine wpList_load_mid rfl 86 _ rfl (w42.heap.size) 0 rfl csx0 _ bxx0.range Tryz.underlying86 rfl (by rw [lenx0];exact sizeModel) ?_))
 refine(toQuery_c _ xQ _ ((rQuery_ok NB).keep sQ (cells_below hB))).mono ?_
 rintro e w48 ⟨csx2,fx2,rfl,ox2,frx2,hb49⟩
 replace ox0:=(rModel_ok NB).ownB ox0 hb49
 replace ox1:=(rDatabase_ok NB).ownB ox1 hb49
 replace hB:=hB.trans (hb49.mono hB.size)
 replace bxM:=bxM.below hb49
 replace bxDb:=bxDb.below hb49
 replace bxQ:=bxQ.below hb49
 replace bxP:=bxP.below hb49
 replace bxx0:=bxx0.below hb49
 replace bxx1:=bxx1.below hb49
 clear hb49 cbxQ_0 cbxQ_1
 obtain⟨Ax2Atoms,nx2Atoms,cx2Atoms,rfl,_,_⟩:=rQuery_rep.1 ((rQuery_ok NB).toRep ox2)
 have hA50:=(Below.refl w48.heap.size w48).alloc (Nat.le_refl _) (.cells #[.int .i64 xQ.fVariableCount,.slice Ax2Atoms nx2Atoms cx2Atoms] 29)
 replace ox0:=(rModel_ok NB).ownB ox0 hA50
 replace ox1:=(rDatabase_ok NB).ownB ox1 hA50
 replace ox2:=(rQuery_ok NB).ownB ox2 hA50
 replace hB:=hB.trans (hA50.mono hB.size)
 replace bxM:=bxM.below hA50
 replace bxDb:=bxDb.below hA50
 replace bxQ:=bxQ.below hA50
 replace bxP:=bxP.below hA50
 replace bxx0:=bxx0.below hA50
 replace bxx1:=bxx1.below hA50
 have bxx2:=Bx.new w48 [.int .i64 xQ.fVariableCount,.slice Ax2Atoms nx2Atoms cx2Atoms] 29
 clear hA50
 have cbxP_0:=bxP 0 _ rfl
 go_wp2_with (first|(refine wpList_load_mid rfl 79 _ rfl (w.heap.size) 0 rfl csM _ bxM.range Tryz.underlying79 rfl (by rw [lenM];exact sizeLawModel) ?_)|(refine wpList_load_mid rfl 86 _ rfl (w42.heap.size) 0 rfl csx0 _ bxx0.range Tryz.underlying86 rfl (by rw [lenx0];exact sizeModel) ?_))
 refine(toPlan_c _ xP _ ((rPlan_ok NB).keep sP (cells_below hB))).mono ?_
 rintro e w51 ⟨csx3,fx3,rfl,ox3,frx3,hb52⟩
 replace ox0:=(rModel_ok NB).ownB ox0 hb52
 replace ox1:=(rDatabase_ok NB).ownB ox1 hb52
 replace ox2:=(rQuery_ok NB).ownB ox2 hb52
 replace hB:=hB.trans (hb52.mono hB.size)
 replace bxM:=bxM.below hb52
 replace bxDb:=bxDb.below hb52
 replace bxQ:=bxQ.below hb52
 replace bxP:=bxP.below hb52
 replace bxx0:=bxx0.below hb52
 replace bxx1:=bxx1.below hb52
 replace bxx2:=bxx2.below hb52
 clear hb52 cbxP_0
 obtain⟨Ax3Steps,nx3Steps,cx3Steps,rfl,_⟩:=rPlan_rep.1 ((rPlan_ok NB).toRep ox3)
 have hA53:=(Below.refl w51.heap.size w51).alloc (Nat.le_refl _) (.cells #[.slice Ax3Steps nx3Steps cx3Steps] 62)
 replace ox0:=(rModel_ok NB).ownB ox0 hA53
 replace ox1:=(rDatabase_ok NB).ownB ox1 hA53
 replace ox2:=(rQuery_ok NB).ownB ox2 hA53
 replace ox3:=(rPlan_ok NB).ownB ox3 hA53
 replace hB:=hB.trans (hA53.mono hB.size)
 replace bxM:=bxM.below hA53
 replace bxDb:=bxDb.below hA53
 replace bxQ:=bxQ.below hA53
 replace bxP:=bxP.below hA53
 replace bxx0:=bxx0.below hA53
 replace bxx1:=bxx1.below hA53
 replace bxx2:=bxx2.below hA53
 have bxx3:=Bx.new w51 [.slice Ax3Steps nx3Steps cx3Steps] 62
 clear hA53
 have cbxx1_0:=bxx1 0 _ rfl
 have cbxx2_0:=bxx2 0 _ rfl
 have cbxx2_1:=bxx2 1 _ rfl
 have cbxx3_0:=bxx3 0 _ rfl
 go_wp2_with (first|(refine wpList_load_mid rfl 79 _ rfl (w.heap.size) 0 rfl csM _ bxM.range Tryz.underlying79 rfl (by rw [lenM];exact sizeLawModel) ?_)|(refine wpList_load_mid rfl 86 _ rfl (w42.heap.size) 0 rfl csx0 _ bxx0.range Tryz.underlying86 rfl (by rw [lenx0];exact sizeModel) ?_))
 refine(iActualCost_c _ xM _ xDb _ xQ _ xP _ ((rModel_ok NB).toRep ox0) ((rDatabase_ok NB).toRep ox1) ((rQuery_ok NB).toRep ox2) ((rPlan_ok NB).toRep ox3)).mono ?_
 rintro e w54 ⟨rfl,hb55⟩
 replace ox0:=(rModel_ok NB).ownB ox0 hb55
 replace ox1:=(rDatabase_ok NB).ownB ox1 hb55
 replace ox2:=(rQuery_ok NB).ownB ox2 hb55
 replace ox3:=(rPlan_ok NB).ownB ox3 hb55
 replace hB:=hB.trans (hb55.mono hB.size)
 replace bxM:=bxM.below hb55
 replace bxDb:=bxDb.below hb55
 replace bxQ:=bxQ.below hb55
 replace bxP:=bxP.below hb55
 replace bxx0:=bxx0.below hb55
 replace bxx1:=bxx1.below hb55
 replace bxx2:=bxx2.below hb55
 replace bxx3:=bxx3.below hb55
 clear hb55 cbxx1_0 cbxx2_0 cbxx2_1 cbxx3_0
 have hnei:∀ v:Int,(v != v)=false:=fun v=>by simp
 have hneb:∀ v:Bool,(v==v)=true:=fun v=>by simp
 go_wp2_with (first|(refine wpList_load_mid rfl 79 _ rfl (w.heap.size) 0 rfl csM _ bxM.range Tryz.underlying79 rfl (by rw [lenM];exact sizeLawModel) ?_)|(refine wpList_load_mid rfl 86 _ rfl (w42.heap.size) 0 rfl csx0 _ bxx0.range Tryz.underlying86 rfl (by rw [lenx0];exact sizeModel) ?_))
 have HSS:∀ w',Below w54.heap.size w54 w'->(Below w54.heap.size w54 w'/\w'.rangeAt (w.heap.size) 0 csM/\w'.rangeAt (w42.heap.size) 0 csx0):=fun w' hb=>⟨hb,(bxM.below hb).range,(bxx0.below hb).range⟩
 refine wp_region_held_drew (S:=fun w'=>Below w54.heap.size w54 w'/\w'.rangeAt (w.heap.size) 0 csM/\w'.rangeAt (w42.heap.size) 0 csx0) (by kernel_rfl) ?_ (fun hHeld=>?_)
 ·exact HSS _ (Below.refl _ _).drew
 refine' wpAnyH_take (i:=0) (v:=_) rfl (by kernel_rfl) (by kernel_rfl) (by kernel_rfl) (fun _ _ _ h=>h) (yieldsIf_load_mid (by rfl) _ _ rfl _ _ rfl _ _ (fun w h=>h.2.2) Tryz.underlying86 rfl (by rw [lenx0];exact sizeModel)) hHeld ?_
 simp only [Act.put,List.setIfInBounds_toArray,List.set_cons_zero,List.set_cons_succ]
 refine' wpAnyH_take (i:=1) (v:=_) rfl (by kernel_rfl) (by kernel_rfl) (by kernel_rfl) (fun _ _ _ h=>h) (yieldsIf_load_mid (by rfl) _ _ rfl _ _ rfl _ _ (fun w h=>h.2.1) Tryz.underlying79 rfl (by rw [lenM];exact sizeLawModel)) hHeld ?_
 simp only [Act.put,List.setIfInBounds_toArray,List.set_cons_zero,List.set_cons_succ]
 refine wpAnyH_ready (rs:=[2]) (by kernel_rfl) (by simp) ?_
 refine AllReadyH.cons rfl (fun K hK=>?_) AllReadyH.nil
 have HSS':=Lib.hid HSS;clear HSS
 clear hHeld
 go_simp
 refine(toModel_c _ xM _ ((rModel_ok NB).keep sM (cells_below (hB.trans (Below.mono ((Below.refl w54.heap.size w54).drew) hB.size))))).mono ?_
 rintro e wq1 ⟨csq,fq,rfl,oq,frq,hbq1⟩
 have hCq1:Below w54.heap.size w54 wq1:=Below.trans ((Below.refl w54.heap.size w54).drew) hbq1
 have Rq:=(rModel_ok NB).toRep oq;clear oq frq hbq1
 go_wp2_with fail
 refine hK.out _ _ (HSS'.out _ hCq1) (fun hHeld=>?_)
 clear hK K hHeld
 try simp only [Act.put,List.setIfInBounds_toArray,List.set_cons_zero,List.set_cons_succ]
 refine wpAnyH_ready (rs:=[3]) (by kernel_rfl) (by simp) ?_
 refine AllReadyH.cons rfl (fun K hK=>?_) AllReadyH.nil
 go_simp
 refine(eqModel_c _ _ xM xM _ ((rModel_ok NB).keep ((rModel_ok NB).toRep ox0) (cells_below hCq1)) Rq).mono ?_
 rintro e w62 ⟨rfl,hbq2⟩
 have hC64:Below w54.heap.size w54 w62:=Below.trans hCq1 (hbq2.mono hCq1.size)
 clear hbq2 hCq1 Rq
 go_wp2_with fail
 refine hK.out _ _ (HSS'.out _ hC64) (fun hHeld=>?_)
 clear hK K hHeld
 try simp only [Act.put,List.setIfInBounds_toArray,List.set_cons_zero,List.set_cons_succ]
 refine wpAnyH_ready (rs:=[4]) (by kernel_rfl) (by simp) ?_
 refine AllReadyH.cons rfl (fun K hK=>?_) AllReadyH.nil
 go_simp
 refine hK.out _ _ (HSS'.out _ hC64) (fun hHeld=>?_)
 clear hK K hHeld HSS'
 try simp only [Act.put,List.setIfInBounds_toArray,List.set_cons_zero,List.set_cons_succ]
 refine wpAnyH_done (by kernel_rfl) ?_ _
 replace ox0:=(rModel_ok NB).ownB ox0 hC64
 replace ox1:=(rDatabase_ok NB).ownB ox1 hC64
 replace ox2:=(rQuery_ok NB).ownB ox2 hC64
 replace ox3:=(rPlan_ok NB).ownB ox3 hC64
 replace hB:=hB.trans (hC64.mono hB.size)
 replace bxM:=bxM.below hC64
 replace bxDb:=bxDb.below hC64
 replace bxQ:=bxQ.below hC64
 replace bxP:=bxP.below hC64
 replace bxx0:=bxx0.below hC64
 replace bxx1:=bxx1.below hC64
 replace bxx2:=bxx2.below hC64
 replace bxx3:=bxx3.below hC64
 clear hC64
 have hdx0:decide (xM=xM)=true:=by simp
 go_wp2_with (first|(refine wpList_load_mid rfl 79 _ rfl (w.heap.size) 0 rfl csM _ bxM.range Tryz.underlying79 rfl (by rw [lenM];exact sizeLawModel) ?_)|(refine wpList_load_mid rfl 86 _ rfl (w42.heap.size) 0 rfl csx0 _ bxx0.range Tryz.underlying86 rfl (by rw [lenx0];exact sizeModel) ?_))
 have SS66:∀ w',Below w62.heap.size w62 w'->(Below w62.heap.size w62 w'/\w'.cell? ⟨w.heap.size+1,0,none⟩=some (.slice ADbTables nDbTables cDbTables)/\w'.cell? ⟨w45.heap.size,0,none⟩=some (.slice Ax1Tables nx1Tables cx1Tables)):=fun w' hb=>⟨hb,bxDb.below hb 0 _ rfl,bxx1.below hb 0 _ rfl⟩
 have HSS66:=Lib.hid SS66;clear SS66
 have tok71:True:=trivial
 have tok75:True:=trivial
 go_region_held3 (fun w'=>Below w62.heap.size w62 w'/\w'.cell? ⟨w.heap.size+1,0,none⟩=some (.slice ADbTables nDbTables cDbTables)/\w'.cell? ⟨w45.heap.size,0,none⟩=some (.slice Ax1Tables nx1Tables cx1Tables)) (first|exact HSS66.out _ (Below.refl _ _).drew|exact HSS66.out _ (by assumption)) (first|(go_at_call 22;have _t:=tok71;refine(toDatabase_c _ xDb _ ((rDatabase_ok NB).keep sDb (cells_below (hB.trans (Below.mono ((Below.refl w62.heap.size w62).drew) hB.size))))).mono ?_;rintro e w68 ⟨csv67,fv67,rfl,ov67,frv67,hb69⟩;have hC70:Below w62.heap.size w62 w68:=Below.trans ((Below.refl w62.heap.size w62).drew) (hb69.mono ((Below.refl w62.heap.size w62).drew).size);have Rv67:=(rDatabase_ok NB).toRep ov67;clear tok71)|(go_at_call 27;have _t:=tok75;refine(eqDatabase_c _ _ xDb xDb _ ((rDatabase_ok NB).keep ((rDatabase_ok NB).toRep ox1) (cells_below (hC70))) Rv67).mono ?_;rintro e w72 ⟨rfl,hb73⟩;have hC74:Below w62.heap.size w62 w72:=Below.trans (hC70) (hb73.mono (hC70).size);clear tok75))
 replace ox0:=(rModel_ok NB).ownB ox0 hC74
 replace ox1:=(rDatabase_ok NB).ownB ox1 hC74
 replace ox2:=(rQuery_ok NB).ownB ox2 hC74
 replace ox3:=(rPlan_ok NB).ownB ox3 hC74
 replace hB:=hB.trans (hC74.mono hB.size)
 replace bxM:=bxM.below hC74
 replace bxDb:=bxDb.below hC74
 replace bxQ:=bxQ.below hC74
 replace bxP:=bxP.below hC74
 replace bxx0:=bxx0.below hC74
 replace bxx1:=bxx1.below hC74
 replace bxx2:=bxx2.below hC74
 replace bxx3:=bxx3.below hC74
 clear HSS66 hC74
 have hdx1:decide (xDb=xDb)=true:=by simp
 go_wp2_with (first|(refine wpList_load_mid rfl 79 _ rfl (w.heap.size) 0 rfl csM _ bxM.range Tryz.underlying79 rfl (by rw [lenM];exact sizeLawModel) ?_)|(refine wpList_load_mid rfl 86 _ rfl (w42.heap.size) 0 rfl csx0 _ bxx0.range Tryz.underlying86 rfl (by rw [lenx0];exact sizeModel) ?_))
 have SS76:∀ w',Below w72.heap.size w72 w'->(Below w72.heap.size w72 w'/\w'.cell? ⟨w.heap.size+1+1,0,none⟩=some (.int .i64 xQ.fVariableCount)/\w'.cell? ⟨w.heap.size+1+1,1,none⟩=some (.slice AQAtoms nQAtoms cQAtoms)/\w'.cell? ⟨w48.heap.size,0,none⟩=some (.int .i64 xQ.fVariableCount)/\w'.cell? ⟨w48.heap.size,1,none⟩=some (.slice Ax2Atoms nx2Atoms cx2Atoms)):=fun w' hb=>⟨hb,bxQ.below hb 0 _ rfl,bxQ.below hb 1 _ rfl,bxx2.below hb 0 _ rfl,bxx2.below hb 1 _ rfl⟩
 have HSS76:=Lib.hid SS76;clear SS76
 have tok81:True:=trivial
 have tok85:True:=trivial
 go_region_held3 (fun w'=>Below w72.heap.size w72 w'/\w'.cell? ⟨w.heap.size+1+1,0,none⟩=some (.int .i64 xQ.fVariableCount)/\w'.cell? ⟨w.heap.size+1+1,1,none⟩=some (.slice AQAtoms nQAtoms cQAtoms)/\w'.cell? ⟨w48.heap.size,0,none⟩=some (.int .i64 xQ.fVariableCount)/\w'.cell? ⟨w48.heap.size,1,none⟩=some (.slice Ax2Atoms nx2Atoms cx2Atoms)) (first|exact HSS76.out _ (Below.refl _ _).drew|exact HSS76.out _ (by assumption)) (first|(go_at_call 23;have _t:=tok81;refine(toQuery_c _ xQ _ ((rQuery_ok NB).keep sQ (cells_below (hB.trans (Below.mono ((Below.refl w72.heap.size w72).drew) hB.size))))).mono ?_;rintro e w78 ⟨csv77,fv77,rfl,ov77,frv77,hb79⟩;have hC80:Below w72.heap.size w72 w78:=Below.trans ((Below.refl w72.heap.size w72).drew) (hb79.mono ((Below.refl w72.heap.size w72).drew).size);have Rv77:=(rQuery_ok NB).toRep ov77;clear tok81)|(go_at_call 28;have _t:=tok85;refine(eqQuery_c _ _ xQ xQ _ ((rQuery_ok NB).keep ((rQuery_ok NB).toRep ox2) (cells_below (hC80))) Rv77).mono ?_;rintro e w82 ⟨rfl,hb83⟩;have hC84:Below w72.heap.size w72 w82:=Below.trans (hC80) (hb83.mono (hC80).size);clear tok85))
 replace ox0:=(rModel_ok NB).ownB ox0 hC84
 replace ox1:=(rDatabase_ok NB).ownB ox1 hC84
 replace ox2:=(rQuery_ok NB).ownB ox2 hC84
 replace ox3:=(rPlan_ok NB).ownB ox3 hC84
 replace hB:=hB.trans (hC84.mono hB.size)
 replace bxM:=bxM.below hC84
 replace bxDb:=bxDb.below hC84
 replace bxQ:=bxQ.below hC84
 replace bxP:=bxP.below hC84
 replace bxx0:=bxx0.below hC84
 replace bxx1:=bxx1.below hC84
 replace bxx2:=bxx2.below hC84
 replace bxx3:=bxx3.below hC84
 clear HSS76 hC84
 have hdx2:decide (xQ=xQ)=true:=by simp
 go_wp2_with (first|(refine wpList_load_mid rfl 79 _ rfl (w.heap.size) 0 rfl csM _ bxM.range Tryz.underlying79 rfl (by rw [lenM];exact sizeLawModel) ?_)|(refine wpList_load_mid rfl 86 _ rfl (w42.heap.size) 0 rfl csx0 _ bxx0.range Tryz.underlying86 rfl (by rw [lenx0];exact sizeModel) ?_))
 have SS86:∀ w',Below w82.heap.size w82 w'->(Below w82.heap.size w82 w'/\w'.cell? ⟨w.heap.size+1+1+1,0,none⟩=some (.slice APSteps nPSteps cPSteps)/\w'.cell? ⟨w51.heap.size,0,none⟩=some (.slice Ax3Steps nx3Steps cx3Steps)):=fun w' hb=>⟨hb,bxP.below hb 0 _ rfl,bxx3.below hb 0 _ rfl⟩
 have HSS86:=Lib.hid SS86;clear SS86
 have tok91:True:=trivial
 have tok95:True:=trivial
 go_region_held3 (fun w'=>Below w82.heap.size w82 w'/\w'.cell? ⟨w.heap.size+1+1+1,0,none⟩=some (.slice APSteps nPSteps cPSteps)/\w'.cell? ⟨w51.heap.size,0,none⟩=some (.slice Ax3Steps nx3Steps cx3Steps)) (first|exact HSS86.out _ (Below.refl _ _).drew|exact HSS86.out _ (by assumption)) (first|(go_at_call 24;have _t:=tok91;refine(toPlan_c _ xP _ ((rPlan_ok NB).keep sP (cells_below (hB.trans (Below.mono ((Below.refl w82.heap.size w82).drew) hB.size))))).mono ?_;rintro e w88 ⟨csv87,fv87,rfl,ov87,frv87,hb89⟩;have hC90:Below w82.heap.size w82 w88:=Below.trans ((Below.refl w82.heap.size w82).drew) (hb89.mono ((Below.refl w82.heap.size w82).drew).size);have Rv87:=(rPlan_ok NB).toRep ov87;clear tok91)|(go_at_call 29;have _t:=tok95;refine(eqPlan_c _ _ xP xP _ ((rPlan_ok NB).keep ((rPlan_ok NB).toRep ox3) (cells_below (hC90))) Rv87).mono ?_;rintro e w92 ⟨rfl,hb93⟩;have hC94:Below w82.heap.size w82 w92:=Below.trans (hC90) (hb93.mono (hC90).size);clear tok95))
 replace ox0:=(rModel_ok NB).ownB ox0 hC94
 replace ox1:=(rDatabase_ok NB).ownB ox1 hC94
 replace ox2:=(rQuery_ok NB).ownB ox2 hC94
 replace ox3:=(rPlan_ok NB).ownB ox3 hC94
 replace hB:=hB.trans (hC94.mono hB.size)
 replace bxM:=bxM.below hC94
 replace bxDb:=bxDb.below hC94
 replace bxQ:=bxQ.below hC94
 replace bxP:=bxP.below hC94
 replace bxx0:=bxx0.below hC94
 replace bxx1:=bxx1.below hC94
 replace bxx2:=bxx2.below hC94
 replace bxx3:=bxx3.below hC94
 clear HSS86 hC94
 have hdx3:decide (xP=xP)=true:=by simp
 go_wp2
 go_ret
 exact⟨rfl,hB⟩

set_option maxRecDepth 100000 in
theorem lifted (os:Os) (started:os.Started) (H:Type) (enc:TypeId × Value->H) :
  ReturnsInHanded {} Tryz.checked os 6 .any (Rows.fnExactActualCostSpec.pre6 enc Tryz.prog Tryz.f6 Rows.fnExactActualCostRow.domain false) (Rows.fnExactActualCostSpec.post enc Tryz.prog Tryz.f6 false true false false):=by
 refine returnsInHanded_of_change (C:=Tryz.checked) own started (by kernel_rfl) Tryz.func6
  (ChangeSpec.witness6 (enc:=enc) (C:=Tryz.checked) false ⟨#[],#[.agg #[.int .i64 0,.int .i64 0,.int .i64 0,.int .i64 0,.int .i64 0,.slice none 0 0,.int .i64 0,.int .i64 0,.int .i64 0,.int .i64 0,.int .i64 0,.slice none 0 0,.int .i64 0,.int .i64 0,.int .i64 0,.int .i64 0,.int .i64 0,.slice none 0 0,.int .i64 0,.int .i64 0,.int .i64 0,.int .i64 0,.int .i64 0,.slice none 0 0,.int .i64 0,.int .i64 0,.int .i64 0,.int .i64 0,.int .i64 0,.slice none 0 0],.agg #[.slice none 0 0],.agg #[.int .i64 0,.slice none 0 0],.agg #[.slice none 0 0]],[]⟩ 8 (by kernel_rfl) (by kernel_rfl) (by kernel_rfl) (by kernel_rfl)) ?_
 intro W base args ds gs before hval0 hW hcnd _
 have hval:∀ (j:Nat) t v,Tryz.f6.params[j]?=some t->args[j]?=some v->Value.okWide Tryz.prog W .any base t v:=hval0
 have hW':=hW
 obtain⟨p,q,hA0,hV,rfl,hfz,hnd⟩:=hW
 have hA:DataW.TrodAll enc Tryz.prog W 0 (fun _=>true) true Tryz.f6.params.toList args.toList ds p:=hA0
 rw [Tryz.params6]at hA hval
 obtain⟨v0,vs0,d0,ds0,p0,q0,hargs,rfl,rfl,h0,r0⟩:=trodAll_cons hA
 obtain⟨v1,vs1,d1,ds1,p1,q1,rfl,rfl,rfl,h1,r1⟩:=trodAll_cons r0
 obtain⟨v2,vs2,d2,ds2,p2,q2,rfl,rfl,rfl,h2,r2⟩:=trodAll_cons r1
 obtain⟨v3,vs3,d3,ds3,p3,q3,rfl,rfl,rfl,h3,r3⟩:=trodAll_cons r2
 obtain⟨rfl,rfl,rfl⟩:=trodAll_nil r3
 obtain rfl:args=#[v0,v1,v2,v3]:=by cases args;simp_all
 obtain⟨rfl,rfl⟩:=trodVars_none hV
 obtain⟨ca0,rfl,_⟩:=okWide_struct Tryz.underlying79 (hval 0 79 v0 rfl rfl)
 obtain⟨cl0⟩:=ca0
 have k0:=h0
 have lt0:∀ x∈p0,x.block<W.heap.size:=by obtain⟨m,hm⟩:=k0;exact DataW.trod_lt m _ _ _ hm
 obtain⟨x0,g0⟩:∃ x,(rModel maxLen).rep W cl0 x:=by
  obtain⟨fuel,hf⟩:=h0
  exact opensModel hf
 obtain⟨ca1,rfl,_⟩:=okWide_struct Tryz.underlying47 (hval 1 47 v1 rfl rfl)
 obtain⟨cl1⟩:=ca1
 have k1:=h1
 have lt1:∀ x∈p1,x.block<W.heap.size:=by obtain⟨m,hm⟩:=k1;exact DataW.trod_lt m _ _ _ hm
 obtain⟨x1,g1⟩:∃ x,(rDatabase maxLen).rep W cl1 x:=by
  obtain⟨fuel,hf⟩:=h1
  exact opensDatabase hf
 obtain⟨ca2,rfl,_⟩:=okWide_struct Tryz.underlying50 (hval 2 50 v2 rfl rfl)
 obtain⟨cl2⟩:=ca2
 have k2:=h2
 have lt2:∀ x∈p2,x.block<W.heap.size:=by obtain⟨m,hm⟩:=k2;exact DataW.trod_lt m _ _ _ hm
 obtain⟨x2,g2⟩:∃ x,(rQuery maxLen).rep W cl2 x:=by
  obtain⟨fuel,hf⟩:=h2
  exact opensQuery hf
 obtain⟨ca3,rfl,_⟩:=okWide_struct Tryz.underlying53 (hval 3 53 v3 rfl rfl)
 obtain⟨cl3⟩:=ca3
 have k3:=h3
 have lt3:∀ x∈p3,x.block<W.heap.size:=by obtain⟨m,hm⟩:=k3;exact DataW.trod_lt m _ _ _ hm
 obtain⟨x3,g3⟩:∃ x,(rPlan maxLen).rep W cl3 x:=by
  obtain⟨fuel,hf⟩:=h3
  exact opensPlan hf
 clear hA0 hval0
 refine(walk cl0 x0 cl1 x1 cl2 x2 cl3 x3 W g0 g1 g2 g3).mono fun e W' ⟨he,bel⟩=>?_
 subst he
 exact⟨_,rfl,_,_,_,[],_,[],hW',trodAll_mk1 (shut_bool Tryz.underlying4 _),(trodAll_cons_mk (Below.trod laidOut (by kernel_rfl) (of_decide_eq_true (by kernel_rfl)) k0 bel lt0) (trodAll_cons_mk (Below.trod laidOut (by kernel_rfl) (of_decide_eq_true (by kernel_rfl)) k1 bel lt1) (trodAll_cons_mk (Below.trod laidOut (by kernel_rfl) (of_decide_eq_true (by kernel_rfl)) k2 bel lt2) (trodAll_cons_mk (Below.trod laidOut (by kernel_rfl) (of_decide_eq_true (by kernel_rfl)) k3 bel lt3) trodAll_mk0)))),rfl,bel.frame _,fun h=>by cases h⟩

theorem over:Rows.fnExactActualCostRow.holds Tryz.pinned (OpenSpec.ofChange Rows.fnExactActualCostSpec) :=
 OpenClaim.holds_of_wide 6 Tryz.f6 rfl rfl rfl rfl rfl rfl rfl ⟨rfl,rfl,rfl,rfl,rfl⟩ rfl rfl rfl rfl rfl (by kernel_rfl) Tryz.func6 (by kernel_rfl)
  (of_decide_eq_true (by kernel_rfl)) (by unfold Func.isWrapper;first|(rw [if_pos (by decide +kernel)];kernel_rfl)|(rw [if_neg (by decide +kernel)];exact⟨rfl,rfl⟩))
  (fun os started H enc _=>lifted os started H enc)

theorem proved : Rows.FnExactActualCostSaid := over
#print axioms proved
end Go.Proofs.YtpodldagcnfhlaaGreat.fnExactActualCost
