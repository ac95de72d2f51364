/-
  FnExactRunSizes
-/
import Derived.Test.YtpodldagcnfhlaaGreatRows
import Derived.Test.YtpodldagcnfhlaaGreatKeep
import Derived.Test.YtpodldagcnfhlaaGreatRsz
import Derived.Test.YtpodldagcnfhlaaGreatOpens
import Derived.Test.YtpodldagcnfhlaaGreatTo
import Derived.Test.YtpodldagcnfhlaaGreatEq
import Derived.WalkKit
import Derived.ProofKit
import Derived.OpenShut
import Derived.ShutString
import Derived.ChangeOld
import Derived.Below
import Derived.Deep.RegionHeld3
import Derived.Test.YtpodldagcnfhlaaGreatMarkC
namespace Go.Proofs.YtpodldagcnfhlaaGreat.fnExactRunSizes
open Go.ChangeShapes Go.WideShapes Go.ChangeAt Go.RowKit
open Go.ChangeMaps (open_string shut_string)
set_option linter.unusedVariables false
set_option linter.unusedSimpArgs false

theorem own:ownKnob Tryz.prog.godebug=none:=by kernel_rfl
theorem laidOut:laidOutB Tryz.prog=true:=by kernel_rfl

set_option maxRecDepth 100000 in
set_option maxHeartbeats 4000000 in
theorem walk (csDb:List Value) (xDb:DatabaseD) (csQ:List Value) (xQ:QueryD) (csP:List Value) (xP:PlanD) (w:World) (rDb:(rDatabase maxLen).rep w csDb xDb) (rQ:(rQuery maxLen).rep w csQ xQ) (rP:(rPlan maxLen).rep w csP xP) :
  Calls Tryz.prog 4 #[.agg csDb.toArray,.agg csQ.toArray,.agg csP.toArray] w fun e w'=>e=.returned (.bool true)/\Below w.heap.size w w':=by
 have hB:Below w.heap.size w w:=Below.refl _ _
 have qDb:=rDb
 obtain⟨ADbTables,nDbTables,cDbTables,rfl,hDbTables⟩:=rDatabase_rep.1 qDb
 clear qDb
 have qQ:=rQ
 obtain⟨AQAtoms,nQAtoms,cQAtoms,rfl,hQVariableCount,hQAtoms⟩:=rQuery_rep.1 qQ
 clear qQ
 have qP:=rP
 obtain⟨APSteps,nPSteps,cPSteps,rfl,hPSteps⟩:=rPlan_rep.1 qP
 clear qP
 go_enter Tryz.func4,Tryz.ntmps4
 have hA1:=(Below.refl (World.heap (w)).size (w)).alloc (Nat.le_refl _) (.cells #[.slice ADbTables nDbTables cDbTables] 47)
 replace hB:=hB.trans (hA1.mono hB.size)
 have bxDb:=Bx.new (w) [.slice ADbTables nDbTables cDbTables] 47
 clear hA1
 have hA2:=(Below.refl (World.heap ((w).alloc (.cells #[.slice ADbTables nDbTables cDbTables] 47))).size ((w).alloc (.cells #[.slice ADbTables nDbTables cDbTables] 47))).alloc (Nat.le_refl _) (.cells #[.int .i64 xQ.fVariableCount,.slice AQAtoms nQAtoms cQAtoms] 50)
 replace hB:=hB.trans (hA2.mono hB.size)
 replace bxDb:=bxDb.below hA2
 have bxQ:=Bx.new ((w).alloc (.cells #[.slice ADbTables nDbTables cDbTables] 47)) [.int .i64 xQ.fVariableCount,.slice AQAtoms nQAtoms cQAtoms] 50
 simp only [World.size_alloc]at bxQ
 clear hA2
 have hA3:=(Below.refl (World.heap (((w).alloc (.cells #[.slice ADbTables nDbTables cDbTables] 47)).alloc (.cells #[.int .i64 xQ.fVariableCount,.slice AQAtoms nQAtoms cQAtoms] 50))).size (((w).alloc (.cells #[.slice ADbTables nDbTables cDbTables] 47)).alloc (.cells #[.int .i64 xQ.fVariableCount,.slice AQAtoms nQAtoms cQAtoms] 50))).alloc (Nat.le_refl _) (.cells #[.slice APSteps nPSteps cPSteps] 53)
 replace hB:=hB.trans (hA3.mono hB.size)
 replace bxDb:=bxDb.below hA3
 replace bxQ:=bxQ.below hA3
 have bxP:=Bx.new (((w).alloc (.cells #[.slice ADbTables nDbTables cDbTables] 47)).alloc (.cells #[.int .i64 xQ.fVariableCount,.slice AQAtoms nQAtoms cQAtoms] 50)) [.slice APSteps nPSteps cPSteps] 53
 simp only [World.size_alloc]at bxP
 clear hA3
 go_wp2_with fail
 refine(szDatabase_c _ xDb _ _ ((rDatabase_ok maxLen).keep rDb (cells_below hB)) (by omega) (by omega)).mono ?_
 rintro e w5 ⟨rfl,hb4⟩
 have z6:=hb4.size
 try simp only [World.size_alloc]at z6
 have Hz6:=Lib.hid z6;clear z6
 replace hB:=hB.trans (hb4.mono hB.size)
 replace bxDb:=bxDb.below hb4
 replace bxQ:=bxQ.below hb4
 replace bxP:=bxP.below hb4
 clear hb4
 by_cases hszDb:((bulkDatabase xDb:Nat):Int)<=1048576
 rotate_left
 ·rw [lessBy_no hszDb]
  go_wp2
  go_ret
  exact⟨rfl,hB⟩
 rw [lessBy_yes hszDb]
 have sDb:=smallDatabase rDb (by omega)
 obtain⟨L7,hL7⟩:∃ L:Int,L=1048576 - ((bulkDatabase xDb:Nat):Int):=⟨_,rfl⟩
 rw [<- hL7]
 have pL7:0<=L7:=by omega
 have uL7:L7<=1048576:=by omega
 clear hL7
 have cbxQ_0:=bxQ 0 _ rfl
 have cbxQ_1:=bxQ 1 _ rfl
 go_wp2_with fail
 refine(szQuery_c _ xQ _ _ ((rQuery_ok maxLen).keep rQ (cells_below hB)) (by omega) (by omega)).mono ?_
 rintro e w9 ⟨rfl,hb8⟩
 have z10:=hb8.size
 try simp only [World.size_alloc]at z10
 have Hz10:=Lib.hid z10;clear z10
 replace hB:=hB.trans (hb8.mono hB.size)
 replace bxDb:=bxDb.below hb8
 replace bxQ:=bxQ.below hb8
 replace bxP:=bxP.below hb8
 clear hb8 cbxQ_0 cbxQ_1
 by_cases hszQ:((bulkQuery xQ:Nat):Int)<=L7
 rotate_left
 ·rw [lessBy_no hszQ]
  go_wp2
  go_ret
  exact⟨rfl,hB⟩
 rw [lessBy_yes hszQ]
 have sQ:=smallQuery rQ (by omega)
 obtain⟨L11,hL11⟩:∃ L:Int,L=L7 - ((bulkQuery xQ:Nat):Int):=⟨_,rfl⟩
 rw [<- hL11]
 have pL11:0<=L11:=by omega
 have uL11:L11<=1048576:=by omega
 clear hL11
 have cbxP_0:=bxP 0 _ rfl
 go_wp2_with fail
 refine(szPlan_c _ xP _ _ ((rPlan_ok maxLen).keep rP (cells_below hB)) (by omega) (by omega)).mono ?_
 rintro e w13 ⟨rfl,hb12⟩
 have z14:=hb12.size
 try simp only [World.size_alloc]at z14
 have Hz14:=Lib.hid z14;clear z14
 replace hB:=hB.trans (hb12.mono hB.size)
 replace bxDb:=bxDb.below hb12
 replace bxQ:=bxQ.below hb12
 replace bxP:=bxP.below hb12
 clear hb12 cbxP_0
 by_cases hszP:((bulkPlan xP:Nat):Int)<=L11
 rotate_left
 ·rw [lessBy_no hszP]
  go_wp2
  go_ret
  exact⟨rfl,hB⟩
 rw [lessBy_yes hszP]
 have sP:=smallPlan rP (by omega)
 obtain⟨L15,hL15⟩:∃ L:Int,L=L11 - ((bulkPlan xP:Nat):Int):=⟨_,rfl⟩
 rw [<- hL15]
 have pL15:0<=L15:=by omega
 have uL15:L15<=1048576:=by omega
 clear hL15
 go_wp2_with fail
 have SS16:∀ w',Below w13.heap.size w13 w'->(Below w13.heap.size w13 w'/\w'.cell? ⟨w.heap.size,0,none⟩=some (.slice ADbTables nDbTables cDbTables)/\w'.cell? ⟨w.heap.size+1,0,none⟩=some (.int .i64 xQ.fVariableCount)/\w'.cell? ⟨w.heap.size+1,1,none⟩=some (.slice AQAtoms nQAtoms cQAtoms)/\w'.cell? ⟨w.heap.size+1+1,0,none⟩=some (.slice APSteps nPSteps cPSteps)):=fun w' hb=>⟨hb,bxDb.below hb 0 _ rfl,bxQ.below hb 0 _ rfl,bxQ.below hb 1 _ rfl,bxP.below hb 0 _ rfl⟩
 have HSS16:=Lib.hid SS16;clear SS16
 have tok21:True:=trivial
 have tok26:True:=trivial
 have tok31:True:=trivial
 have tok35:True:=trivial
 go_region_held3 (fun w'=>Below w13.heap.size w13 w'/\w'.cell? ⟨w.heap.size,0,none⟩=some (.slice ADbTables nDbTables cDbTables)/\w'.cell? ⟨w.heap.size+1,0,none⟩=some (.int .i64 xQ.fVariableCount)/\w'.cell? ⟨w.heap.size+1,1,none⟩=some (.slice AQAtoms nQAtoms cQAtoms)/\w'.cell? ⟨w.heap.size+1+1,0,none⟩=some (.slice APSteps nPSteps cPSteps)) (first|exact HSS16.out _ (Below.refl _ _).drew|exact HSS16.out _ (by assumption)) (first|(go_at_call 22;have _t:=tok21;refine(toDatabase_c _ xDb _ ((rDatabase_ok NB).keep sDb (cells_below (hB.trans (Below.mono ((Below.refl w13.heap.size w13).drew) hB.size))))).mono ?_;rintro e w18 ⟨csv17,fv17,rfl,ov17,frv17,hb19⟩;have hC20:Below w13.heap.size w13 w18:=Below.trans ((Below.refl w13.heap.size w13).drew) (hb19.mono ((Below.refl w13.heap.size w13).drew).size);have Rv17:=(rDatabase_ok NB).toRep ov17;clear tok21)|(go_at_call 23;have _t:=tok26;refine(toQuery_c _ xQ _ ((rQuery_ok NB).keep sQ (cells_below (hB.trans (Below.mono (hC20) hB.size))))).mono ?_;rintro e w23 ⟨csv22,fv22,rfl,ov22,frv22,hb24⟩;have hC25:Below w13.heap.size w13 w23:=Below.trans (hC20) (hb24.mono (hC20).size);have Rv22:=(rQuery_ok NB).toRep ov22;replace Rv17:=(rDatabase_ok NB).keep Rv17 (cells_below hb24);clear tok26)|(go_at_call 24;have _t:=tok31;refine(toPlan_c _ xP _ ((rPlan_ok NB).keep sP (cells_below (hB.trans (Below.mono (hC25) hB.size))))).mono ?_;rintro e w28 ⟨csv27,fv27,rfl,ov27,frv27,hb29⟩;have hC30:Below w13.heap.size w13 w28:=Below.trans (hC25) (hb29.mono (hC25).size);have Rv27:=(rPlan_ok NB).toRep ov27;replace Rv17:=(rDatabase_ok NB).keep Rv17 (cells_below hb29);replace Rv22:=(rQuery_ok NB).keep Rv22 (cells_below hb29);clear tok31)|(go_at_call 21;have _t:=tok35;refine(sRunSizes_c _ xDb _ xQ _ xP _ Rv17 Rv22 Rv27).mono ?_;rintro e w32 ⟨Aw0,nw0,cw0,rfl,⟨fw0,ow0,frw0⟩,hb33⟩;have hC34:Below w13.heap.size w13 w32:=Below.trans (hC30) (hb33.mono (hC30).size);clear tok35))
 have z36:=hC34.size
 try simp only [World.size_alloc]at z36
 have Hz36:=Lib.hid z36;clear z36
 replace hB:=hB.trans (hC34.mono hB.size)
 replace bxDb:=bxDb.below hC34
 replace bxQ:=bxQ.below hC34
 replace bxP:=bxP.below hC34
 clear HSS16 hC34
 have ltw0:=Lib.hid (ow0.lt rInt_ok)
 have fsw0:=frw0
 have HFw0:Hid (∀ k∈fw0,_<=k):=fsw0.ge
 try simp only [World.size_alloc]at HFw0
 have ndw0:=fsw0.nd;have NDw0:=Lib.hid ndw0;clear ndw0 fsw0
 have cbxDb_0:=bxDb 0 _ rfl
 go_wp2_with fail
 refine(toDatabase_c _ xDb _ ((rDatabase_ok NB).keep sDb (cells_below hB))).mono ?_
 rintro e w37 ⟨csx0,fx0,rfl,ox0,frx0,hb38⟩
 have z39:=hb38.size
 try simp only [World.size_alloc]at z39
 have Hz39:=Lib.hid z39;clear z39
 replace ow0:=ow0.belowS rInt_ok hb38
 replace hB:=hB.trans (hb38.mono hB.size)
 replace bxDb:=bxDb.below hb38
 replace bxQ:=bxQ.below hb38
 replace bxP:=bxP.below hb38
 clear hb38 cbxDb_0
 have ltx0:=Lib.hid ((rDatabase_ok NB).lt ox0)
 have fsx0:=frx0
 have HFx0:Hid (∀ k∈fx0,_<=k):=fsx0.ge
 try simp only [World.size_alloc]at HFx0
 have ndx0:=fsx0.nd;have NDx0:=Lib.hid ndx0;clear ndx0 fsx0
 obtain⟨Ax0Tables,nx0Tables,cx0Tables,rfl,_⟩:=rDatabase_rep.1 ((rDatabase_ok NB).toRep ox0)
 have hA40:=(Below.refl w37.heap.size w37).alloc (Nat.le_refl _) (.cells #[.slice Ax0Tables nx0Tables cx0Tables] 26)
 replace ow0:=ow0.belowS rInt_ok hA40
 replace ox0:=(rDatabase_ok NB).ownB ox0 hA40
 replace hB:=hB.trans (hA40.mono hB.size)
 replace bxDb:=bxDb.below hA40
 replace bxQ:=bxQ.below hA40
 replace bxP:=bxP.below hA40
 have bxx0:=Bx.new w37 [.slice Ax0Tables nx0Tables cx0Tables] 26
 clear hA40
 have cbxQ_0:=bxQ 0 _ rfl
 have cbxQ_1:=bxQ 1 _ rfl
 go_wp2_with fail
 refine(toQuery_c _ xQ _ ((rQuery_ok NB).keep sQ (cells_below hB))).mono ?_
 rintro e w41 ⟨csx1,fx1,rfl,ox1,frx1,hb42⟩
 have z43:=hb42.size
 try simp only [World.size_alloc]at z43
 have Hz43:=Lib.hid z43;clear z43
 replace ow0:=ow0.belowS rInt_ok hb42
 replace ox0:=(rDatabase_ok NB).ownB ox0 hb42
 replace hB:=hB.trans (hb42.mono hB.size)
 replace bxDb:=bxDb.below hb42
 replace bxQ:=bxQ.below hb42
 replace bxP:=bxP.below hb42
 replace bxx0:=bxx0.below hb42
 clear hb42 cbxQ_0 cbxQ_1
 have ltx1:=Lib.hid ((rQuery_ok NB).lt ox1)
 have fsx1:=frx1
 have HFx1:Hid (∀ k∈fx1,_<=k):=fsx1.ge
 try simp only [World.size_alloc]at HFx1
 have ndx1:=fsx1.nd;have NDx1:=Lib.hid ndx1;clear ndx1 fsx1
 obtain⟨Ax1Atoms,nx1Atoms,cx1Atoms,rfl,_,_⟩:=rQuery_rep.1 ((rQuery_ok NB).toRep ox1)
 have hA44:=(Below.refl w41.heap.size w41).alloc (Nat.le_refl _) (.cells #[.int .i64 xQ.fVariableCount,.slice Ax1Atoms nx1Atoms cx1Atoms] 29)
 replace ow0:=ow0.belowS rInt_ok hA44
 replace ox0:=(rDatabase_ok NB).ownB ox0 hA44
 replace ox1:=(rQuery_ok NB).ownB ox1 hA44
 replace hB:=hB.trans (hA44.mono hB.size)
 replace bxDb:=bxDb.below hA44
 replace bxQ:=bxQ.below hA44
 replace bxP:=bxP.below hA44
 replace bxx0:=bxx0.below hA44
 have bxx1:=Bx.new w41 [.int .i64 xQ.fVariableCount,.slice Ax1Atoms nx1Atoms cx1Atoms] 29
 clear hA44
 have cbxP_0:=bxP 0 _ rfl
 go_wp2_with fail
 refine(toPlan_c _ xP _ ((rPlan_ok NB).keep sP (cells_below hB))).mono ?_
 rintro e w45 ⟨csx2,fx2,rfl,ox2,frx2,hb46⟩
 have z47:=hb46.size
 try simp only [World.size_alloc]at z47
 have Hz47:=Lib.hid z47;clear z47
 replace ow0:=ow0.belowS rInt_ok hb46
 replace ox0:=(rDatabase_ok NB).ownB ox0 hb46
 replace ox1:=(rQuery_ok NB).ownB ox1 hb46
 replace hB:=hB.trans (hb46.mono hB.size)
 replace bxDb:=bxDb.below hb46
 replace bxQ:=bxQ.below hb46
 replace bxP:=bxP.below hb46
 replace bxx0:=bxx0.below hb46
 replace bxx1:=bxx1.below hb46
 clear hb46 cbxP_0
 have ltx2:=Lib.hid ((rPlan_ok NB).lt ox2)
 have fsx2:=frx2
 have HFx2:Hid (∀ k∈fx2,_<=k):=fsx2.ge
 try simp only [World.size_alloc]at HFx2
 have ndx2:=fsx2.nd;have NDx2:=Lib.hid ndx2;clear ndx2 fsx2
 obtain⟨Ax2Steps,nx2Steps,cx2Steps,rfl,_⟩:=rPlan_rep.1 ((rPlan_ok NB).toRep ox2)
 have hA48:=(Below.refl w45.heap.size w45).alloc (Nat.le_refl _) (.cells #[.slice Ax2Steps nx2Steps cx2Steps] 62)
 replace ow0:=ow0.belowS rInt_ok hA48
 replace ox0:=(rDatabase_ok NB).ownB ox0 hA48
 replace ox1:=(rQuery_ok NB).ownB ox1 hA48
 replace ox2:=(rPlan_ok NB).ownB ox2 hA48
 replace hB:=hB.trans (hA48.mono hB.size)
 replace bxDb:=bxDb.below hA48
 replace bxQ:=bxQ.below hA48
 replace bxP:=bxP.below hA48
 replace bxx0:=bxx0.below hA48
 replace bxx1:=bxx1.below hA48
 have bxx2:=Bx.new w45 [.slice Ax2Steps nx2Steps cx2Steps] 62
 clear hA48
 have cbxx0_0:=bxx0 0 _ rfl
 have cbxx1_0:=bxx1 0 _ rfl
 have cbxx1_1:=bxx1 1 _ rfl
 have cbxx2_0:=bxx2 0 _ rfl
 go_wp2_with fail
 refine(iRunSizes_c _ xDb _ xQ _ xP _ ((rDatabase_ok NB).toRep ox0) ((rQuery_ok NB).toRep ox1) ((rPlan_ok NB).toRep ox2)).mono ?_
 rintro e w49 ⟨Ag0,ng0,cg0,rfl,⟨fg0,og0,frg0⟩,hb50⟩
 have z51:=hb50.size
 try simp only [World.size_alloc]at z51
 have Hz51:=Lib.hid z51;clear z51
 replace ow0:=ow0.belowS rInt_ok hb50
 replace ox0:=(rDatabase_ok NB).ownB ox0 hb50
 replace ox1:=(rQuery_ok NB).ownB ox1 hb50
 replace ox2:=(rPlan_ok NB).ownB ox2 hb50
 replace hB:=hB.trans (hb50.mono hB.size)
 replace bxDb:=bxDb.below hb50
 replace bxQ:=bxQ.below hb50
 replace bxP:=bxP.below hb50
 replace bxx0:=bxx0.below hb50
 replace bxx1:=bxx1.below hb50
 replace bxx2:=bxx2.below hb50
 clear hb50 cbxx0_0 cbxx1_0 cbxx1_1 cbxx2_0
 have ltg0:=Lib.hid (og0.lt rInt_ok)
 have fsg0:=frg0
 have HFg0:Hid (∀ k∈fg0,_<=k):=fsg0.ge
 try simp only [World.size_alloc]at HFg0
 have ndg0:=fsg0.nd;have NDg0:=Lib.hid ndg0;clear ndg0 fsg0
 have hnei:∀ v:Int,(v != v)=false:=fun v=>by simp
 have hneb:∀ v:Bool,(v==v)=true:=fun v=>by simp
 go_wp2_with fail
 refine(eqIntS_b _ _ _ _ _ _ _ _ _ (og0.rs rInt_ok) (ow0.rs rInt_ok)).mono ?_
 rintro e w52 ⟨rfl,hb53⟩
 have z54:=hb53.size
 try simp only [World.size_alloc]at z54
 have Hz54:=Lib.hid z54;clear z54
 replace ow0:=ow0.belowS rInt_ok hb53
 replace ox0:=(rDatabase_ok NB).ownB ox0 hb53
 replace ox1:=(rQuery_ok NB).ownB ox1 hb53
 replace ox2:=(rPlan_ok NB).ownB ox2 hb53
 replace og0:=og0.belowS rInt_ok hb53
 replace hB:=hB.trans (hb53.mono hB.size)
 replace bxDb:=bxDb.below hb53
 replace bxQ:=bxQ.below hb53
 replace bxP:=bxP.below hb53
 replace bxx0:=bxx0.below hb53
 replace bxx1:=bxx1.below hb53
 replace bxx2:=bxx2.below hb53
 clear hb53
 have hdr55:decide ((runSizes xDb xQ xP)=(runSizes xDb xQ xP))=true:=by simp
 go_wp2_with fail
 have SS56:∀ w',Below w52.heap.size w52 w'->(Below w52.heap.size w52 w'/\w'.cell? ⟨w.heap.size,0,none⟩=some (.slice ADbTables nDbTables cDbTables)/\w'.cell? ⟨w37.heap.size,0,none⟩=some (.slice Ax0Tables nx0Tables cx0Tables)):=fun w' hb=>⟨hb,bxDb.below hb 0 _ rfl,bxx0.below hb 0 _ rfl⟩
 have HSS56:=Lib.hid SS56;clear SS56
 have tok61:True:=trivial
 have tok65:True:=trivial
 go_region_held3 (fun w'=>Below w52.heap.size w52 w'/\w'.cell? ⟨w.heap.size,0,none⟩=some (.slice ADbTables nDbTables cDbTables)/\w'.cell? ⟨w37.heap.size,0,none⟩=some (.slice Ax0Tables nx0Tables cx0Tables)) (first|exact HSS56.out _ (Below.refl _ _).drew|exact HSS56.out _ (by assumption)) (first|(go_at_call 22;have _t:=tok61;refine(toDatabase_c _ xDb _ ((rDatabase_ok NB).keep sDb (cells_below (hB.trans (Below.mono ((Below.refl w52.heap.size w52).drew) hB.size))))).mono ?_;rintro e w58 ⟨csv57,fv57,rfl,ov57,frv57,hb59⟩;have hC60:Below w52.heap.size w52 w58:=Below.trans ((Below.refl w52.heap.size w52).drew) (hb59.mono ((Below.refl w52.heap.size w52).drew).size);have Rv57:=(rDatabase_ok NB).toRep ov57;clear tok61)|(go_at_call 27;have _t:=tok65;refine(eqDatabase_c _ _ xDb xDb _ ((rDatabase_ok NB).keep ((rDatabase_ok NB).toRep ox0) (cells_below (hC60))) Rv57).mono ?_;rintro e w62 ⟨rfl,hb63⟩;have hC64:Below w52.heap.size w52 w62:=Below.trans (hC60) (hb63.mono (hC60).size);clear tok65))
 have z66:=hC64.size
 try simp only [World.size_alloc]at z66
 have Hz66:=Lib.hid z66;clear z66
 replace ow0:=ow0.belowS rInt_ok hC64
 replace ox0:=(rDatabase_ok NB).ownB ox0 hC64
 replace ox1:=(rQuery_ok NB).ownB ox1 hC64
 replace ox2:=(rPlan_ok NB).ownB ox2 hC64
 replace og0:=og0.belowS rInt_ok hC64
 replace hB:=hB.trans (hC64.mono hB.size)
 replace bxDb:=bxDb.below hC64
 replace bxQ:=bxQ.below hC64
 replace bxP:=bxP.below hC64
 replace bxx0:=bxx0.below hC64
 replace bxx1:=bxx1.below hC64
 replace bxx2:=bxx2.below hC64
 clear HSS56 hC64
 have hdx0:decide (xDb=xDb)=true:=by simp
 go_wp2_with fail
 have SS67:∀ w',Below w62.heap.size w62 w'->(Below w62.heap.size w62 w'/\w'.cell? ⟨w.heap.size+1,0,none⟩=some (.int .i64 xQ.fVariableCount)/\w'.cell? ⟨w.heap.size+1,1,none⟩=some (.slice AQAtoms nQAtoms cQAtoms)/\w'.cell? ⟨w41.heap.size,0,none⟩=some (.int .i64 xQ.fVariableCount)/\w'.cell? ⟨w41.heap.size,1,none⟩=some (.slice Ax1Atoms nx1Atoms cx1Atoms)):=fun w' hb=>⟨hb,bxQ.below hb 0 _ rfl,bxQ.below hb 1 _ rfl,bxx1.below hb 0 _ rfl,bxx1.below hb 1 _ rfl⟩
 have HSS67:=Lib.hid SS67;clear SS67
 have tok72:True:=trivial
 have tok76:True:=trivial
 go_region_held3 (fun w'=>Below w62.heap.size w62 w'/\w'.cell? ⟨w.heap.size+1,0,none⟩=some (.int .i64 xQ.fVariableCount)/\w'.cell? ⟨w.heap.size+1,1,none⟩=some (.slice AQAtoms nQAtoms cQAtoms)/\w'.cell? ⟨w41.heap.size,0,none⟩=some (.int .i64 xQ.fVariableCount)/\w'.cell? ⟨w41.heap.size,1,none⟩=some (.slice Ax1Atoms nx1Atoms cx1Atoms)) (first|exact HSS67.out _ (Below.refl _ _).drew|exact HSS67.out _ (by assumption)) (first|(go_at_call 23;have _t:=tok72;refine(toQuery_c _ xQ _ ((rQuery_ok NB).keep sQ (cells_below (hB.trans (Below.mono ((Below.refl w62.heap.size w62).drew) hB.size))))).mono ?_;rintro e w69 ⟨csv68,fv68,rfl,ov68,frv68,hb70⟩;have hC71:Below w62.heap.size w62 w69:=Below.trans ((Below.refl w62.heap.size w62).drew) (hb70.mono ((Below.refl w62.heap.size w62).drew).size);have Rv68:=(rQuery_ok NB).toRep ov68;clear tok72)|(go_at_call 28;have _t:=tok76;refine(eqQuery_c _ _ xQ xQ _ ((rQuery_ok NB).keep ((rQuery_ok NB).toRep ox1) (cells_below (hC71))) Rv68).mono ?_;rintro e w73 ⟨rfl,hb74⟩;have hC75:Below w62.heap.size w62 w73:=Below.trans (hC71) (hb74.mono (hC71).size);clear tok76))
 have z77:=hC75.size
 try simp only [World.size_alloc]at z77
 have Hz77:=Lib.hid z77;clear z77
 replace ow0:=ow0.belowS rInt_ok hC75
 replace ox0:=(rDatabase_ok NB).ownB ox0 hC75
 replace ox1:=(rQuery_ok NB).ownB ox1 hC75
 replace ox2:=(rPlan_ok NB).ownB ox2 hC75
 replace og0:=og0.belowS rInt_ok hC75
 replace hB:=hB.trans (hC75.mono hB.size)
 replace bxDb:=bxDb.below hC75
 replace bxQ:=bxQ.below hC75
 replace bxP:=bxP.below hC75
 replace bxx0:=bxx0.below hC75
 replace bxx1:=bxx1.below hC75
 replace bxx2:=bxx2.below hC75
 clear HSS67 hC75
 have hdx1:decide (xQ=xQ)=true:=by simp
 go_wp2_with fail
 have SS78:∀ w',Below w73.heap.size w73 w'->(Below w73.heap.size w73 w'/\w'.cell? ⟨w.heap.size+1+1,0,none⟩=some (.slice APSteps nPSteps cPSteps)/\w'.cell? ⟨w45.heap.size,0,none⟩=some (.slice Ax2Steps nx2Steps cx2Steps)):=fun w' hb=>⟨hb,bxP.below hb 0 _ rfl,bxx2.below hb 0 _ rfl⟩
 have HSS78:=Lib.hid SS78;clear SS78
 have tok83:True:=trivial
 have tok87:True:=trivial
 go_region_held3 (fun w'=>Below w73.heap.size w73 w'/\w'.cell? ⟨w.heap.size+1+1,0,none⟩=some (.slice APSteps nPSteps cPSteps)/\w'.cell? ⟨w45.heap.size,0,none⟩=some (.slice Ax2Steps nx2Steps cx2Steps)) (first|exact HSS78.out _ (Below.refl _ _).drew|exact HSS78.out _ (by assumption)) (first|(go_at_call 24;have _t:=tok83;refine(toPlan_c _ xP _ ((rPlan_ok NB).keep sP (cells_below (hB.trans (Below.mono ((Below.refl w73.heap.size w73).drew) hB.size))))).mono ?_;rintro e w80 ⟨csv79,fv79,rfl,ov79,frv79,hb81⟩;have hC82:Below w73.heap.size w73 w80:=Below.trans ((Below.refl w73.heap.size w73).drew) (hb81.mono ((Below.refl w73.heap.size w73).drew).size);have Rv79:=(rPlan_ok NB).toRep ov79;clear tok83)|(go_at_call 29;have _t:=tok87;refine(eqPlan_c _ _ xP xP _ ((rPlan_ok NB).keep ((rPlan_ok NB).toRep ox2) (cells_below (hC82))) Rv79).mono ?_;rintro e w84 ⟨rfl,hb85⟩;have hC86:Below w73.heap.size w73 w84:=Below.trans (hC82) (hb85.mono (hC82).size);clear tok87))
 have z88:=hC86.size
 try simp only [World.size_alloc]at z88
 have Hz88:=Lib.hid z88;clear z88
 replace ow0:=ow0.belowS rInt_ok hC86
 replace ox0:=(rDatabase_ok NB).ownB ox0 hC86
 replace ox1:=(rQuery_ok NB).ownB ox1 hC86
 replace ox2:=(rPlan_ok NB).ownB ox2 hC86
 replace og0:=og0.belowS rInt_ok hC86
 replace hB:=hB.trans (hC86.mono hB.size)
 replace bxDb:=bxDb.below hC86
 replace bxQ:=bxQ.below hC86
 replace bxP:=bxP.below hC86
 replace bxx0:=bxx0.below hC86
 replace bxx1:=bxx1.below hC86
 replace bxx2:=bxx2.below hC86
 clear HSS78 hC86
 have hdx2:decide (xP=xP)=true:=by simp
 have hcbr:Hid ((cnt_IntS (runSizes xDb xQ xP))<=1099511627776):=(by show _<=_;exact(by have e:=cnto_IntS og0;omega))
 have cbxx0_0:=bxx0 0 _ rfl
 go_wp2_with fail
 have hcbw89:(cnt_Database (xDb))<=1099511627776:=(by have e:=cntb_Database xDb;omega)
 refine(markDatabase_m _ (xDb) 1 _ fx0 ox0 NDx0.out (by omega) (by omega)).mono ?_
 rintro e w89 ⟨rfl,omw89,hc90⟩
 replace hB:=hB.trans (hc90.toBelow hB.size (fun k hk=>by have:=HFx0.out k hk;have:=Hz6.out;have:=Hz10.out;have:=Hz14.out;have:=Hz36.out;have:=Hz39.out;have:=Hz43.out;have:=Hz47.out;have:=Hz51.out;have:=Hz54.out;have:=Hz66.out;have:=Hz77.out;have:=Hz88.out;omega))
 replace bxDb:=bxDb.chg hc90 (fun hk=>by have:=HFx0.out _ hk;have:=ltx0.out _ hk;have:=Hz6.out;have:=Hz10.out;have:=Hz14.out;have:=Hz36.out;have:=Hz39.out;have:=Hz43.out;have:=Hz47.out;have:=Hz51.out;have:=Hz54.out;have:=Hz66.out;have:=Hz77.out;have:=Hz88.out;omega)
 replace bxQ:=bxQ.chg hc90 (fun hk=>by have:=HFx0.out _ hk;have:=ltx0.out _ hk;have:=Hz6.out;have:=Hz10.out;have:=Hz14.out;have:=Hz36.out;have:=Hz39.out;have:=Hz43.out;have:=Hz47.out;have:=Hz51.out;have:=Hz54.out;have:=Hz66.out;have:=Hz77.out;have:=Hz88.out;omega)
 replace bxP:=bxP.chg hc90 (fun hk=>by have:=HFx0.out _ hk;have:=ltx0.out _ hk;have:=Hz6.out;have:=Hz10.out;have:=Hz14.out;have:=Hz36.out;have:=Hz39.out;have:=Hz43.out;have:=Hz47.out;have:=Hz51.out;have:=Hz54.out;have:=Hz66.out;have:=Hz77.out;have:=Hz88.out;omega)
 replace bxx0:=bxx0.chg hc90 (fun hk=>by have:=HFx0.out _ hk;have:=ltx0.out _ hk;have:=Hz6.out;have:=Hz10.out;have:=Hz14.out;have:=Hz36.out;have:=Hz39.out;have:=Hz43.out;have:=Hz47.out;have:=Hz51.out;have:=Hz54.out;have:=Hz66.out;have:=Hz77.out;have:=Hz88.out;omega)
 replace bxx1:=bxx1.chg hc90 (fun hk=>by have:=HFx0.out _ hk;have:=ltx0.out _ hk;have:=Hz6.out;have:=Hz10.out;have:=Hz14.out;have:=Hz36.out;have:=Hz39.out;have:=Hz43.out;have:=Hz47.out;have:=Hz51.out;have:=Hz54.out;have:=Hz66.out;have:=Hz77.out;have:=Hz88.out;omega)
 replace bxx2:=bxx2.chg hc90 (fun hk=>by have:=HFx0.out _ hk;have:=ltx0.out _ hk;have:=Hz6.out;have:=Hz10.out;have:=Hz14.out;have:=Hz36.out;have:=Hz39.out;have:=Hz43.out;have:=Hz47.out;have:=Hz51.out;have:=Hz54.out;have:=Hz66.out;have:=Hz77.out;have:=Hz88.out;omega)
 replace ow0:=ow0.chg rInt_ok hc90 (fun k hk hk'=>by have:=HFw0.out k hk;have:=ltw0.out k hk;have:=HFx0.out k hk';have:=ltx0.out k hk';have:=Hz6.out;have:=Hz10.out;have:=Hz14.out;have:=Hz36.out;have:=Hz39.out;have:=Hz43.out;have:=Hz47.out;have:=Hz51.out;have:=Hz54.out;have:=Hz66.out;have:=Hz77.out;have:=Hz88.out;omega)
 replace ox1:=(rQuery_ok NB).ownC ox1 hc90 (fun k hk hk'=>by have:=HFx1.out k hk;have:=ltx1.out k hk;have:=HFx0.out k hk';have:=ltx0.out k hk';have:=Hz6.out;have:=Hz10.out;have:=Hz14.out;have:=Hz36.out;have:=Hz39.out;have:=Hz43.out;have:=Hz47.out;have:=Hz51.out;have:=Hz54.out;have:=Hz66.out;have:=Hz77.out;have:=Hz88.out;omega)
 replace ox2:=(rPlan_ok NB).ownC ox2 hc90 (fun k hk hk'=>by have:=HFx2.out k hk;have:=ltx2.out k hk;have:=HFx0.out k hk';have:=ltx0.out k hk';have:=Hz6.out;have:=Hz10.out;have:=Hz14.out;have:=Hz36.out;have:=Hz39.out;have:=Hz43.out;have:=Hz47.out;have:=Hz51.out;have:=Hz54.out;have:=Hz66.out;have:=Hz77.out;have:=Hz88.out;omega)
 replace og0:=og0.chg rInt_ok hc90 (fun k hk hk'=>by have:=HFg0.out k hk;have:=ltg0.out k hk;have:=HFx0.out k hk';have:=ltx0.out k hk';have:=Hz6.out;have:=Hz10.out;have:=Hz14.out;have:=Hz36.out;have:=Hz39.out;have:=Hz43.out;have:=Hz47.out;have:=Hz51.out;have:=Hz54.out;have:=Hz66.out;have:=Hz77.out;have:=Hz88.out;omega)
 clear ox0;have ox0:=omw89;clear omw89
 have Hz91:=Lib.hid hc90.size
 try simp only [World.size_alloc]at Hz91
 clear hc90 cbxx0_0
 obtain⟨kk92,hkk92⟩:∃ q:Int,q=1+((cnt_Database (xDb)):Nat):=⟨_,rfl⟩
 rw [<- hkk92]
 have pkk92:0<=kk92:=by omega
 have ukk92:kk92<=2199023255552:=by omega
 have Hkkk92:=Lib.hid hkk92;clear hkk92 hcbw89
 have cbxx1_0:=bxx1 0 _ rfl
 have cbxx1_1:=bxx1 1 _ rfl
 go_wp2_with fail
 have hcbw93:(cnt_Query (xQ))<=1099511627776:=(by have e:=cntb_Query xQ;omega)
 refine(markQuery_m _ (xQ) kk92 _ fx1 ox1 NDx1.out (by omega) (by omega)).mono ?_
 rintro e w93 ⟨rfl,omw93,hc94⟩
 replace hB:=hB.trans (hc94.toBelow hB.size (fun k hk=>by have:=HFx1.out k hk;have:=Hz6.out;have:=Hz10.out;have:=Hz14.out;have:=Hz36.out;have:=Hz39.out;have:=Hz43.out;have:=Hz47.out;have:=Hz51.out;have:=Hz54.out;have:=Hz66.out;have:=Hz77.out;have:=Hz88.out;have:=Hz91.out;omega))
 replace bxDb:=bxDb.chg hc94 (fun hk=>by have:=HFx1.out _ hk;have:=ltx1.out _ hk;have:=Hz6.out;have:=Hz10.out;have:=Hz14.out;have:=Hz36.out;have:=Hz39.out;have:=Hz43.out;have:=Hz47.out;have:=Hz51.out;have:=Hz54.out;have:=Hz66.out;have:=Hz77.out;have:=Hz88.out;have:=Hz91.out;omega)
 replace bxQ:=bxQ.chg hc94 (fun hk=>by have:=HFx1.out _ hk;have:=ltx1.out _ hk;have:=Hz6.out;have:=Hz10.out;have:=Hz14.out;have:=Hz36.out;have:=Hz39.out;have:=Hz43.out;have:=Hz47.out;have:=Hz51.out;have:=Hz54.out;have:=Hz66.out;have:=Hz77.out;have:=Hz88.out;have:=Hz91.out;omega)
 replace bxP:=bxP.chg hc94 (fun hk=>by have:=HFx1.out _ hk;have:=ltx1.out _ hk;have:=Hz6.out;have:=Hz10.out;have:=Hz14.out;have:=Hz36.out;have:=Hz39.out;have:=Hz43.out;have:=Hz47.out;have:=Hz51.out;have:=Hz54.out;have:=Hz66.out;have:=Hz77.out;have:=Hz88.out;have:=Hz91.out;omega)
 replace bxx0:=bxx0.chg hc94 (fun hk=>by have:=HFx1.out _ hk;have:=ltx1.out _ hk;have:=Hz6.out;have:=Hz10.out;have:=Hz14.out;have:=Hz36.out;have:=Hz39.out;have:=Hz43.out;have:=Hz47.out;have:=Hz51.out;have:=Hz54.out;have:=Hz66.out;have:=Hz77.out;have:=Hz88.out;have:=Hz91.out;omega)
 replace bxx1:=bxx1.chg hc94 (fun hk=>by have:=HFx1.out _ hk;have:=ltx1.out _ hk;have:=Hz6.out;have:=Hz10.out;have:=Hz14.out;have:=Hz36.out;have:=Hz39.out;have:=Hz43.out;have:=Hz47.out;have:=Hz51.out;have:=Hz54.out;have:=Hz66.out;have:=Hz77.out;have:=Hz88.out;have:=Hz91.out;omega)
 replace bxx2:=bxx2.chg hc94 (fun hk=>by have:=HFx1.out _ hk;have:=ltx1.out _ hk;have:=Hz6.out;have:=Hz10.out;have:=Hz14.out;have:=Hz36.out;have:=Hz39.out;have:=Hz43.out;have:=Hz47.out;have:=Hz51.out;have:=Hz54.out;have:=Hz66.out;have:=Hz77.out;have:=Hz88.out;have:=Hz91.out;omega)
 replace ow0:=ow0.chg rInt_ok hc94 (fun k hk hk'=>by have:=HFw0.out k hk;have:=ltw0.out k hk;have:=HFx1.out k hk';have:=ltx1.out k hk';have:=Hz6.out;have:=Hz10.out;have:=Hz14.out;have:=Hz36.out;have:=Hz39.out;have:=Hz43.out;have:=Hz47.out;have:=Hz51.out;have:=Hz54.out;have:=Hz66.out;have:=Hz77.out;have:=Hz88.out;have:=Hz91.out;omega)
 replace ox0:=(rDatabase_ok NB).ownC ox0 hc94 (fun k hk hk'=>by have:=HFx0.out k hk;have:=ltx0.out k hk;have:=HFx1.out k hk';have:=ltx1.out k hk';have:=Hz6.out;have:=Hz10.out;have:=Hz14.out;have:=Hz36.out;have:=Hz39.out;have:=Hz43.out;have:=Hz47.out;have:=Hz51.out;have:=Hz54.out;have:=Hz66.out;have:=Hz77.out;have:=Hz88.out;have:=Hz91.out;omega)
 replace ox2:=(rPlan_ok NB).ownC ox2 hc94 (fun k hk hk'=>by have:=HFx2.out k hk;have:=ltx2.out k hk;have:=HFx1.out k hk';have:=ltx1.out k hk';have:=Hz6.out;have:=Hz10.out;have:=Hz14.out;have:=Hz36.out;have:=Hz39.out;have:=Hz43.out;have:=Hz47.out;have:=Hz51.out;have:=Hz54.out;have:=Hz66.out;have:=Hz77.out;have:=Hz88.out;have:=Hz91.out;omega)
 replace og0:=og0.chg rInt_ok hc94 (fun k hk hk'=>by have:=HFg0.out k hk;have:=ltg0.out k hk;have:=HFx1.out k hk';have:=ltx1.out k hk';have:=Hz6.out;have:=Hz10.out;have:=Hz14.out;have:=Hz36.out;have:=Hz39.out;have:=Hz43.out;have:=Hz47.out;have:=Hz51.out;have:=Hz54.out;have:=Hz66.out;have:=Hz77.out;have:=Hz88.out;have:=Hz91.out;omega)
 clear ox1;have ox1:=omw93;clear omw93
 have Hz95:=Lib.hid hc94.size
 try simp only [World.size_alloc]at Hz95
 clear hc94 cbxx1_0 cbxx1_1
 obtain⟨kk96,hkk96⟩:∃ q:Int,q=kk92+((cnt_Query (xQ)):Nat):=⟨_,rfl⟩
 rw [<- hkk96]
 have pkk96:0<=kk96:=by omega
 have ukk96:kk96<=4398046511104:=by omega
 have Hkkk96:=Lib.hid hkk96;clear hkk96 hcbw93
 have cbxx2_0:=bxx2 0 _ rfl
 go_wp2_with fail
 have hcbw97:(cnt_Plan (xP))<=1099511627776:=(by have e:=cntb_Plan xP;omega)
 refine(markPlan_m _ (xP) kk96 _ fx2 ox2 NDx2.out (by omega) (by omega)).mono ?_
 rintro e w97 ⟨rfl,omw97,hc98⟩
 replace hB:=hB.trans (hc98.toBelow hB.size (fun k hk=>by have:=HFx2.out k hk;have:=Hz6.out;have:=Hz10.out;have:=Hz14.out;have:=Hz36.out;have:=Hz39.out;have:=Hz43.out;have:=Hz47.out;have:=Hz51.out;have:=Hz54.out;have:=Hz66.out;have:=Hz77.out;have:=Hz88.out;have:=Hz91.out;have:=Hz95.out;omega))
 replace bxDb:=bxDb.chg hc98 (fun hk=>by have:=HFx2.out _ hk;have:=ltx2.out _ hk;have:=Hz6.out;have:=Hz10.out;have:=Hz14.out;have:=Hz36.out;have:=Hz39.out;have:=Hz43.out;have:=Hz47.out;have:=Hz51.out;have:=Hz54.out;have:=Hz66.out;have:=Hz77.out;have:=Hz88.out;have:=Hz91.out;have:=Hz95.out;omega)
 replace bxQ:=bxQ.chg hc98 (fun hk=>by have:=HFx2.out _ hk;have:=ltx2.out _ hk;have:=Hz6.out;have:=Hz10.out;have:=Hz14.out;have:=Hz36.out;have:=Hz39.out;have:=Hz43.out;have:=Hz47.out;have:=Hz51.out;have:=Hz54.out;have:=Hz66.out;have:=Hz77.out;have:=Hz88.out;have:=Hz91.out;have:=Hz95.out;omega)
 replace bxP:=bxP.chg hc98 (fun hk=>by have:=HFx2.out _ hk;have:=ltx2.out _ hk;have:=Hz6.out;have:=Hz10.out;have:=Hz14.out;have:=Hz36.out;have:=Hz39.out;have:=Hz43.out;have:=Hz47.out;have:=Hz51.out;have:=Hz54.out;have:=Hz66.out;have:=Hz77.out;have:=Hz88.out;have:=Hz91.out;have:=Hz95.out;omega)
 replace bxx0:=bxx0.chg hc98 (fun hk=>by have:=HFx2.out _ hk;have:=ltx2.out _ hk;have:=Hz6.out;have:=Hz10.out;have:=Hz14.out;have:=Hz36.out;have:=Hz39.out;have:=Hz43.out;have:=Hz47.out;have:=Hz51.out;have:=Hz54.out;have:=Hz66.out;have:=Hz77.out;have:=Hz88.out;have:=Hz91.out;have:=Hz95.out;omega)
 replace bxx1:=bxx1.chg hc98 (fun hk=>by have:=HFx2.out _ hk;have:=ltx2.out _ hk;have:=Hz6.out;have:=Hz10.out;have:=Hz14.out;have:=Hz36.out;have:=Hz39.out;have:=Hz43.out;have:=Hz47.out;have:=Hz51.out;have:=Hz54.out;have:=Hz66.out;have:=Hz77.out;have:=Hz88.out;have:=Hz91.out;have:=Hz95.out;omega)
 replace bxx2:=bxx2.chg hc98 (fun hk=>by have:=HFx2.out _ hk;have:=ltx2.out _ hk;have:=Hz6.out;have:=Hz10.out;have:=Hz14.out;have:=Hz36.out;have:=Hz39.out;have:=Hz43.out;have:=Hz47.out;have:=Hz51.out;have:=Hz54.out;have:=Hz66.out;have:=Hz77.out;have:=Hz88.out;have:=Hz91.out;have:=Hz95.out;omega)
 replace ow0:=ow0.chg rInt_ok hc98 (fun k hk hk'=>by have:=HFw0.out k hk;have:=ltw0.out k hk;have:=HFx2.out k hk';have:=ltx2.out k hk';have:=Hz6.out;have:=Hz10.out;have:=Hz14.out;have:=Hz36.out;have:=Hz39.out;have:=Hz43.out;have:=Hz47.out;have:=Hz51.out;have:=Hz54.out;have:=Hz66.out;have:=Hz77.out;have:=Hz88.out;have:=Hz91.out;have:=Hz95.out;omega)
 replace ox0:=(rDatabase_ok NB).ownC ox0 hc98 (fun k hk hk'=>by have:=HFx0.out k hk;have:=ltx0.out k hk;have:=HFx2.out k hk';have:=ltx2.out k hk';have:=Hz6.out;have:=Hz10.out;have:=Hz14.out;have:=Hz36.out;have:=Hz39.out;have:=Hz43.out;have:=Hz47.out;have:=Hz51.out;have:=Hz54.out;have:=Hz66.out;have:=Hz77.out;have:=Hz88.out;have:=Hz91.out;have:=Hz95.out;omega)
 replace ox1:=(rQuery_ok NB).ownC ox1 hc98 (fun k hk hk'=>by have:=HFx1.out k hk;have:=ltx1.out k hk;have:=HFx2.out k hk';have:=ltx2.out k hk';have:=Hz6.out;have:=Hz10.out;have:=Hz14.out;have:=Hz36.out;have:=Hz39.out;have:=Hz43.out;have:=Hz47.out;have:=Hz51.out;have:=Hz54.out;have:=Hz66.out;have:=Hz77.out;have:=Hz88.out;have:=Hz91.out;have:=Hz95.out;omega)
 replace og0:=og0.chg rInt_ok hc98 (fun k hk hk'=>by have:=HFg0.out k hk;have:=ltg0.out k hk;have:=HFx2.out k hk';have:=ltx2.out k hk';have:=Hz6.out;have:=Hz10.out;have:=Hz14.out;have:=Hz36.out;have:=Hz39.out;have:=Hz43.out;have:=Hz47.out;have:=Hz51.out;have:=Hz54.out;have:=Hz66.out;have:=Hz77.out;have:=Hz88.out;have:=Hz91.out;have:=Hz95.out;omega)
 clear ox2;have ox2:=omw97;clear omw97
 have Hz99:=Lib.hid hc98.size
 try simp only [World.size_alloc]at Hz99
 clear hc98 cbxx2_0
 obtain⟨kk100,hkk100⟩:∃ q:Int,q=kk96+((cnt_Plan (xP)):Nat):=⟨_,rfl⟩
 rw [<- hkk100]
 have pkk100:0<=kk100:=by omega
 have ukk100:kk100<=6597069766656:=by omega
 have Hkkk100:=Lib.hid hkk100;clear hkk100 hcbw97
 go_wp2_with fail
 refine(eqIntS_b _ _ _ _ _ _ _ _ _ (og0.rs rInt_ok) (ow0.rs rInt_ok)).mono ?_
 rintro e w101 ⟨rfl,hb102⟩
 have z103:=hb102.size
 try simp only [World.size_alloc]at z103
 have Hz103:=Lib.hid z103;clear z103
 replace ow0:=ow0.belowS rInt_ok hb102
 replace ox0:=(rDatabase_ok NB).ownB ox0 hb102
 replace ox1:=(rQuery_ok NB).ownB ox1 hb102
 replace ox2:=(rPlan_ok NB).ownB ox2 hb102
 replace og0:=og0.belowS rInt_ok hb102
 replace hB:=hB.trans (hb102.mono hB.size)
 replace bxDb:=bxDb.below hb102
 replace bxQ:=bxQ.below hb102
 replace bxP:=bxP.below hb102
 replace bxx0:=bxx0.below hb102
 replace bxx1:=bxx1.below hb102
 replace bxx2:=bxx2.below hb102
 clear hb102
 have hdr104:decide ((runSizes xDb xQ xP)=(runSizes xDb xQ xP))=true:=by simp
 go_wp2_with fail
 have hcbw105:(cnt_IntS (runSizes xDb xQ xP))<=1099511627776:=hcbr.out
 refine(markIntS_m _ _ _ _ 1 _ _ og0 NDg0.out (by omega) (by omega)).mono ?_
 rintro e w105 ⟨rfl,omw105,hc106⟩
 replace hB:=hB.trans (hc106.toBelow hB.size (fun k hk=>by have:=HFg0.out k hk;have:=Hz6.out;have:=Hz10.out;have:=Hz14.out;have:=Hz36.out;have:=Hz39.out;have:=Hz43.out;have:=Hz47.out;have:=Hz51.out;have:=Hz54.out;have:=Hz66.out;have:=Hz77.out;have:=Hz88.out;have:=Hz91.out;have:=Hz95.out;have:=Hz99.out;have:=Hz103.out;omega))
 replace bxDb:=bxDb.chg hc106 (fun hk=>by have:=HFg0.out _ hk;have:=ltg0.out _ hk;have:=Hz6.out;have:=Hz10.out;have:=Hz14.out;have:=Hz36.out;have:=Hz39.out;have:=Hz43.out;have:=Hz47.out;have:=Hz51.out;have:=Hz54.out;have:=Hz66.out;have:=Hz77.out;have:=Hz88.out;have:=Hz91.out;have:=Hz95.out;have:=Hz99.out;have:=Hz103.out;omega)
 replace bxQ:=bxQ.chg hc106 (fun hk=>by have:=HFg0.out _ hk;have:=ltg0.out _ hk;have:=Hz6.out;have:=Hz10.out;have:=Hz14.out;have:=Hz36.out;have:=Hz39.out;have:=Hz43.out;have:=Hz47.out;have:=Hz51.out;have:=Hz54.out;have:=Hz66.out;have:=Hz77.out;have:=Hz88.out;have:=Hz91.out;have:=Hz95.out;have:=Hz99.out;have:=Hz103.out;omega)
 replace bxP:=bxP.chg hc106 (fun hk=>by have:=HFg0.out _ hk;have:=ltg0.out _ hk;have:=Hz6.out;have:=Hz10.out;have:=Hz14.out;have:=Hz36.out;have:=Hz39.out;have:=Hz43.out;have:=Hz47.out;have:=Hz51.out;have:=Hz54.out;have:=Hz66.out;have:=Hz77.out;have:=Hz88.out;have:=Hz91.out;have:=Hz95.out;have:=Hz99.out;have:=Hz103.out;omega)
 replace bxx0:=bxx0.chg hc106 (fun hk=>by have:=HFg0.out _ hk;have:=ltg0.out _ hk;have:=Hz6.out;have:=Hz10.out;have:=Hz14.out;have:=Hz36.out;have:=Hz39.out;have:=Hz43.out;have:=Hz47.out;have:=Hz51.out;have:=Hz54.out;have:=Hz66.out;have:=Hz77.out;have:=Hz88.out;have:=Hz91.out;have:=Hz95.out;have:=Hz99.out;have:=Hz103.out;omega)
 replace bxx1:=bxx1.chg hc106 (fun hk=>by have:=HFg0.out _ hk;have:=ltg0.out _ hk;have:=Hz6.out;have:=Hz10.out;have:=Hz14.out;have:=Hz36.out;have:=Hz39.out;have:=Hz43.out;have:=Hz47.out;have:=Hz51.out;have:=Hz54.out;have:=Hz66.out;have:=Hz77.out;have:=Hz88.out;have:=Hz91.out;have:=Hz95.out;have:=Hz99.out;have:=Hz103.out;omega)
 replace bxx2:=bxx2.chg hc106 (fun hk=>by have:=HFg0.out _ hk;have:=ltg0.out _ hk;have:=Hz6.out;have:=Hz10.out;have:=Hz14.out;have:=Hz36.out;have:=Hz39.out;have:=Hz43.out;have:=Hz47.out;have:=Hz51.out;have:=Hz54.out;have:=Hz66.out;have:=Hz77.out;have:=Hz88.out;have:=Hz91.out;have:=Hz95.out;have:=Hz99.out;have:=Hz103.out;omega)
 replace ow0:=ow0.chg rInt_ok hc106 (fun k hk hk'=>by have:=HFw0.out k hk;have:=ltw0.out k hk;have:=HFg0.out k hk';have:=ltg0.out k hk';have:=Hz6.out;have:=Hz10.out;have:=Hz14.out;have:=Hz36.out;have:=Hz39.out;have:=Hz43.out;have:=Hz47.out;have:=Hz51.out;have:=Hz54.out;have:=Hz66.out;have:=Hz77.out;have:=Hz88.out;have:=Hz91.out;have:=Hz95.out;have:=Hz99.out;have:=Hz103.out;omega)
 replace ox0:=(rDatabase_ok NB).ownC ox0 hc106 (fun k hk hk'=>by have:=HFx0.out k hk;have:=ltx0.out k hk;have:=HFg0.out k hk';have:=ltg0.out k hk';have:=Hz6.out;have:=Hz10.out;have:=Hz14.out;have:=Hz36.out;have:=Hz39.out;have:=Hz43.out;have:=Hz47.out;have:=Hz51.out;have:=Hz54.out;have:=Hz66.out;have:=Hz77.out;have:=Hz88.out;have:=Hz91.out;have:=Hz95.out;have:=Hz99.out;have:=Hz103.out;omega)
 replace ox1:=(rQuery_ok NB).ownC ox1 hc106 (fun k hk hk'=>by have:=HFx1.out k hk;have:=ltx1.out k hk;have:=HFg0.out k hk';have:=ltg0.out k hk';have:=Hz6.out;have:=Hz10.out;have:=Hz14.out;have:=Hz36.out;have:=Hz39.out;have:=Hz43.out;have:=Hz47.out;have:=Hz51.out;have:=Hz54.out;have:=Hz66.out;have:=Hz77.out;have:=Hz88.out;have:=Hz91.out;have:=Hz95.out;have:=Hz99.out;have:=Hz103.out;omega)
 replace ox2:=(rPlan_ok NB).ownC ox2 hc106 (fun k hk hk'=>by have:=HFx2.out k hk;have:=ltx2.out k hk;have:=HFg0.out k hk';have:=ltg0.out k hk';have:=Hz6.out;have:=Hz10.out;have:=Hz14.out;have:=Hz36.out;have:=Hz39.out;have:=Hz43.out;have:=Hz47.out;have:=Hz51.out;have:=Hz54.out;have:=Hz66.out;have:=Hz77.out;have:=Hz88.out;have:=Hz91.out;have:=Hz95.out;have:=Hz99.out;have:=Hz103.out;omega)
 clear og0;have og0:=omw105;clear omw105
 have Hz107:=Lib.hid hc106.size
 try simp only [World.size_alloc]at Hz107
 clear hc106
 obtain⟨kk108,hkk108⟩:∃ q:Int,q=1+((cnt_IntS (runSizes xDb xQ xP)):Nat):=⟨_,rfl⟩
 rw [<- hkk108]
 have pkk108:0<=kk108:=by omega
 have ukk108:kk108<=2199023255552:=by omega
 have Hkkk108:=Lib.hid hkk108;clear hkk108 hcbw105
 go_wp2_with fail
 have hcbw109:(cnt_IntS (runSizes xDb xQ xP))<=1099511627776:=hcbr.out
 refine(heldIntS_m _ _ _ (runSizes xDb xQ xP) 1 _ (og0.rs rInt_ok) (by omega) (by omega)).mono ?_
 rintro e w109 ⟨rfl,hb110⟩
 have z111:=hb110.size
 try simp only [World.size_alloc]at z111
 have Hz111:=Lib.hid z111;clear z111
 replace ow0:=ow0.belowS rInt_ok hb110
 replace ox0:=(rDatabase_ok NB).ownB ox0 hb110
 replace ox1:=(rQuery_ok NB).ownB ox1 hb110
 replace ox2:=(rPlan_ok NB).ownB ox2 hb110
 replace og0:=og0.belowS rInt_ok hb110
 replace hB:=hB.trans (hb110.mono hB.size)
 replace bxDb:=bxDb.below hb110
 replace bxQ:=bxQ.below hb110
 replace bxP:=bxP.below hb110
 replace bxx0:=bxx0.below hb110
 replace bxx1:=bxx1.below hb110
 replace bxx2:=bxx2.below hb110
 clear hb110 hcbw109
 rw [<- Hkkk108.out]
 go_wp2_with fail
 have SS112:∀ w',Below w109.heap.size w109 w'->(Below w109.heap.size w109 w'/\w'.cell? ⟨w.heap.size,0,none⟩=some (.slice ADbTables nDbTables cDbTables)/\w'.cell? ⟨w.heap.size+1,0,none⟩=some (.int .i64 xQ.fVariableCount)/\w'.cell? ⟨w.heap.size+1,1,none⟩=some (.slice AQAtoms nQAtoms cQAtoms)/\w'.cell? ⟨w.heap.size+1+1,0,none⟩=some (.slice APSteps nPSteps cPSteps)):=fun w' hb=>⟨hb,bxDb.below hb 0 _ rfl,bxQ.below hb 0 _ rfl,bxQ.below hb 1 _ rfl,bxP.below hb 0 _ rfl⟩
 have HSS112:=Lib.hid SS112;clear SS112
 have tok117:True:=trivial
 have tok122:True:=trivial
 have tok127:True:=trivial
 have tok131:True:=trivial
 go_region_held3 (fun w'=>Below w109.heap.size w109 w'/\w'.cell? ⟨w.heap.size,0,none⟩=some (.slice ADbTables nDbTables cDbTables)/\w'.cell? ⟨w.heap.size+1,0,none⟩=some (.int .i64 xQ.fVariableCount)/\w'.cell? ⟨w.heap.size+1,1,none⟩=some (.slice AQAtoms nQAtoms cQAtoms)/\w'.cell? ⟨w.heap.size+1+1,0,none⟩=some (.slice APSteps nPSteps cPSteps)) (first|exact HSS112.out _ (Below.refl _ _).drew|exact HSS112.out _ (by assumption)) (first|(go_at_call 22;have _t:=tok117;refine(toDatabase_c _ xDb _ ((rDatabase_ok NB).keep sDb (cells_below (hB.trans (Below.mono ((Below.refl w109.heap.size w109).drew) hB.size))))).mono ?_;rintro e w114 ⟨csv113,fv113,rfl,ov113,frv113,hb115⟩;have hC116:Below w109.heap.size w109 w114:=Below.trans ((Below.refl w109.heap.size w109).drew) (hb115.mono ((Below.refl w109.heap.size w109).drew).size);have Rv113:=(rDatabase_ok NB).toRep ov113;clear tok117)|(go_at_call 23;have _t:=tok122;refine(toQuery_c _ xQ _ ((rQuery_ok NB).keep sQ (cells_below (hB.trans (Below.mono (hC116) hB.size))))).mono ?_;rintro e w119 ⟨csv118,fv118,rfl,ov118,frv118,hb120⟩;have hC121:Below w109.heap.size w109 w119:=Below.trans (hC116) (hb120.mono (hC116).size);have Rv118:=(rQuery_ok NB).toRep ov118;replace Rv113:=(rDatabase_ok NB).keep Rv113 (cells_below hb120);clear tok122)|(go_at_call 24;have _t:=tok127;refine(toPlan_c _ xP _ ((rPlan_ok NB).keep sP (cells_below (hB.trans (Below.mono (hC121) hB.size))))).mono ?_;rintro e w124 ⟨csv123,fv123,rfl,ov123,frv123,hb125⟩;have hC126:Below w109.heap.size w109 w124:=Below.trans (hC121) (hb125.mono (hC121).size);have Rv123:=(rPlan_ok NB).toRep ov123;replace Rv113:=(rDatabase_ok NB).keep Rv113 (cells_below hb125);replace Rv118:=(rQuery_ok NB).keep Rv118 (cells_below hb125);clear tok127)|(go_at_call 25;have _t:=tok131;refine(iRunSizes_c _ xDb _ xQ _ xP _ Rv113 Rv118 Rv123).mono ?_;rintro e w128 ⟨Ah0,nh0,ch0,rfl,⟨fh0,oh0,frh0⟩,hb129⟩;have hC130:Below w109.heap.size w109 w128:=Below.trans (hC126) (hb129.mono (hC126).size);clear tok131))
 have z132:=hC130.size
 try simp only [World.size_alloc]at z132
 have Hz132:=Lib.hid z132;clear z132
 replace ow0:=ow0.belowS rInt_ok hC130
 replace ox0:=(rDatabase_ok NB).ownB ox0 hC130
 replace ox1:=(rQuery_ok NB).ownB ox1 hC130
 replace ox2:=(rPlan_ok NB).ownB ox2 hC130
 replace og0:=og0.belowS rInt_ok hC130
 replace hB:=hB.trans (hC130.mono hB.size)
 replace bxDb:=bxDb.below hC130
 replace bxQ:=bxQ.below hC130
 replace bxP:=bxP.below hC130
 replace bxx0:=bxx0.below hC130
 replace bxx1:=bxx1.below hC130
 replace bxx2:=bxx2.below hC130
 clear HSS112 hC130
 have lth0:=Lib.hid (oh0.lt rInt_ok)
 have fsh0:=frh0
 have HFh0:Hid (∀ k∈fh0,_<=k):=fsh0.ge
 try simp only [World.size_alloc]at HFh0
 have ndh0:=fsh0.nd;have NDh0:=Lib.hid ndh0;clear ndh0 fsh0
 go_wp2_with fail
 refine(eqIntS_b _ _ _ _ _ _ _ _ _ (oh0.rs rInt_ok) (ow0.rs rInt_ok)).mono ?_
 rintro e w133 ⟨rfl,hb134⟩
 have z135:=hb134.size
 try simp only [World.size_alloc]at z135
 have Hz135:=Lib.hid z135;clear z135
 replace ow0:=ow0.belowS rInt_ok hb134
 replace ox0:=(rDatabase_ok NB).ownB ox0 hb134
 replace ox1:=(rQuery_ok NB).ownB ox1 hb134
 replace ox2:=(rPlan_ok NB).ownB ox2 hb134
 replace og0:=og0.belowS rInt_ok hb134
 replace oh0:=oh0.belowS rInt_ok hb134
 replace hB:=hB.trans (hb134.mono hB.size)
 replace bxDb:=bxDb.below hb134
 replace bxQ:=bxQ.below hb134
 replace bxP:=bxP.below hb134
 replace bxx0:=bxx0.below hb134
 replace bxx1:=bxx1.below hb134
 replace bxx2:=bxx2.below hb134
 clear hb134
 have hdr136:decide ((runSizes xDb xQ xP)=(runSizes xDb xQ xP))=true:=by simp
 go_wp2_with fail
 have hcbw137:(cnt_IntS (runSizes xDb xQ xP))<=1099511627776:=hcbr.out
 refine(heldIntS_m _ _ _ (runSizes xDb xQ xP) 1 _ (og0.rs rInt_ok) (by omega) (by omega)).mono ?_
 rintro e w137 ⟨rfl,hb138⟩
 have z139:=hb138.size
 try simp only [World.size_alloc]at z139
 have Hz139:=Lib.hid z139;clear z139
 replace ow0:=ow0.belowS rInt_ok hb138
 replace ox0:=(rDatabase_ok NB).ownB ox0 hb138
 replace ox1:=(rQuery_ok NB).ownB ox1 hb138
 replace ox2:=(rPlan_ok NB).ownB ox2 hb138
 replace og0:=og0.belowS rInt_ok hb138
 replace oh0:=oh0.belowS rInt_ok hb138
 replace hB:=hB.trans (hb138.mono hB.size)
 replace bxDb:=bxDb.below hb138
 replace bxQ:=bxQ.below hb138
 replace bxP:=bxP.below hb138
 replace bxx0:=bxx0.below hb138
 replace bxx1:=bxx1.below hb138
 replace bxx2:=bxx2.below hb138
 clear hb138 hcbw137
 rw [<- Hkkk108.out]
 go_wp2
 go_ret
 exact⟨rfl,hB⟩

set_option maxRecDepth 100000 in
theorem lifted (os:Os) (started:os.Started) (H:Type) (enc:TypeId × Value->H) :
  ReturnsInHanded {} Tryz.checked os 4 .any (Rows.fnExactRunSizesSpec.pre6 enc Tryz.prog Tryz.f4 Rows.fnExactRunSizesRow.domain false) (Rows.fnExactRunSizesSpec.post enc Tryz.prog Tryz.f4 false true false false):=by
 refine returnsInHanded_of_change (C:=Tryz.checked) own started (by kernel_rfl) Tryz.func4
  (ChangeSpec.witness6 (enc:=enc) (C:=Tryz.checked) false ⟨#[],#[.agg #[.slice none 0 0],.agg #[.int .i64 0,.slice none 0 0],.agg #[.slice none 0 0]],[]⟩ 8 (by kernel_rfl) (by kernel_rfl) (by kernel_rfl) (by kernel_rfl)) ?_
 intro W base args ds gs before hval0 hW hcnd _
 have hval:∀ (j:Nat) t v,Tryz.f4.params[j]?=some t->args[j]?=some v->Value.okWide Tryz.prog W .any base t v:=hval0
 have hW':=hW
 obtain⟨p,q,hA0,hV,rfl,hfz,hnd⟩:=hW
 have hA:DataW.TrodAll enc Tryz.prog W 0 (fun _=>true) true Tryz.f4.params.toList args.toList ds p:=hA0
 rw [Tryz.params4]at hA hval
 obtain⟨v0,vs0,d0,ds0,p0,q0,hargs,rfl,rfl,h0,r0⟩:=trodAll_cons hA
 obtain⟨v1,vs1,d1,ds1,p1,q1,rfl,rfl,rfl,h1,r1⟩:=trodAll_cons r0
 obtain⟨v2,vs2,d2,ds2,p2,q2,rfl,rfl,rfl,h2,r2⟩:=trodAll_cons r1
 obtain⟨rfl,rfl,rfl⟩:=trodAll_nil r2
 obtain rfl:args=#[v0,v1,v2]:=by cases args;simp_all
 obtain⟨rfl,rfl⟩:=trodVars_none hV
 obtain⟨ca0,rfl,_⟩:=okWide_struct Tryz.underlying47 (hval 0 47 v0 rfl rfl)
 obtain⟨cl0⟩:=ca0
 have k0:=h0
 have lt0:∀ x∈p0,x.block<W.heap.size:=by obtain⟨m,hm⟩:=k0;exact DataW.trod_lt m _ _ _ hm
 obtain⟨x0,g0⟩:∃ x,(rDatabase maxLen).rep W cl0 x:=by
  obtain⟨fuel,hf⟩:=h0
  exact opensDatabase hf
 obtain⟨ca1,rfl,_⟩:=okWide_struct Tryz.underlying50 (hval 1 50 v1 rfl rfl)
 obtain⟨cl1⟩:=ca1
 have k1:=h1
 have lt1:∀ x∈p1,x.block<W.heap.size:=by obtain⟨m,hm⟩:=k1;exact DataW.trod_lt m _ _ _ hm
 obtain⟨x1,g1⟩:∃ x,(rQuery maxLen).rep W cl1 x:=by
  obtain⟨fuel,hf⟩:=h1
  exact opensQuery hf
 obtain⟨ca2,rfl,_⟩:=okWide_struct Tryz.underlying53 (hval 2 53 v2 rfl rfl)
 obtain⟨cl2⟩:=ca2
 have k2:=h2
 have lt2:∀ x∈p2,x.block<W.heap.size:=by obtain⟨m,hm⟩:=k2;exact DataW.trod_lt m _ _ _ hm
 obtain⟨x2,g2⟩:∃ x,(rPlan maxLen).rep W cl2 x:=by
  obtain⟨fuel,hf⟩:=h2
  exact opensPlan hf
 clear hA0 hval0
 refine(walk cl0 x0 cl1 x1 cl2 x2 W g0 g1 g2).mono fun e W' ⟨he,bel⟩=>?_
 subst he
 exact⟨_,rfl,_,_,_,[],_,[],hW',trodAll_mk1 (shut_bool Tryz.underlying4 _),(trodAll_cons_mk (Below.trod laidOut (by kernel_rfl) (of_decide_eq_true (by kernel_rfl)) k0 bel lt0) (trodAll_cons_mk (Below.trod laidOut (by kernel_rfl) (of_decide_eq_true (by kernel_rfl)) k1 bel lt1) (trodAll_cons_mk (Below.trod laidOut (by kernel_rfl) (of_decide_eq_true (by kernel_rfl)) k2 bel lt2) trodAll_mk0))),rfl,bel.frame _,fun h=>by cases h⟩

theorem over:Rows.fnExactRunSizesRow.holds Tryz.pinned (OpenSpec.ofChange Rows.fnExactRunSizesSpec) :=
 OpenClaim.holds_of_wide 4 Tryz.f4 rfl rfl rfl rfl rfl rfl rfl ⟨rfl,rfl,rfl,rfl,rfl⟩ rfl rfl rfl rfl rfl (by kernel_rfl) Tryz.func4 (by kernel_rfl)
  (of_decide_eq_true (by kernel_rfl)) (by unfold Func.isWrapper;first|(rw [if_pos (by decide +kernel)];kernel_rfl)|(rw [if_neg (by decide +kernel)];exact⟨rfl,rfl⟩))
  (fun os started H enc _=>lifted os started H enc)

theorem proved : Rows.FnExactRunSizesSaid := over
#print axioms proved
end Go.Proofs.YtpodldagcnfhlaaGreat.fnExactRunSizes
