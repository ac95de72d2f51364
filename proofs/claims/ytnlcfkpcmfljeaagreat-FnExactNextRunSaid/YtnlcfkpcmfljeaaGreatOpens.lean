/-
  Opens, ToM
-/
import Derived.Test.YtnlcfkpcmfljeaaGreatSz
import Derived.Test.YtnlcfkpcmfljeaaGreatOpen
import Derived.Test.YtnlcfkpcmfljeaaGreatTo
import Derived.Test.YtnlcfkpcmfljeaaGreatOper
import Derived.Test.YtnlcfkpcmfljeaaGreatMid
import Derived.Deep.MidRow
set_option linter.unusedSimpArgs false
set_option linter.unusedVariables false
set_option maxHeartbeats 4000000
set_option maxRecDepth 100000
namespace Go.Proofs.YtnlcfkpcmfljeaaGreat
open Go.RowKit Go.Deep Go.ChangeShapes Go.WideShapes
theorem smallIntS {w:World}{A:Option Addr}{n cap:Nat}{l:List Int}(h:RS maxLen rInt w A n cap l) (hb:l.length<=1048576):RS NB rInt w A n cap l:=by
 have hl:=h.len
 refine⟨h.len,by unfold NB;omega,h.nc,fun hn=>?_⟩
 obtain⟨b,off,e,hc⟩:=h.cell hn
 refine⟨b,off,e,fun j x hj=>?_⟩
 obtain⟨cs,h1,h2⟩:=hc j x hj
 exact⟨cs,h1,h2⟩
theorem smallIntSS {w:World}{A:Option Addr}{n cap:Nat}{l:List (List Int)}(h:RS maxLen (rSlice maxLen 3 rInt) w A n cap l) (hb:bulkS (fun x=>x.length) l<=1048576):RS NB (rSlice NB 3 rInt) w A n cap l:=by
 have hl:=h.len
 unfold bulkS at hb
 refine⟨h.len,by unfold NB;omega,h.nc,fun hn=>?_⟩
 obtain⟨b,off,e,hc⟩:=h.cell hn
 refine⟨b,off,e,fun j x hj=>?_⟩
 obtain⟨cs,h1,h2⟩:=hc j x hj
 have e1:=sum_ge (fun x=>x.length) hj
 obtain⟨A1,n1,c1,rfl,h3⟩:=h1
 exact⟨_,⟨A1,n1,c1,rfl,smallIntS h3 (by omega)⟩,h2⟩
theorem smallAtom {w:World}{cs:List Value}{x:AtomD}(h:(rAtom maxLen).rep w cs x) (hb:bulkAtom x<=1048576):(rAtom NB).rep w cs x:=by
 obtain⟨AVars,nVars,cVars,rfl,hName,hVars⟩:=rAtom_rep.1 h
 simp only [bulkAtom]at hb
 exact rAtom_rep.2 ⟨AVars,nVars,cVars,rfl,(by unfold NB;omega),(smallIntS hVars (by omega))⟩
theorem smallAtomS {w:World}{A:Option Addr}{n cap:Nat}{l:List AtomD}(h:RS maxLen (rAtom maxLen) w A n cap l) (hb:bulkS (fun x=>bulkAtom x) l<=1048576):RS NB (rAtom NB) w A n cap l:=by
 have hl:=h.len
 unfold bulkS at hb
 refine⟨h.len,by unfold NB;omega,h.nc,fun hn=>?_⟩
 obtain⟨b,off,e,hc⟩:=h.cell hn
 refine⟨b,off,e,fun j x hj=>?_⟩
 obtain⟨cs,h1,h2⟩:=hc j x hj
 have e1:=sum_ge (fun x=>bulkAtom x) hj
 exact⟨cs,smallAtom h1 (by omega),h2⟩
theorem smallQuery {w:World}{cs:List Value}{x:QueryD}(h:(rQuery maxLen).rep w cs x) (hb:bulkQuery x<=1048576):(rQuery NB).rep w cs x:=by
 obtain⟨AAtoms,nAtoms,cAtoms,rfl,hVariableCount,hAtoms⟩:=rQuery_rep.1 h
 simp only [bulkQuery]at hb
 exact rQuery_rep.2 ⟨AAtoms,nAtoms,cAtoms,rfl,hVariableCount,(smallAtomS hAtoms (by omega))⟩
theorem smallBox {w:World}{cs:List Value}{x:BoxD}(h:(rBox maxLen).rep w cs x) (hb:bulkBox x<=1048576):(rBox NB).rep w cs x:=by
 obtain⟨ALow,nLow,cLow,AHigh,nHigh,cHigh,rfl,hLow,hHigh⟩:=rBox_rep.1 h
 simp only [bulkBox]at hb
 exact rBox_rep.2 ⟨ALow,nLow,cLow,AHigh,nHigh,cHigh,rfl,(smallIntS hLow (by omega)),(smallIntS hHigh (by omega))⟩
theorem smallCostStep {w:World}{cs:List Value}{x:CostStepD}(h:(rCostStep maxLen).rep w cs x):(rCostStep NB).rep w cs x:=by
 exact rCostStep_rep.2 (rCostStep_rep.1 h)
theorem smallCostStepS {w:World}{A:Option Addr}{n cap:Nat}{l:List CostStepD}(h:RS maxLen (rCostStep maxLen) w A n cap l) (hb:l.length<=1048576):RS NB (rCostStep NB) w A n cap l:=by
 have hl:=h.len
 refine⟨h.len,by unfold NB;omega,h.nc,fun hn=>?_⟩
 obtain⟨b,off,e,hc⟩:=h.cell hn
 refine⟨b,off,e,fun j x hj=>?_⟩
 obtain⟨cs,h1,h2⟩:=hc j x hj
 exact⟨cs,smallCostStep h1,h2⟩
theorem smallModel {w:World}{cs:List Value}{x:ModelD}(h:(rModel maxLen).rep w cs x) (hb:bulkModel x<=1048576):(rModel NB).rep w cs x:=by
 obtain⟨AScanSteps,nScanSteps,cScanSteps,ASortSteps,nSortSteps,cSortSteps,AHashSteps,nHashSteps,cHashSteps,AMergeSteps,nMergeSteps,cMergeSteps,ANestedSteps,nNestedSteps,cNestedSteps,rfl,hScanFixed,hScanPerLeft,hScanPerRight,hScanPerOutput,hScanPerPair,hScanSteps,hSortFixed,hSortPerLeft,hSortPerRight,hSortPerOutput,hSortPerPair,hSortSteps,hHashFixed,hHashPerLeft,hHashPerRight,hHashPerOutput,hHashPerPair,hHashSteps,hMergeFixed,hMergePerLeft,hMergePerRight,hMergePerOutput,hMergePerPair,hMergeSteps,hNestedFixed,hNestedPerLeft,hNestedPerRight,hNestedPerOutput,hNestedPerPair,hNestedSteps⟩:=rModel_rep.1 h
 simp only [bulkModel,bulkOperator]at hb
 exact rModel_rep.2 ⟨AScanSteps,nScanSteps,cScanSteps,ASortSteps,nSortSteps,cSortSteps,AHashSteps,nHashSteps,cHashSteps,AMergeSteps,nMergeSteps,cMergeSteps,ANestedSteps,nNestedSteps,cNestedSteps,rfl,hScanFixed,hScanPerLeft,hScanPerRight,hScanPerOutput,hScanPerPair,(smallCostStepS hScanSteps (by omega)),hSortFixed,hSortPerLeft,hSortPerRight,hSortPerOutput,hSortPerPair,(smallCostStepS hSortSteps (by omega)),hHashFixed,hHashPerLeft,hHashPerRight,hHashPerOutput,hHashPerPair,(smallCostStepS hHashSteps (by omega)),hMergeFixed,hMergePerLeft,hMergePerRight,hMergePerOutput,hMergePerPair,(smallCostStepS hMergeSteps (by omega)),hNestedFixed,hNestedPerLeft,hNestedPerRight,hNestedPerOutput,hNestedPerPair,(smallCostStepS hNestedSteps (by omega))⟩
theorem smallPlanStep {w:World}{cs:List Value}{x:PlanStepD}(h:(rPlanStep maxLen).rep w cs x):(rPlanStep NB).rep w cs x:=by
 exact rPlanStep_rep.2 (rPlanStep_rep.1 h)
theorem smallPlanStepS {w:World}{A:Option Addr}{n cap:Nat}{l:List PlanStepD}(h:RS maxLen (rPlanStep maxLen) w A n cap l) (hb:l.length<=1048576):RS NB (rPlanStep NB) w A n cap l:=by
 have hl:=h.len
 refine⟨h.len,by unfold NB;omega,h.nc,fun hn=>?_⟩
 obtain⟨b,off,e,hc⟩:=h.cell hn
 refine⟨b,off,e,fun j x hj=>?_⟩
 obtain⟨cs,h1,h2⟩:=hc j x hj
 exact⟨cs,smallPlanStep h1,h2⟩
theorem smallPlan {w:World}{cs:List Value}{x:PlanD}(h:(rPlan maxLen).rep w cs x) (hb:bulkPlan x<=1048576):(rPlan NB).rep w cs x:=by
 obtain⟨ASteps,nSteps,cSteps,rfl,hSteps⟩:=rPlan_rep.1 h
 simp only [bulkPlan]at hb
 exact rPlan_rep.2 ⟨ASteps,nSteps,cSteps,rfl,(smallPlanStepS hSteps (by omega))⟩
theorem smallPlanS {w:World}{A:Option Addr}{n cap:Nat}{l:List PlanD}(h:RS maxLen (rPlan maxLen) w A n cap l) (hb:bulkS (fun x=>bulkPlan x) l<=1048576):RS NB (rPlan NB) w A n cap l:=by
 have hl:=h.len
 unfold bulkS at hb
 refine⟨h.len,by unfold NB;omega,h.nc,fun hn=>?_⟩
 obtain⟨b,off,e,hc⟩:=h.cell hn
 refine⟨b,off,e,fun j x hj=>?_⟩
 obtain⟨cs,h1,h2⟩:=hc j x hj
 have e1:=sum_ge (fun x=>bulkPlan x) hj
 exact⟨cs,smallPlan h1 (by omega),h2⟩
theorem smallBouquet {w:World}{cs:List Value}{x:BouquetD}(h:(rBouquet maxLen).rep w cs x) (hb:bulkBouquet x<=1048576):(rBouquet NB).rep w cs x:=by
 obtain⟨ABoxLow,nBoxLow,cBoxLow,ABoxHigh,nBoxHigh,cBoxHigh,ABudgets,nBudgets,cBudgets,APlans,nPlans,cPlans,AContours,nContours,cContours,rfl,hVersion,hRatio,hSlack,hBoxLow,hBoxHigh,hBudgets,hPlans,hContours⟩:=rBouquet_rep.1 h
 simp only [bulkBouquet,bulkBox]at hb
 exact rBouquet_rep.2 ⟨ABoxLow,nBoxLow,cBoxLow,ABoxHigh,nBoxHigh,cBoxHigh,ABudgets,nBudgets,cBudgets,APlans,nPlans,cPlans,AContours,nContours,cContours,rfl,hVersion,hRatio,hSlack,(smallIntS hBoxLow (by omega)),(smallIntS hBoxHigh (by omega)),(smallIntS hBudgets (by omega)),(smallPlanS hPlans (by omega)),(smallIntSS hContours (by omega))⟩
theorem opensAtom:Opens Tryz.prog 151 (rAtom maxLen):=by
 intro H enc w base spare held fuel cs x h
 obtain⟨xs,n,rfl,_,hlen,hxl,hf⟩:=DataW.trod_struct Tryz.underlying151 h
 have e0:(Tryz.prog.cellsOf 9)=1:=by kernel_rfl
 have f0:DataW.trod enc Tryz.prog w base spare held n 9 ((cs.drop 0).take 1)=xs[0]?:=(congrArg (fun k=>DataW.trod enc Tryz.prog w base spare held n 9 ((cs.drop 0).take k)) e0.symm).trans (hf 0 _ rfl)
 obtain⟨y0,g0⟩:=opens_field (opens_str Tryz.underlying9) (i:=0) (by rw [hxl];decide) f0
 have e1:(Tryz.prog.cellsOf 30)=1:=by kernel_rfl
 have f1:DataW.trod enc Tryz.prog w base spare held n 30 ((cs.drop 1).take 1)=xs[1]?:=(congrArg (fun k=>DataW.trod enc Tryz.prog w base spare held n 30 ((cs.drop 1).take k)) e1.symm).trans (hf 1 _ rfl)
 obtain⟨y1,g1⟩:=opens_field (opens_slice rInt_ok Tryz.underlying30 (by kernel_rfl) (opens_int Tryz.underlying3)) (i:=1) (by rw [hxl];decide) f1
 have hl:cs.length=2:=hlen.trans (by kernel_rfl)
 refine⟨⟨y0,y1⟩,?_⟩
 have t1:(rSlice maxLen 3 rInt).rep w (cs.drop 1) y1:=by rw [List.take_of_length_le (by rw [List.length_drop,hl];decide)]at g1;exact g1
 have t0:(rPair (rStr maxLen) ((rSlice maxLen 3 rInt))).rep w (cs.drop 0) (y0,y1):=rPair_split 1 g0 (by rw [List.drop_drop];exact t1)
 exact t0
theorem opensQuery:Opens Tryz.prog 29 (rQuery maxLen):=by
 intro H enc w base spare held fuel cs x h
 obtain⟨xs,n,rfl,_,hlen,hxl,hf⟩:=DataW.trod_struct Tryz.underlying29 h
 have e0:(Tryz.prog.cellsOf 3)=1:=by kernel_rfl
 have f0:DataW.trod enc Tryz.prog w base spare held n 3 ((cs.drop 0).take 1)=xs[0]?:=(congrArg (fun k=>DataW.trod enc Tryz.prog w base spare held n 3 ((cs.drop 0).take k)) e0.symm).trans (hf 0 _ rfl)
 obtain⟨y0,g0⟩:=opens_field (opens_int Tryz.underlying3) (i:=0) (by rw [hxl];decide) f0
 have e1:(Tryz.prog.cellsOf 27)=1:=by kernel_rfl
 have f1:DataW.trod enc Tryz.prog w base spare held n 27 ((cs.drop 1).take 1)=xs[1]?:=(congrArg (fun k=>DataW.trod enc Tryz.prog w base spare held n 27 ((cs.drop 1).take k)) e1.symm).trans (hf 1 _ rfl)
 obtain⟨y1,g1⟩:=opens_field (opens_slice (rAtom_ok maxLen) Tryz.underlying27 (by kernel_rfl) opensAtom) (i:=1) (by rw [hxl];decide) f1
 have hl:cs.length=2:=hlen.trans (by kernel_rfl)
 refine⟨⟨y0,y1⟩,?_⟩
 have t1:(rSlice maxLen 162 (rAtom maxLen)).rep w (cs.drop 1) y1:=by rw [List.take_of_length_le (by rw [List.length_drop,hl];decide)]at g1;exact g1
 have t0:(rPair rInt ((rSlice maxLen 162 (rAtom maxLen)))).rep w (cs.drop 0) (y0,y1):=rPair_split 1 g0 (by rw [List.drop_drop];exact t1)
 exact t0
theorem opensBox:Opens Tryz.prog 32 (rBox maxLen):=by
 intro H enc w base spare held fuel cs x h
 obtain⟨xs,n,rfl,_,hlen,hxl,hf⟩:=DataW.trod_struct Tryz.underlying32 h
 have e0:(Tryz.prog.cellsOf 30)=1:=by kernel_rfl
 have f0:DataW.trod enc Tryz.prog w base spare held n 30 ((cs.drop 0).take 1)=xs[0]?:=(congrArg (fun k=>DataW.trod enc Tryz.prog w base spare held n 30 ((cs.drop 0).take k)) e0.symm).trans (hf 0 _ rfl)
 obtain⟨y0,g0⟩:=opens_field (opens_slice rInt_ok Tryz.underlying30 (by kernel_rfl) (opens_int Tryz.underlying3)) (i:=0) (by rw [hxl];decide) f0
 have e1:(Tryz.prog.cellsOf 30)=1:=by kernel_rfl
 have f1:DataW.trod enc Tryz.prog w base spare held n 30 ((cs.drop 1).take 1)=xs[1]?:=(congrArg (fun k=>DataW.trod enc Tryz.prog w base spare held n 30 ((cs.drop 1).take k)) e1.symm).trans (hf 1 _ rfl)
 obtain⟨y1,g1⟩:=opens_field (opens_slice rInt_ok Tryz.underlying30 (by kernel_rfl) (opens_int Tryz.underlying3)) (i:=1) (by rw [hxl];decide) f1
 have hl:cs.length=2:=hlen.trans (by kernel_rfl)
 refine⟨⟨y0,y1⟩,?_⟩
 have t1:(rSlice maxLen 3 rInt).rep w (cs.drop 1) y1:=by rw [List.take_of_length_le (by rw [List.length_drop,hl];decide)]at g1;exact g1
 have t0:(rPair (rSlice maxLen 3 rInt) ((rSlice maxLen 3 rInt))).rep w (cs.drop 0) (y0,y1):=rPair_split 1 g0 (by rw [List.drop_drop];exact t1)
 exact t0
theorem opensCostStep:Opens Tryz.prog 210 (rCostStep maxLen):=by
 intro H enc w base spare held fuel cs x h
 obtain⟨xs,n,rfl,_,hlen,hxl,hf⟩:=DataW.trod_struct Tryz.underlying210 h
 have e0:(Tryz.prog.cellsOf 3)=1:=by kernel_rfl
 have f0:DataW.trod enc Tryz.prog w base spare held n 3 ((cs.drop 0).take 1)=xs[0]?:=(congrArg (fun k=>DataW.trod enc Tryz.prog w base spare held n 3 ((cs.drop 0).take k)) e0.symm).trans (hf 0 _ rfl)
 obtain⟨y0,g0⟩:=opens_field (opens_int Tryz.underlying3) (i:=0) (by rw [hxl];decide) f0
 have e1:(Tryz.prog.cellsOf 3)=1:=by kernel_rfl
 have f1:DataW.trod enc Tryz.prog w base spare held n 3 ((cs.drop 1).take 1)=xs[1]?:=(congrArg (fun k=>DataW.trod enc Tryz.prog w base spare held n 3 ((cs.drop 1).take k)) e1.symm).trans (hf 1 _ rfl)
 obtain⟨y1,g1⟩:=opens_field (opens_int Tryz.underlying3) (i:=1) (by rw [hxl];decide) f1
 have hl:cs.length=2:=hlen.trans (by kernel_rfl)
 refine⟨⟨y0,y1⟩,?_⟩
 have t1:rInt.rep w (cs.drop 1) y1:=by rw [List.take_of_length_le (by rw [List.length_drop,hl];decide)]at g1;exact g1
 have t0:(rPair rInt (rInt)).rep w (cs.drop 0) (y0,y1):=rPair_split 1 g0 (by rw [List.drop_drop];exact t1)
 exact t0
theorem opensOperator:Opens Tryz.prog 24 (rOperator maxLen):=by
 intro H enc w base spare held fuel cs x h
 obtain⟨xs,n,rfl,_,hlen,hxl,hf⟩:=DataW.trod_struct Tryz.underlying24 h
 have e0:(Tryz.prog.cellsOf 3)=1:=by kernel_rfl
 have f0:DataW.trod enc Tryz.prog w base spare held n 3 ((cs.drop 0).take 1)=xs[0]?:=(congrArg (fun k=>DataW.trod enc Tryz.prog w base spare held n 3 ((cs.drop 0).take k)) e0.symm).trans (hf 0 _ rfl)
 obtain⟨y0,g0⟩:=opens_field (opens_int Tryz.underlying3) (i:=0) (by rw [hxl];decide) f0
 have e1:(Tryz.prog.cellsOf 3)=1:=by kernel_rfl
 have f1:DataW.trod enc Tryz.prog w base spare held n 3 ((cs.drop 1).take 1)=xs[1]?:=(congrArg (fun k=>DataW.trod enc Tryz.prog w base spare held n 3 ((cs.drop 1).take k)) e1.symm).trans (hf 1 _ rfl)
 obtain⟨y1,g1⟩:=opens_field (opens_int Tryz.underlying3) (i:=1) (by rw [hxl];decide) f1
 have e2:(Tryz.prog.cellsOf 3)=1:=by kernel_rfl
 have f2:DataW.trod enc Tryz.prog w base spare held n 3 ((cs.drop 2).take 1)=xs[2]?:=(congrArg (fun k=>DataW.trod enc Tryz.prog w base spare held n 3 ((cs.drop 2).take k)) e2.symm).trans (hf 2 _ rfl)
 obtain⟨y2,g2⟩:=opens_field (opens_int Tryz.underlying3) (i:=2) (by rw [hxl];decide) f2
 have e3:(Tryz.prog.cellsOf 3)=1:=by kernel_rfl
 have f3:DataW.trod enc Tryz.prog w base spare held n 3 ((cs.drop 3).take 1)=xs[3]?:=(congrArg (fun k=>DataW.trod enc Tryz.prog w base spare held n 3 ((cs.drop 3).take k)) e3.symm).trans (hf 3 _ rfl)
 obtain⟨y3,g3⟩:=opens_field (opens_int Tryz.underlying3) (i:=3) (by rw [hxl];decide) f3
 have e4:(Tryz.prog.cellsOf 3)=1:=by kernel_rfl
 have f4:DataW.trod enc Tryz.prog w base spare held n 3 ((cs.drop 4).take 1)=xs[4]?:=(congrArg (fun k=>DataW.trod enc Tryz.prog w base spare held n 3 ((cs.drop 4).take k)) e4.symm).trans (hf 4 _ rfl)
 obtain⟨y4,g4⟩:=opens_field (opens_int Tryz.underlying3) (i:=4) (by rw [hxl];decide) f4
 have e5:(Tryz.prog.cellsOf 22)=1:=by kernel_rfl
 have f5:DataW.trod enc Tryz.prog w base spare held n 22 ((cs.drop 5).take 1)=xs[5]?:=(congrArg (fun k=>DataW.trod enc Tryz.prog w base spare held n 22 ((cs.drop 5).take k)) e5.symm).trans (hf 5 _ rfl)
 obtain⟨y5,g5⟩:=opens_field (opens_slice (rCostStep_ok maxLen) Tryz.underlying22 (by kernel_rfl) opensCostStep) (i:=5) (by rw [hxl];decide) f5
 have hl:cs.length=6:=hlen.trans (by kernel_rfl)
 refine⟨⟨y0,y1,y2,y3,y4,y5⟩,?_⟩
 have t5:(rSlice maxLen 205 (rCostStep maxLen)).rep w (cs.drop 5) y5:=by rw [List.take_of_length_le (by rw [List.length_drop,hl];decide)]at g5;exact g5
 have t4:(rPair rInt ((rSlice maxLen 205 (rCostStep maxLen)))).rep w (cs.drop 4) (y4,y5):=rPair_split 1 g4 (by rw [List.drop_drop];exact t5)
 have t3:(rPair rInt (rPair rInt ((rSlice maxLen 205 (rCostStep maxLen))))).rep w (cs.drop 3) (y3,y4,y5):=rPair_split 1 g3 (by rw [List.drop_drop];exact t4)
 have t2:(rPair rInt (rPair rInt (rPair rInt ((rSlice maxLen 205 (rCostStep maxLen)))))).rep w (cs.drop 2) (y2,y3,y4,y5):=rPair_split 1 g2 (by rw [List.drop_drop];exact t3)
 have t1:(rPair rInt (rPair rInt (rPair rInt (rPair rInt ((rSlice maxLen 205 (rCostStep maxLen))))))).rep w (cs.drop 1) (y1,y2,y3,y4,y5):=rPair_split 1 g1 (by rw [List.drop_drop];exact t2)
 have t0:(rPair rInt (rPair rInt (rPair rInt (rPair rInt (rPair rInt ((rSlice maxLen 205 (rCostStep maxLen)))))))).rep w (cs.drop 0) (y0,y1,y2,y3,y4,y5):=rPair_split 1 g0 (by rw [List.drop_drop];exact t1)
 exact t0
theorem opensModel:Opens Tryz.prog 26 (rModel maxLen):=by
 intro H enc w base spare held fuel cs x h
 obtain⟨xs,n,rfl,_,hlen,hxl,hf⟩:=DataW.trod_struct Tryz.underlying26 h
 have e0:(Tryz.prog.cellsOf 24)=6:=by kernel_rfl
 have f0:DataW.trod enc Tryz.prog w base spare held n 24 ((cs.drop 0).take 6)=xs[0]?:=(congrArg (fun k=>DataW.trod enc Tryz.prog w base spare held n 24 ((cs.drop 0).take k)) e0.symm).trans (hf 0 _ rfl)
 obtain⟨y0,g0⟩:=opens_field opensOperator (i:=0) (by rw [hxl];decide) f0
 have e1:(Tryz.prog.cellsOf 24)=6:=by kernel_rfl
 have f1:DataW.trod enc Tryz.prog w base spare held n 24 ((cs.drop 6).take 6)=xs[1]?:=(congrArg (fun k=>DataW.trod enc Tryz.prog w base spare held n 24 ((cs.drop 6).take k)) e1.symm).trans (hf 1 _ rfl)
 obtain⟨y1,g1⟩:=opens_field opensOperator (i:=1) (by rw [hxl];decide) f1
 have e2:(Tryz.prog.cellsOf 24)=6:=by kernel_rfl
 have f2:DataW.trod enc Tryz.prog w base spare held n 24 ((cs.drop 12).take 6)=xs[2]?:=(congrArg (fun k=>DataW.trod enc Tryz.prog w base spare held n 24 ((cs.drop 12).take k)) e2.symm).trans (hf 2 _ rfl)
 obtain⟨y2,g2⟩:=opens_field opensOperator (i:=2) (by rw [hxl];decide) f2
 have e3:(Tryz.prog.cellsOf 24)=6:=by kernel_rfl
 have f3:DataW.trod enc Tryz.prog w base spare held n 24 ((cs.drop 18).take 6)=xs[3]?:=(congrArg (fun k=>DataW.trod enc Tryz.prog w base spare held n 24 ((cs.drop 18).take k)) e3.symm).trans (hf 3 _ rfl)
 obtain⟨y3,g3⟩:=opens_field opensOperator (i:=3) (by rw [hxl];decide) f3
 have e4:(Tryz.prog.cellsOf 24)=6:=by kernel_rfl
 have f4:DataW.trod enc Tryz.prog w base spare held n 24 ((cs.drop 24).take 6)=xs[4]?:=(congrArg (fun k=>DataW.trod enc Tryz.prog w base spare held n 24 ((cs.drop 24).take k)) e4.symm).trans (hf 4 _ rfl)
 obtain⟨y4,g4⟩:=opens_field opensOperator (i:=4) (by rw [hxl];decide) f4
 have hl:cs.length=30:=hlen.trans (by kernel_rfl)
 refine⟨⟨y0,y1,y2,y3,y4⟩,?_⟩
 have t4:(rOperator maxLen).rep w (cs.drop 24) y4:=by rw [List.take_of_length_le (by rw [List.length_drop,hl];decide)]at g4;exact g4
 have t3:(rPair (rOperator maxLen) ((rOperator maxLen))).rep w (cs.drop 18) (y3,y4):=rPair_split 6 g3 (by rw [List.drop_drop];exact t4)
 have t2:(rPair (rOperator maxLen) (rPair (rOperator maxLen) ((rOperator maxLen)))).rep w (cs.drop 12) (y2,y3,y4):=rPair_split 6 g2 (by rw [List.drop_drop];exact t3)
 have t1:(rPair (rOperator maxLen) (rPair (rOperator maxLen) (rPair (rOperator maxLen) ((rOperator maxLen))))).rep w (cs.drop 6) (y1,y2,y3,y4):=rPair_split 6 g1 (by rw [List.drop_drop];exact t2)
 have t0:(rPair (rOperator maxLen) (rPair (rOperator maxLen) (rPair (rOperator maxLen) (rPair (rOperator maxLen) ((rOperator maxLen)))))).rep w (cs.drop 0) (y0,y1,y2,y3,y4):=rPair_split 6 g0 (by rw [List.drop_drop];exact t1)
 exact t0
theorem opensPlanStep:Opens Tryz.prog 257 (rPlanStep maxLen):=by
 intro H enc w base spare held fuel cs x h
 obtain⟨xs,n,rfl,_,hlen,hxl,hf⟩:=DataW.trod_struct Tryz.underlying257 h
 have e0:(Tryz.prog.cellsOf 3)=1:=by kernel_rfl
 have f0:DataW.trod enc Tryz.prog w base spare held n 3 ((cs.drop 0).take 1)=xs[0]?:=(congrArg (fun k=>DataW.trod enc Tryz.prog w base spare held n 3 ((cs.drop 0).take k)) e0.symm).trans (hf 0 _ rfl)
 obtain⟨y0,g0⟩:=opens_field (opens_int Tryz.underlying3) (i:=0) (by rw [hxl];decide) f0
 have e1:(Tryz.prog.cellsOf 3)=1:=by kernel_rfl
 have f1:DataW.trod enc Tryz.prog w base spare held n 3 ((cs.drop 1).take 1)=xs[1]?:=(congrArg (fun k=>DataW.trod enc Tryz.prog w base spare held n 3 ((cs.drop 1).take k)) e1.symm).trans (hf 1 _ rfl)
 obtain⟨y1,g1⟩:=opens_field (opens_int Tryz.underlying3) (i:=1) (by rw [hxl];decide) f1
 have e2:(Tryz.prog.cellsOf 3)=1:=by kernel_rfl
 have f2:DataW.trod enc Tryz.prog w base spare held n 3 ((cs.drop 2).take 1)=xs[2]?:=(congrArg (fun k=>DataW.trod enc Tryz.prog w base spare held n 3 ((cs.drop 2).take k)) e2.symm).trans (hf 2 _ rfl)
 obtain⟨y2,g2⟩:=opens_field (opens_int Tryz.underlying3) (i:=2) (by rw [hxl];decide) f2
 have hl:cs.length=3:=hlen.trans (by kernel_rfl)
 refine⟨⟨y0,y1,y2⟩,?_⟩
 have t2:rInt.rep w (cs.drop 2) y2:=by rw [List.take_of_length_le (by rw [List.length_drop,hl];decide)]at g2;exact g2
 have t1:(rPair rInt (rInt)).rep w (cs.drop 1) (y1,y2):=rPair_split 1 g1 (by rw [List.drop_drop];exact t2)
 have t0:(rPair rInt (rPair rInt (rInt))).rep w (cs.drop 0) (y0,y1,y2):=rPair_split 1 g0 (by rw [List.drop_drop];exact t1)
 exact t0
theorem opensPlan:Opens Tryz.prog 193 (rPlan maxLen):=by
 intro H enc w base spare held fuel cs x h
 obtain⟨xs,n,rfl,_,hlen,hxl,hf⟩:=DataW.trod_struct Tryz.underlying193 h
 have e0:(Tryz.prog.cellsOf 191)=1:=by kernel_rfl
 have f0:DataW.trod enc Tryz.prog w base spare held n 191 ((cs.drop 0).take 1)=xs[0]?:=(congrArg (fun k=>DataW.trod enc Tryz.prog w base spare held n 191 ((cs.drop 0).take k)) e0.symm).trans (hf 0 _ rfl)
 obtain⟨y0,g0⟩:=opens_field (opens_slice (rPlanStep_ok maxLen) Tryz.underlying191 (by kernel_rfl) opensPlanStep) (i:=0) (by rw [hxl];decide) f0
 have hl:cs.length=1:=hlen.trans (by kernel_rfl)
 refine⟨⟨y0⟩,?_⟩
 show(rSlice maxLen 173 (rPlanStep maxLen)).rep w cs y0
 rw [List.drop_zero,List.take_of_length_le (by rw [hl];decide)]at g0
 exact g0
theorem opensBouquet:Opens Tryz.prog 85 (rBouquet maxLen):=by
 intro H enc w base spare held fuel cs x h
 obtain⟨xs,n,rfl,_,hlen,hxl,hf⟩:=DataW.trod_struct Tryz.underlying85 h
 have e0:(Tryz.prog.cellsOf 3)=1:=by kernel_rfl
 have f0:DataW.trod enc Tryz.prog w base spare held n 3 ((cs.drop 0).take 1)=xs[0]?:=(congrArg (fun k=>DataW.trod enc Tryz.prog w base spare held n 3 ((cs.drop 0).take k)) e0.symm).trans (hf 0 _ rfl)
 obtain⟨y0,g0⟩:=opens_field (opens_int Tryz.underlying3) (i:=0) (by rw [hxl];decide) f0
 have e1:(Tryz.prog.cellsOf 3)=1:=by kernel_rfl
 have f1:DataW.trod enc Tryz.prog w base spare held n 3 ((cs.drop 1).take 1)=xs[1]?:=(congrArg (fun k=>DataW.trod enc Tryz.prog w base spare held n 3 ((cs.drop 1).take k)) e1.symm).trans (hf 1 _ rfl)
 obtain⟨y1,g1⟩:=opens_field (opens_int Tryz.underlying3) (i:=1) (by rw [hxl];decide) f1
 have e2:(Tryz.prog.cellsOf 3)=1:=by kernel_rfl
 have f2:DataW.trod enc Tryz.prog w base spare held n 3 ((cs.drop 2).take 1)=xs[2]?:=(congrArg (fun k=>DataW.trod enc Tryz.prog w base spare held n 3 ((cs.drop 2).take k)) e2.symm).trans (hf 2 _ rfl)
 obtain⟨y2,g2⟩:=opens_field (opens_int Tryz.underlying3) (i:=2) (by rw [hxl];decide) f2
 have e3:(Tryz.prog.cellsOf 32)=2:=by kernel_rfl
 have f3:DataW.trod enc Tryz.prog w base spare held n 32 ((cs.drop 3).take 2)=xs[3]?:=(congrArg (fun k=>DataW.trod enc Tryz.prog w base spare held n 32 ((cs.drop 3).take k)) e3.symm).trans (hf 3 _ rfl)
 obtain⟨y3,g3⟩:=opens_field opensBox (i:=3) (by rw [hxl];decide) f3
 have e4:(Tryz.prog.cellsOf 30)=1:=by kernel_rfl
 have f4:DataW.trod enc Tryz.prog w base spare held n 30 ((cs.drop 5).take 1)=xs[4]?:=(congrArg (fun k=>DataW.trod enc Tryz.prog w base spare held n 30 ((cs.drop 5).take k)) e4.symm).trans (hf 4 _ rfl)
 obtain⟨y4,g4⟩:=opens_field (opens_slice rInt_ok Tryz.underlying30 (by kernel_rfl) (opens_int Tryz.underlying3)) (i:=4) (by rw [hxl];decide) f4
 have e5:(Tryz.prog.cellsOf 82)=1:=by kernel_rfl
 have f5:DataW.trod enc Tryz.prog w base spare held n 82 ((cs.drop 6).take 1)=xs[5]?:=(congrArg (fun k=>DataW.trod enc Tryz.prog w base spare held n 82 ((cs.drop 6).take k)) e5.symm).trans (hf 5 _ rfl)
 obtain⟨y5,g5⟩:=opens_field (opens_slice (rPlan_ok maxLen) Tryz.underlying82 (by kernel_rfl) opensPlan) (i:=5) (by rw [hxl];decide) f5
 have e6:(Tryz.prog.cellsOf 83)=1:=by kernel_rfl
 have f6:DataW.trod enc Tryz.prog w base spare held n 83 ((cs.drop 7).take 1)=xs[6]?:=(congrArg (fun k=>DataW.trod enc Tryz.prog w base spare held n 83 ((cs.drop 7).take k)) e6.symm).trans (hf 6 _ rfl)
 obtain⟨y6,g6⟩:=opens_field (opens_slice (rSlice_ok maxLen _ rInt_ok) Tryz.underlying83 (by kernel_rfl) (opens_slice rInt_ok Tryz.underlying30 (by kernel_rfl) (opens_int Tryz.underlying3))) (i:=6) (by rw [hxl];decide) f6
 have hl:cs.length=8:=hlen.trans (by kernel_rfl)
 refine⟨⟨y0,y1,y2,y3,y4,y5,y6⟩,?_⟩
 have t6:(rSlice maxLen 30 (rSlice maxLen 3 rInt)).rep w (cs.drop 7) y6:=by rw [List.take_of_length_le (by rw [List.length_drop,hl];decide)]at g6;exact g6
 have t5:(rPair (rSlice maxLen 76 (rPlan maxLen)) ((rSlice maxLen 30 (rSlice maxLen 3 rInt)))).rep w (cs.drop 6) (y5,y6):=rPair_split 1 g5 (by rw [List.drop_drop];exact t6)
 have t4:(rPair (rSlice maxLen 3 rInt) (rPair (rSlice maxLen 76 (rPlan maxLen)) ((rSlice maxLen 30 (rSlice maxLen 3 rInt))))).rep w (cs.drop 5) (y4,y5,y6):=rPair_split 1 g4 (by rw [List.drop_drop];exact t5)
 have t3:(rPair (rBox maxLen) (rPair (rSlice maxLen 3 rInt) (rPair (rSlice maxLen 76 (rPlan maxLen)) ((rSlice maxLen 30 (rSlice maxLen 3 rInt)))))).rep w (cs.drop 3) (y3,y4,y5,y6):=rPair_split 2 g3 (by rw [List.drop_drop];exact t4)
 have t2:(rPair rInt (rPair (rBox maxLen) (rPair (rSlice maxLen 3 rInt) (rPair (rSlice maxLen 76 (rPlan maxLen)) ((rSlice maxLen 30 (rSlice maxLen 3 rInt))))))).rep w (cs.drop 2) (y2,y3,y4,y5,y6):=rPair_split 1 g2 (by rw [List.drop_drop];exact t3)
 have t1:(rPair rInt (rPair rInt (rPair (rBox maxLen) (rPair (rSlice maxLen 3 rInt) (rPair (rSlice maxLen 76 (rPlan maxLen)) ((rSlice maxLen 30 (rSlice maxLen 3 rInt)))))))).rep w (cs.drop 1) (y1,y2,y3,y4,y5,y6):=rPair_split 1 g1 (by rw [List.drop_drop];exact t2)
 have t0:(rPair rInt (rPair rInt (rPair rInt (rPair (rBox maxLen) (rPair (rSlice maxLen 3 rInt) (rPair (rSlice maxLen 76 (rPlan maxLen)) ((rSlice maxLen 30 (rSlice maxLen 3 rInt))))))))).rep w (cs.drop 0) (y0,y1,y2,y3,y4,y5,y6):=rPair_split 1 g0 (by rw [List.drop_drop];exact t1)
 exact t0
theorem toModel_c (cs:List Value) (x:ModelD) (w:World) (h:(rModel NB).rep w cs x):Calls Tryz.prog 11 #[.agg cs.toArray] w (RetV (rModel NB) x w):=by
 obtain⟨AScan,nScan,cScan,ASort,nSort,cSort,AHash,nHash,cHash,AMerge,nMerge,cMerge,ANested,nNested,cNested,rfl,i00,i01,i02,i03,i04,r0,i10,i11,i12,i13,i14,r1,i20,i21,i22,i23,i24,r2,i30,i31,i32,i33,i34,r3,i40,i41,i42,i43,i44,r4⟩:=rModel_rep.1 h
 clear h
 obtain⟨wa,hwa⟩:∃ wa,wa=w.alloc (.cells #[.int .i64 x.fScan.fFixed,.int .i64 x.fScan.fPerLeft,.int .i64 x.fScan.fPerRight,.int .i64 x.fScan.fPerOutput,.int .i64 x.fScan.fPerPair,.slice AScan nScan cScan,.int .i64 x.fSort.fFixed,.int .i64 x.fSort.fPerLeft,.int .i64 x.fSort.fPerRight,.int .i64 x.fSort.fPerOutput,.int .i64 x.fSort.fPerPair,.slice ASort nSort cSort,.int .i64 x.fHash.fFixed,.int .i64 x.fHash.fPerLeft,.int .i64 x.fHash.fPerRight,.int .i64 x.fHash.fPerOutput,.int .i64 x.fHash.fPerPair,.slice AHash nHash cHash,.int .i64 x.fMerge.fFixed,.int .i64 x.fMerge.fPerLeft,.int .i64 x.fMerge.fPerRight,.int .i64 x.fMerge.fPerOutput,.int .i64 x.fMerge.fPerPair,.slice AMerge nMerge cMerge,.int .i64 x.fNested.fFixed,.int .i64 x.fNested.fPerLeft,.int .i64 x.fNested.fPerRight,.int .i64 x.fNested.fPerOutput,.int .i64 x.fNested.fPerPair,.slice ANested nNested cNested] 26):=⟨_,rfl⟩
 have hB:Below w.heap.size w wa:=by rw [hwa];exact(Below.refl _ _).alloc (Nat.le_refl _) _
 have bx:Bx wa w.heap.size [.int .i64 x.fScan.fFixed,.int .i64 x.fScan.fPerLeft,.int .i64 x.fScan.fPerRight,.int .i64 x.fScan.fPerOutput,.int .i64 x.fScan.fPerPair,.slice AScan nScan cScan,.int .i64 x.fSort.fFixed,.int .i64 x.fSort.fPerLeft,.int .i64 x.fSort.fPerRight,.int .i64 x.fSort.fPerOutput,.int .i64 x.fSort.fPerPair,.slice ASort nSort cSort,.int .i64 x.fHash.fFixed,.int .i64 x.fHash.fPerLeft,.int .i64 x.fHash.fPerRight,.int .i64 x.fHash.fPerOutput,.int .i64 x.fHash.fPerPair,.slice AHash nHash cHash,.int .i64 x.fMerge.fFixed,.int .i64 x.fMerge.fPerLeft,.int .i64 x.fMerge.fPerRight,.int .i64 x.fMerge.fPerOutput,.int .i64 x.fMerge.fPerPair,.slice AMerge nMerge cMerge,.int .i64 x.fNested.fFixed,.int .i64 x.fNested.fPerLeft,.int .i64 x.fNested.fPerRight,.int .i64 x.fNested.fPerOutput,.int .i64 x.fNested.fPerPair,.slice ANested nNested cNested]:=by rw [hwa];exact Bx.new w _ _
 have hsa:wa.heap.size=w.heap.size+1:=by rw [hwa];simp
 obtain⟨wb,hwb⟩:∃ wb,wb=wa.alloc (.cells #[.int .i64 0,.int .i64 0,.int .i64 0,.int .i64 0,.int .i64 0,.slice none 0 0,.int .i64 0,.int .i64 0,.int .i64 0,.int .i64 0,.int .i64 0,.slice none 0 0,.int .i64 0,.int .i64 0,.int .i64 0,.int .i64 0,.int .i64 0,.slice none 0 0,.int .i64 0,.int .i64 0,.int .i64 0,.int .i64 0,.int .i64 0,.slice none 0 0,.int .i64 0,.int .i64 0,.int .i64 0,.int .i64 0,.int .i64 0,.slice none 0 0] 46):=⟨_,rfl⟩
 have hb:Below wa.heap.size wa wb:=by rw [hwb];exact(Below.refl _ _).alloc (Nat.le_refl _) _
 have bR:Bk wb (w.heap.size+1) 46 [.int .i64 0,.int .i64 0,.int .i64 0,.int .i64 0,.int .i64 0,.slice none 0 0,.int .i64 0,.int .i64 0,.int .i64 0,.int .i64 0,.int .i64 0,.slice none 0 0,.int .i64 0,.int .i64 0,.int .i64 0,.int .i64 0,.int .i64 0,.slice none 0 0,.int .i64 0,.int .i64 0,.int .i64 0,.int .i64 0,.int .i64 0,.slice none 0 0,.int .i64 0,.int .i64 0,.int .i64 0,.int .i64 0,.int .i64 0,.slice none 0 0]:=by rw [hwb,<- hsa];exact Bk.new wa _ _
 have hsb:wb.heap.size=w.heap.size+2:=by rw [hwb];simp [hsa]
 replace hB:=hB.trans (hb.mono hB.size)
 replace bx:=bx.below hb
 obtain⟨w0,hw0⟩:∃ w0,w0=wb.alloc (.cells #[.int .i64 0,.int .i64 0,.int .i64 0,.int .i64 0,.int .i64 0,.slice none 0 0,.int .i64 0,.int .i64 0,.int .i64 0,.int .i64 0,.int .i64 0,.slice none 0 0,.int .i64 0,.int .i64 0,.int .i64 0,.int .i64 0,.int .i64 0,.slice none 0 0,.int .i64 0,.int .i64 0,.int .i64 0,.int .i64 0,.int .i64 0,.slice none 0 0,.int .i64 0,.int .i64 0,.int .i64 0,.int .i64 0,.int .i64 0,.slice none 0 0] 46):=⟨_,rfl⟩
 have hb2:Below wb.heap.size wb w0:=by rw [hw0];exact(Below.refl _ _).alloc (Nat.le_refl _) _
 have bO:Bk w0 (w.heap.size+2) 46 [.int .i64 0,.int .i64 0,.int .i64 0,.int .i64 0,.int .i64 0,.slice none 0 0,.int .i64 0,.int .i64 0,.int .i64 0,.int .i64 0,.int .i64 0,.slice none 0 0,.int .i64 0,.int .i64 0,.int .i64 0,.int .i64 0,.int .i64 0,.slice none 0 0,.int .i64 0,.int .i64 0,.int .i64 0,.int .i64 0,.int .i64 0,.slice none 0 0,.int .i64 0,.int .i64 0,.int .i64 0,.int .i64 0,.int .i64 0,.slice none 0 0]:=by rw [hw0,<- hsb];exact Bk.new wb _ _
 have hs0:w.heap.size+3<=w0.heap.size:=by rw [hw0];simp [hsb]
 replace hB:=hB.trans (hb2.mono hB.size)
 replace bx:=bx.below hb2
 replace bR:=bR.below hb2
 clear hb hb2 hsb hsa
 have hwb':=hwb.symm
 have hw0':=hw0.symm
 go_enter Tryz.func11,Tryz.ntmps11
 go_upto_region 2 with fail
 rw [<- hwa,hwb',hw0']
 clear hwa hwb hwb' hw0 hw0'
 have m0:=bx 0 _ rfl
 have m1:=bx 1 _ rfl
 have m2:=bx 2 _ rfl
 have m3:=bx 3 _ rfl
 have m4:=bx 4 _ rfl
 have m5:=bx 5 _ rfl
 go_wp2_with fail
 refine(toOperator_c _ x.fScan _ (rOperator_rep.2 ⟨AScan,nScan,cScan,rfl,i00,i01,i02,i03,i04,r0.below (rCostStep_ok NB) hB⟩)).mono ?_
 rintro e v0 ⟨cs0,f0,rfl,o0,fr0,hb⟩
 obtain⟨B0,p0,q0,g0,rfl,rfl,_,_,_,_,_,os0⟩:=rOperator_own.1 o0
 clear o0 m0 m1 m2 m3 m4 m5
 replace hB:=hB.trans (hb.mono hB.size)
 replace bx:=bx.below hb
 replace bR:=bR.below hb
 replace bO:=bO.below hb
 have FR:Fr (w.heap.size+3) f0:=fr0.mono hs0
 have PF0:Fr (w.heap.size+3) f0:=fr0.mono (by omega)
 have hs1:w.heap.size+3<=v0.heap.size:=Nat.le_trans hs0 hb.size
 clear hb
 have k0:=bO.bx 0 _ rfl
 have z0:=bO.frozen 0
 have k1:=bO.bx 1 _ rfl
 have z1:=bO.frozen 1
 have k2:=bO.bx 2 _ rfl
 have z2:=bO.frozen 2
 have k3:=bO.bx 3 _ rfl
 have z3:=bO.frozen 3
 have k4:=bO.bx 4 _ rfl
 have z4:=bO.frozen 4
 have k5:=bO.bx 5 _ rfl
 have z5:=bO.frozen 5
 go_upto_region 3 with fail
 obtain⟨w1,hw⟩:∃ W:World,W=((((((v0).setCell ⟨w.heap.size+2,0,none⟩ (.int .i64 x.fScan.fFixed)).setCell ⟨w.heap.size+2,1,none⟩ (.int .i64 x.fScan.fPerLeft)).setCell ⟨w.heap.size+2,2,none⟩ (.int .i64 x.fScan.fPerRight)).setCell ⟨w.heap.size+2,3,none⟩ (.int .i64 x.fScan.fPerOutput)).setCell ⟨w.heap.size+2,4,none⟩ (.int .i64 x.fScan.fPerPair)).setCell ⟨w.heap.size+2,5,none⟩ (.slice B0 p0 q0):=⟨_,rfl⟩
 rw [<- hw]
 have hw2:w1=setCells v0 (w.heap.size+2) 0 [.int .i64 x.fScan.fFixed,.int .i64 x.fScan.fPerLeft,.int .i64 x.fScan.fPerRight,.int .i64 x.fScan.fPerOutput,.int .i64 x.fScan.fPerPair,.slice B0 p0 q0]:=hw
 clear hw k0 k1 k2 k3 k4 k5 z0 z1 z2 z3 z4 z5
 replace bO:Bk w1 (w.heap.size+2) 46 [.int .i64 x.fScan.fFixed,.int .i64 x.fScan.fPerLeft,.int .i64 x.fScan.fPerRight,.int .i64 x.fScan.fPerOutput,.int .i64 x.fScan.fPerPair,.slice B0 p0 q0,.int .i64 0,.int .i64 0,.int .i64 0,.int .i64 0,.int .i64 0,.slice none 0 0,.int .i64 0,.int .i64 0,.int .i64 0,.int .i64 0,.int .i64 0,.slice none 0 0,.int .i64 0,.int .i64 0,.int .i64 0,.int .i64 0,.int .i64 0,.slice none 0 0,.int .i64 0,.int .i64 0,.int .i64 0,.int .i64 0,.int .i64 0,.slice none 0 0]:=by rw [hw2];exact bO.setCells 0 [.int .i64 x.fScan.fFixed,.int .i64 x.fScan.fPerLeft,.int .i64 x.fScan.fPerRight,.int .i64 x.fScan.fPerOutput,.int .i64 x.fScan.fPerPair,.slice B0 p0 q0]
 replace bR:=bR.otherC (show w.heap.size+1≠w.heap.size+2 by omega) 0 [.int .i64 x.fScan.fFixed,.int .i64 x.fScan.fPerLeft,.int .i64 x.fScan.fPerRight,.int .i64 x.fScan.fPerOutput,.int .i64 x.fScan.fPerPair,.slice B0 p0 q0]
 replace bx:=bx.otherC (show w.heap.size≠w.heap.size+2 by omega) 0 [.int .i64 x.fScan.fFixed,.int .i64 x.fScan.fPerLeft,.int .i64 x.fScan.fPerRight,.int .i64 x.fScan.fPerOutput,.int .i64 x.fScan.fPerPair,.slice B0 p0 q0]
 have hO:=(Out.refl (w.heap.size+3) v0).setCells (show w.heap.size+2<w.heap.size+3 by omega) 0 [.int .i64 x.fScan.fFixed,.int .i64 x.fScan.fPerLeft,.int .i64 x.fScan.fPerRight,.int .i64 x.fScan.fPerOutput,.int .i64 x.fScan.fPerPair,.slice B0 p0 q0]
 replace hB:=Below.setCells hB (show w.heap.size<=w.heap.size+2 by omega) 0 [.int .i64 x.fScan.fFixed,.int .i64 x.fScan.fPerLeft,.int .i64 x.fScan.fPerRight,.int .i64 x.fScan.fPerOutput,.int .i64 x.fScan.fPerPair,.slice B0 p0 q0]
 rw [<- hw2]at bR bx hO hB
 replace os0:=os0.out (rCostStep_ok NB) (T:=w.heap.size+3) PF0 hO
 replace hs1:w.heap.size+3<=w1.heap.size:=Nat.le_trans hs1 hO.1
 clear hO hw2
 have LT:∀ k∈f0,k<w1.heap.size:=by
  intro k hk
  exact os0.lt (rCostStep_ok NB) k hk
 have m0:=bx 6 _ rfl
 have m1:=bx 7 _ rfl
 have m2:=bx 8 _ rfl
 have m3:=bx 9 _ rfl
 have m4:=bx 10 _ rfl
 have m5:=bx 11 _ rfl
 go_wp2_with fail
 refine(toOperator_c _ x.fSort _ (rOperator_rep.2 ⟨ASort,nSort,cSort,rfl,i10,i11,i12,i13,i14,r1.below (rCostStep_ok NB) hB⟩)).mono ?_
 rintro e v1 ⟨cs1,f1,rfl,o1,fr1,hb⟩
 obtain⟨B1,p1,q1,g1,rfl,rfl,_,_,_,_,_,os1⟩:=rOperator_own.1 o1
 clear o1 m0 m1 m2 m3 m4 m5
 replace hB:=hB.trans (hb.mono hB.size)
 replace bx:=bx.below hb
 replace bR:=bR.below hb
 replace bO:=bO.below hb
 replace os0:=os0.belowS (rCostStep_ok NB) hb
 replace FR:=FR.append fr1 LT (by omega)
 have PF1:Fr (w.heap.size+3) f1:=fr1.mono (by omega)
 have hs2:w.heap.size+3<=v1.heap.size:=Nat.le_trans hs1 hb.size
 clear hb
 have k0:=bO.bx 6 _ rfl
 have z0:=bO.frozen 6
 have k1:=bO.bx 7 _ rfl
 have z1:=bO.frozen 7
 have k2:=bO.bx 8 _ rfl
 have z2:=bO.frozen 8
 have k3:=bO.bx 9 _ rfl
 have z3:=bO.frozen 9
 have k4:=bO.bx 10 _ rfl
 have z4:=bO.frozen 10
 have k5:=bO.bx 11 _ rfl
 have z5:=bO.frozen 11
 go_upto_region 4 with fail
 obtain⟨w2,hw⟩:∃ W:World,W=((((((v1).setCell ⟨w.heap.size+2,6,none⟩ (.int .i64 x.fSort.fFixed)).setCell ⟨w.heap.size+2,7,none⟩ (.int .i64 x.fSort.fPerLeft)).setCell ⟨w.heap.size+2,8,none⟩ (.int .i64 x.fSort.fPerRight)).setCell ⟨w.heap.size+2,9,none⟩ (.int .i64 x.fSort.fPerOutput)).setCell ⟨w.heap.size+2,10,none⟩ (.int .i64 x.fSort.fPerPair)).setCell ⟨w.heap.size+2,11,none⟩ (.slice B1 p1 q1):=⟨_,rfl⟩
 rw [<- hw]
 have hw2:w2=setCells v1 (w.heap.size+2) 6 [.int .i64 x.fSort.fFixed,.int .i64 x.fSort.fPerLeft,.int .i64 x.fSort.fPerRight,.int .i64 x.fSort.fPerOutput,.int .i64 x.fSort.fPerPair,.slice B1 p1 q1]:=hw
 clear hw k0 k1 k2 k3 k4 k5 z0 z1 z2 z3 z4 z5
 replace bO:Bk w2 (w.heap.size+2) 46 [.int .i64 x.fScan.fFixed,.int .i64 x.fScan.fPerLeft,.int .i64 x.fScan.fPerRight,.int .i64 x.fScan.fPerOutput,.int .i64 x.fScan.fPerPair,.slice B0 p0 q0,.int .i64 x.fSort.fFixed,.int .i64 x.fSort.fPerLeft,.int .i64 x.fSort.fPerRight,.int .i64 x.fSort.fPerOutput,.int .i64 x.fSort.fPerPair,.slice B1 p1 q1,.int .i64 0,.int .i64 0,.int .i64 0,.int .i64 0,.int .i64 0,.slice none 0 0,.int .i64 0,.int .i64 0,.int .i64 0,.int .i64 0,.int .i64 0,.slice none 0 0,.int .i64 0,.int .i64 0,.int .i64 0,.int .i64 0,.int .i64 0,.slice none 0 0]:=by rw [hw2];exact bO.setCells 6 [.int .i64 x.fSort.fFixed,.int .i64 x.fSort.fPerLeft,.int .i64 x.fSort.fPerRight,.int .i64 x.fSort.fPerOutput,.int .i64 x.fSort.fPerPair,.slice B1 p1 q1]
 replace bR:=bR.otherC (show w.heap.size+1≠w.heap.size+2 by omega) 6 [.int .i64 x.fSort.fFixed,.int .i64 x.fSort.fPerLeft,.int .i64 x.fSort.fPerRight,.int .i64 x.fSort.fPerOutput,.int .i64 x.fSort.fPerPair,.slice B1 p1 q1]
 replace bx:=bx.otherC (show w.heap.size≠w.heap.size+2 by omega) 6 [.int .i64 x.fSort.fFixed,.int .i64 x.fSort.fPerLeft,.int .i64 x.fSort.fPerRight,.int .i64 x.fSort.fPerOutput,.int .i64 x.fSort.fPerPair,.slice B1 p1 q1]
 have hO:=(Out.refl (w.heap.size+3) v1).setCells (show w.heap.size+2<w.heap.size+3 by omega) 6 [.int .i64 x.fSort.fFixed,.int .i64 x.fSort.fPerLeft,.int .i64 x.fSort.fPerRight,.int .i64 x.fSort.fPerOutput,.int .i64 x.fSort.fPerPair,.slice B1 p1 q1]
 replace hB:=Below.setCells hB (show w.heap.size<=w.heap.size+2 by omega) 6 [.int .i64 x.fSort.fFixed,.int .i64 x.fSort.fPerLeft,.int .i64 x.fSort.fPerRight,.int .i64 x.fSort.fPerOutput,.int .i64 x.fSort.fPerPair,.slice B1 p1 q1]
 rw [<- hw2]at bR bx hO hB
 replace os0:=os0.out (rCostStep_ok NB) (T:=w.heap.size+3) PF0 hO
 replace os1:=os1.out (rCostStep_ok NB) (T:=w.heap.size+3) PF1 hO
 replace hs2:w.heap.size+3<=w2.heap.size:=Nat.le_trans hs2 hO.1
 clear hO hw2
 have LT:∀ k∈(f0++f1),k<w2.heap.size:=by
  intro k hk
  simp only [List.mem_append]at hk
  rcases hk with hk|hk
  ·exact os0.lt (rCostStep_ok NB) k hk
  ·exact os1.lt (rCostStep_ok NB) k hk
 have m0:=bx 12 _ rfl
 have m1:=bx 13 _ rfl
 have m2:=bx 14 _ rfl
 have m3:=bx 15 _ rfl
 have m4:=bx 16 _ rfl
 have m5:=bx 17 _ rfl
 go_wp2_with fail
 refine(toOperator_c _ x.fHash _ (rOperator_rep.2 ⟨AHash,nHash,cHash,rfl,i20,i21,i22,i23,i24,r2.below (rCostStep_ok NB) hB⟩)).mono ?_
 rintro e v2 ⟨cs2,f2,rfl,o2,fr2,hb⟩
 obtain⟨B2,p2,q2,g2,rfl,rfl,_,_,_,_,_,os2⟩:=rOperator_own.1 o2
 clear o2 m0 m1 m2 m3 m4 m5
 replace hB:=hB.trans (hb.mono hB.size)
 replace bx:=bx.below hb
 replace bR:=bR.below hb
 replace bO:=bO.below hb
 replace os0:=os0.belowS (rCostStep_ok NB) hb
 replace os1:=os1.belowS (rCostStep_ok NB) hb
 replace FR:=FR.append fr2 LT (by omega)
 have PF2:Fr (w.heap.size+3) f2:=fr2.mono (by omega)
 have hs3:w.heap.size+3<=v2.heap.size:=Nat.le_trans hs2 hb.size
 clear hb
 have k0:=bO.bx 12 _ rfl
 have z0:=bO.frozen 12
 have k1:=bO.bx 13 _ rfl
 have z1:=bO.frozen 13
 have k2:=bO.bx 14 _ rfl
 have z2:=bO.frozen 14
 have k3:=bO.bx 15 _ rfl
 have z3:=bO.frozen 15
 have k4:=bO.bx 16 _ rfl
 have z4:=bO.frozen 16
 have k5:=bO.bx 17 _ rfl
 have z5:=bO.frozen 17
 go_upto_region 5 with fail
 obtain⟨w3,hw⟩:∃ W:World,W=((((((v2).setCell ⟨w.heap.size+2,12,none⟩ (.int .i64 x.fHash.fFixed)).setCell ⟨w.heap.size+2,13,none⟩ (.int .i64 x.fHash.fPerLeft)).setCell ⟨w.heap.size+2,14,none⟩ (.int .i64 x.fHash.fPerRight)).setCell ⟨w.heap.size+2,15,none⟩ (.int .i64 x.fHash.fPerOutput)).setCell ⟨w.heap.size+2,16,none⟩ (.int .i64 x.fHash.fPerPair)).setCell ⟨w.heap.size+2,17,none⟩ (.slice B2 p2 q2):=⟨_,rfl⟩
 rw [<- hw]
 have hw2:w3=setCells v2 (w.heap.size+2) 12 [.int .i64 x.fHash.fFixed,.int .i64 x.fHash.fPerLeft,.int .i64 x.fHash.fPerRight,.int .i64 x.fHash.fPerOutput,.int .i64 x.fHash.fPerPair,.slice B2 p2 q2]:=hw
 clear hw k0 k1 k2 k3 k4 k5 z0 z1 z2 z3 z4 z5
 replace bO:Bk w3 (w.heap.size+2) 46 [.int .i64 x.fScan.fFixed,.int .i64 x.fScan.fPerLeft,.int .i64 x.fScan.fPerRight,.int .i64 x.fScan.fPerOutput,.int .i64 x.fScan.fPerPair,.slice B0 p0 q0,.int .i64 x.fSort.fFixed,.int .i64 x.fSort.fPerLeft,.int .i64 x.fSort.fPerRight,.int .i64 x.fSort.fPerOutput,.int .i64 x.fSort.fPerPair,.slice B1 p1 q1,.int .i64 x.fHash.fFixed,.int .i64 x.fHash.fPerLeft,.int .i64 x.fHash.fPerRight,.int .i64 x.fHash.fPerOutput,.int .i64 x.fHash.fPerPair,.slice B2 p2 q2,.int .i64 0,.int .i64 0,.int .i64 0,.int .i64 0,.int .i64 0,.slice none 0 0,.int .i64 0,.int .i64 0,.int .i64 0,.int .i64 0,.int .i64 0,.slice none 0 0]:=by rw [hw2];exact bO.setCells 12 [.int .i64 x.fHash.fFixed,.int .i64 x.fHash.fPerLeft,.int .i64 x.fHash.fPerRight,.int .i64 x.fHash.fPerOutput,.int .i64 x.fHash.fPerPair,.slice B2 p2 q2]
 replace bR:=bR.otherC (show w.heap.size+1≠w.heap.size+2 by omega) 12 [.int .i64 x.fHash.fFixed,.int .i64 x.fHash.fPerLeft,.int .i64 x.fHash.fPerRight,.int .i64 x.fHash.fPerOutput,.int .i64 x.fHash.fPerPair,.slice B2 p2 q2]
 replace bx:=bx.otherC (show w.heap.size≠w.heap.size+2 by omega) 12 [.int .i64 x.fHash.fFixed,.int .i64 x.fHash.fPerLeft,.int .i64 x.fHash.fPerRight,.int .i64 x.fHash.fPerOutput,.int .i64 x.fHash.fPerPair,.slice B2 p2 q2]
 have hO:=(Out.refl (w.heap.size+3) v2).setCells (show w.heap.size+2<w.heap.size+3 by omega) 12 [.int .i64 x.fHash.fFixed,.int .i64 x.fHash.fPerLeft,.int .i64 x.fHash.fPerRight,.int .i64 x.fHash.fPerOutput,.int .i64 x.fHash.fPerPair,.slice B2 p2 q2]
 replace hB:=Below.setCells hB (show w.heap.size<=w.heap.size+2 by omega) 12 [.int .i64 x.fHash.fFixed,.int .i64 x.fHash.fPerLeft,.int .i64 x.fHash.fPerRight,.int .i64 x.fHash.fPerOutput,.int .i64 x.fHash.fPerPair,.slice B2 p2 q2]
 rw [<- hw2]at bR bx hO hB
 replace os0:=os0.out (rCostStep_ok NB) (T:=w.heap.size+3) PF0 hO
 replace os1:=os1.out (rCostStep_ok NB) (T:=w.heap.size+3) PF1 hO
 replace os2:=os2.out (rCostStep_ok NB) (T:=w.heap.size+3) PF2 hO
 replace hs3:w.heap.size+3<=w3.heap.size:=Nat.le_trans hs3 hO.1
 clear hO hw2
 have LT:∀ k∈((f0++f1)++f2),k<w3.heap.size:=by
  intro k hk
  simp only [List.mem_append]at hk
  rcases hk with (hk|hk)|hk
  ·exact os0.lt (rCostStep_ok NB) k hk
  ·exact os1.lt (rCostStep_ok NB) k hk
  ·exact os2.lt (rCostStep_ok NB) k hk
 have m0:=bx 18 _ rfl
 have m1:=bx 19 _ rfl
 have m2:=bx 20 _ rfl
 have m3:=bx 21 _ rfl
 have m4:=bx 22 _ rfl
 have m5:=bx 23 _ rfl
 go_wp2_with fail
 refine(toOperator_c _ x.fMerge _ (rOperator_rep.2 ⟨AMerge,nMerge,cMerge,rfl,i30,i31,i32,i33,i34,r3.below (rCostStep_ok NB) hB⟩)).mono ?_
 rintro e v3 ⟨cs3,f3,rfl,o3,fr3,hb⟩
 obtain⟨B3,p3,q3,g3,rfl,rfl,_,_,_,_,_,os3⟩:=rOperator_own.1 o3
 clear o3 m0 m1 m2 m3 m4 m5
 replace hB:=hB.trans (hb.mono hB.size)
 replace bx:=bx.below hb
 replace bR:=bR.below hb
 replace bO:=bO.below hb
 replace os0:=os0.belowS (rCostStep_ok NB) hb
 replace os1:=os1.belowS (rCostStep_ok NB) hb
 replace os2:=os2.belowS (rCostStep_ok NB) hb
 replace FR:=FR.append fr3 LT (by omega)
 have PF3:Fr (w.heap.size+3) f3:=fr3.mono (by omega)
 have hs4:w.heap.size+3<=v3.heap.size:=Nat.le_trans hs3 hb.size
 clear hb
 have k0:=bO.bx 18 _ rfl
 have z0:=bO.frozen 18
 have k1:=bO.bx 19 _ rfl
 have z1:=bO.frozen 19
 have k2:=bO.bx 20 _ rfl
 have z2:=bO.frozen 20
 have k3:=bO.bx 21 _ rfl
 have z3:=bO.frozen 21
 have k4:=bO.bx 22 _ rfl
 have z4:=bO.frozen 22
 have k5:=bO.bx 23 _ rfl
 have z5:=bO.frozen 23
 go_upto_region 6 with fail
 obtain⟨w4,hw⟩:∃ W:World,W=((((((v3).setCell ⟨w.heap.size+2,18,none⟩ (.int .i64 x.fMerge.fFixed)).setCell ⟨w.heap.size+2,19,none⟩ (.int .i64 x.fMerge.fPerLeft)).setCell ⟨w.heap.size+2,20,none⟩ (.int .i64 x.fMerge.fPerRight)).setCell ⟨w.heap.size+2,21,none⟩ (.int .i64 x.fMerge.fPerOutput)).setCell ⟨w.heap.size+2,22,none⟩ (.int .i64 x.fMerge.fPerPair)).setCell ⟨w.heap.size+2,23,none⟩ (.slice B3 p3 q3):=⟨_,rfl⟩
 rw [<- hw]
 have hw2:w4=setCells v3 (w.heap.size+2) 18 [.int .i64 x.fMerge.fFixed,.int .i64 x.fMerge.fPerLeft,.int .i64 x.fMerge.fPerRight,.int .i64 x.fMerge.fPerOutput,.int .i64 x.fMerge.fPerPair,.slice B3 p3 q3]:=hw
 clear hw k0 k1 k2 k3 k4 k5 z0 z1 z2 z3 z4 z5
 replace bO:Bk w4 (w.heap.size+2) 46 [.int .i64 x.fScan.fFixed,.int .i64 x.fScan.fPerLeft,.int .i64 x.fScan.fPerRight,.int .i64 x.fScan.fPerOutput,.int .i64 x.fScan.fPerPair,.slice B0 p0 q0,.int .i64 x.fSort.fFixed,.int .i64 x.fSort.fPerLeft,.int .i64 x.fSort.fPerRight,.int .i64 x.fSort.fPerOutput,.int .i64 x.fSort.fPerPair,.slice B1 p1 q1,.int .i64 x.fHash.fFixed,.int .i64 x.fHash.fPerLeft,.int .i64 x.fHash.fPerRight,.int .i64 x.fHash.fPerOutput,.int .i64 x.fHash.fPerPair,.slice B2 p2 q2,.int .i64 x.fMerge.fFixed,.int .i64 x.fMerge.fPerLeft,.int .i64 x.fMerge.fPerRight,.int .i64 x.fMerge.fPerOutput,.int .i64 x.fMerge.fPerPair,.slice B3 p3 q3,.int .i64 0,.int .i64 0,.int .i64 0,.int .i64 0,.int .i64 0,.slice none 0 0]:=by rw [hw2];exact bO.setCells 18 [.int .i64 x.fMerge.fFixed,.int .i64 x.fMerge.fPerLeft,.int .i64 x.fMerge.fPerRight,.int .i64 x.fMerge.fPerOutput,.int .i64 x.fMerge.fPerPair,.slice B3 p3 q3]
 replace bR:=bR.otherC (show w.heap.size+1≠w.heap.size+2 by omega) 18 [.int .i64 x.fMerge.fFixed,.int .i64 x.fMerge.fPerLeft,.int .i64 x.fMerge.fPerRight,.int .i64 x.fMerge.fPerOutput,.int .i64 x.fMerge.fPerPair,.slice B3 p3 q3]
 replace bx:=bx.otherC (show w.heap.size≠w.heap.size+2 by omega) 18 [.int .i64 x.fMerge.fFixed,.int .i64 x.fMerge.fPerLeft,.int .i64 x.fMerge.fPerRight,.int .i64 x.fMerge.fPerOutput,.int .i64 x.fMerge.fPerPair,.slice B3 p3 q3]
 have hO:=(Out.refl (w.heap.size+3) v3).setCells (show w.heap.size+2<w.heap.size+3 by omega) 18 [.int .i64 x.fMerge.fFixed,.int .i64 x.fMerge.fPerLeft,.int .i64 x.fMerge.fPerRight,.int .i64 x.fMerge.fPerOutput,.int .i64 x.fMerge.fPerPair,.slice B3 p3 q3]
 replace hB:=Below.setCells hB (show w.heap.size<=w.heap.size+2 by omega) 18 [.int .i64 x.fMerge.fFixed,.int .i64 x.fMerge.fPerLeft,.int .i64 x.fMerge.fPerRight,.int .i64 x.fMerge.fPerOutput,.int .i64 x.fMerge.fPerPair,.slice B3 p3 q3]
 rw [<- hw2]at bR bx hO hB
 replace os0:=os0.out (rCostStep_ok NB) (T:=w.heap.size+3) PF0 hO
 replace os1:=os1.out (rCostStep_ok NB) (T:=w.heap.size+3) PF1 hO
 replace os2:=os2.out (rCostStep_ok NB) (T:=w.heap.size+3) PF2 hO
 replace os3:=os3.out (rCostStep_ok NB) (T:=w.heap.size+3) PF3 hO
 replace hs4:w.heap.size+3<=w4.heap.size:=Nat.le_trans hs4 hO.1
 clear hO hw2
 have LT:∀ k∈(((f0++f1)++f2)++f3),k<w4.heap.size:=by
  intro k hk
  simp only [List.mem_append]at hk
  rcases hk with ((hk|hk)|hk)|hk
  ·exact os0.lt (rCostStep_ok NB) k hk
  ·exact os1.lt (rCostStep_ok NB) k hk
  ·exact os2.lt (rCostStep_ok NB) k hk
  ·exact os3.lt (rCostStep_ok NB) k hk
 have m0:=bx 24 _ rfl
 have m1:=bx 25 _ rfl
 have m2:=bx 26 _ rfl
 have m3:=bx 27 _ rfl
 have m4:=bx 28 _ rfl
 have m5:=bx 29 _ rfl
 go_wp2_with fail
 refine(toOperator_c _ x.fNested _ (rOperator_rep.2 ⟨ANested,nNested,cNested,rfl,i40,i41,i42,i43,i44,r4.below (rCostStep_ok NB) hB⟩)).mono ?_
 rintro e v4 ⟨cs4,f4,rfl,o4,fr4,hb⟩
 obtain⟨B4,p4,q4,g4,rfl,rfl,_,_,_,_,_,os4⟩:=rOperator_own.1 o4
 clear o4 m0 m1 m2 m3 m4 m5
 replace hB:=hB.trans (hb.mono hB.size)
 replace bx:=bx.below hb
 replace bR:=bR.below hb
 replace bO:=bO.below hb
 replace os0:=os0.belowS (rCostStep_ok NB) hb
 replace os1:=os1.belowS (rCostStep_ok NB) hb
 replace os2:=os2.belowS (rCostStep_ok NB) hb
 replace os3:=os3.belowS (rCostStep_ok NB) hb
 replace FR:=FR.append fr4 LT (by omega)
 have PF4:Fr (w.heap.size+3) f4:=fr4.mono (by omega)
 have hs5:w.heap.size+3<=v4.heap.size:=Nat.le_trans hs4 hb.size
 clear hb
 have k0:=bO.bx 24 _ rfl
 have z0:=bO.frozen 24
 have k1:=bO.bx 25 _ rfl
 have z1:=bO.frozen 25
 have k2:=bO.bx 26 _ rfl
 have z2:=bO.frozen 26
 have k3:=bO.bx 27 _ rfl
 have z3:=bO.frozen 27
 have k4:=bO.bx 28 _ rfl
 have z4:=bO.frozen 28
 have k5:=bO.bx 29 _ rfl
 have z5:=bO.frozen 29
 go_upto_region 7 with fail
 obtain⟨w5,hw⟩:∃ W:World,W=((((((v4).setCell ⟨w.heap.size+2,24,none⟩ (.int .i64 x.fNested.fFixed)).setCell ⟨w.heap.size+2,25,none⟩ (.int .i64 x.fNested.fPerLeft)).setCell ⟨w.heap.size+2,26,none⟩ (.int .i64 x.fNested.fPerRight)).setCell ⟨w.heap.size+2,27,none⟩ (.int .i64 x.fNested.fPerOutput)).setCell ⟨w.heap.size+2,28,none⟩ (.int .i64 x.fNested.fPerPair)).setCell ⟨w.heap.size+2,29,none⟩ (.slice B4 p4 q4):=⟨_,rfl⟩
 rw [<- hw]
 have hw2:w5=setCells v4 (w.heap.size+2) 24 [.int .i64 x.fNested.fFixed,.int .i64 x.fNested.fPerLeft,.int .i64 x.fNested.fPerRight,.int .i64 x.fNested.fPerOutput,.int .i64 x.fNested.fPerPair,.slice B4 p4 q4]:=hw
 clear hw k0 k1 k2 k3 k4 k5 z0 z1 z2 z3 z4 z5
 replace bO:Bk w5 (w.heap.size+2) 46 [.int .i64 x.fScan.fFixed,.int .i64 x.fScan.fPerLeft,.int .i64 x.fScan.fPerRight,.int .i64 x.fScan.fPerOutput,.int .i64 x.fScan.fPerPair,.slice B0 p0 q0,.int .i64 x.fSort.fFixed,.int .i64 x.fSort.fPerLeft,.int .i64 x.fSort.fPerRight,.int .i64 x.fSort.fPerOutput,.int .i64 x.fSort.fPerPair,.slice B1 p1 q1,.int .i64 x.fHash.fFixed,.int .i64 x.fHash.fPerLeft,.int .i64 x.fHash.fPerRight,.int .i64 x.fHash.fPerOutput,.int .i64 x.fHash.fPerPair,.slice B2 p2 q2,.int .i64 x.fMerge.fFixed,.int .i64 x.fMerge.fPerLeft,.int .i64 x.fMerge.fPerRight,.int .i64 x.fMerge.fPerOutput,.int .i64 x.fMerge.fPerPair,.slice B3 p3 q3,.int .i64 x.fNested.fFixed,.int .i64 x.fNested.fPerLeft,.int .i64 x.fNested.fPerRight,.int .i64 x.fNested.fPerOutput,.int .i64 x.fNested.fPerPair,.slice B4 p4 q4]:=by rw [hw2];exact bO.setCells 24 [.int .i64 x.fNested.fFixed,.int .i64 x.fNested.fPerLeft,.int .i64 x.fNested.fPerRight,.int .i64 x.fNested.fPerOutput,.int .i64 x.fNested.fPerPair,.slice B4 p4 q4]
 replace bR:=bR.otherC (show w.heap.size+1≠w.heap.size+2 by omega) 24 [.int .i64 x.fNested.fFixed,.int .i64 x.fNested.fPerLeft,.int .i64 x.fNested.fPerRight,.int .i64 x.fNested.fPerOutput,.int .i64 x.fNested.fPerPair,.slice B4 p4 q4]
 replace bx:=bx.otherC (show w.heap.size≠w.heap.size+2 by omega) 24 [.int .i64 x.fNested.fFixed,.int .i64 x.fNested.fPerLeft,.int .i64 x.fNested.fPerRight,.int .i64 x.fNested.fPerOutput,.int .i64 x.fNested.fPerPair,.slice B4 p4 q4]
 have hO:=(Out.refl (w.heap.size+3) v4).setCells (show w.heap.size+2<w.heap.size+3 by omega) 24 [.int .i64 x.fNested.fFixed,.int .i64 x.fNested.fPerLeft,.int .i64 x.fNested.fPerRight,.int .i64 x.fNested.fPerOutput,.int .i64 x.fNested.fPerPair,.slice B4 p4 q4]
 replace hB:=Below.setCells hB (show w.heap.size<=w.heap.size+2 by omega) 24 [.int .i64 x.fNested.fFixed,.int .i64 x.fNested.fPerLeft,.int .i64 x.fNested.fPerRight,.int .i64 x.fNested.fPerOutput,.int .i64 x.fNested.fPerPair,.slice B4 p4 q4]
 rw [<- hw2]at bR bx hO hB
 replace os0:=os0.out (rCostStep_ok NB) (T:=w.heap.size+3) PF0 hO
 replace os1:=os1.out (rCostStep_ok NB) (T:=w.heap.size+3) PF1 hO
 replace os2:=os2.out (rCostStep_ok NB) (T:=w.heap.size+3) PF2 hO
 replace os3:=os3.out (rCostStep_ok NB) (T:=w.heap.size+3) PF3 hO
 replace os4:=os4.out (rCostStep_ok NB) (T:=w.heap.size+3) PF4 hO
 replace hs5:w.heap.size+3<=w5.heap.size:=Nat.le_trans hs5 hO.1
 clear hO hw2
 have HREP:=(rModel_rep (M:=NB) (w:=w5) (x:=x)).2 ⟨B0,p0,q0,B1,p1,q1,B2,p2,q2,B3,p3,q3,B4,p4,q4,rfl,i00,i01,i02,i03,i04,os0.rs (rCostStep_ok NB),i10,i11,i12,i13,i14,os1.rs (rCostStep_ok NB),i20,i21,i22,i23,i24,os2.rs (rCostStep_ok NB),i30,i31,i32,i33,i34,os3.rs (rCostStep_ok NB),i40,i41,i42,i43,i44,os4.rs (rCostStep_ok NB)⟩
 go_step
 refine wpList_load_mid rfl 46 _ rfl (w.heap.size+2) 0 rfl [.int .i64 x.fScan.fFixed,.int .i64 x.fScan.fPerLeft,.int .i64 x.fScan.fPerRight,.int .i64 x.fScan.fPerOutput,.int .i64 x.fScan.fPerPair,.slice B0 p0 q0,.int .i64 x.fSort.fFixed,.int .i64 x.fSort.fPerLeft,.int .i64 x.fSort.fPerRight,.int .i64 x.fSort.fPerOutput,.int .i64 x.fSort.fPerPair,.slice B1 p1 q1,.int .i64 x.fHash.fFixed,.int .i64 x.fHash.fPerLeft,.int .i64 x.fHash.fPerRight,.int .i64 x.fHash.fPerOutput,.int .i64 x.fHash.fPerPair,.slice B2 p2 q2,.int .i64 x.fMerge.fFixed,.int .i64 x.fMerge.fPerLeft,.int .i64 x.fMerge.fPerRight,.int .i64 x.fMerge.fPerOutput,.int .i64 x.fMerge.fPerPair,.slice B3 p3 q3,.int .i64 x.fNested.fFixed,.int .i64 x.fNested.fPerLeft,.int .i64 x.fNested.fPerRight,.int .i64 x.fNested.fPerOutput,.int .i64 x.fNested.fPerPair,.slice B4 p4 q4] _ bO.rangeAt Tryz.underlying46 rfl sizeModelT ?_
 refine wpList_store_mid rfl 46 _ _ rfl (w.heap.size+1) 0 #[.int .i64 x.fScan.fFixed,.int .i64 x.fScan.fPerLeft,.int .i64 x.fScan.fPerRight,.int .i64 x.fScan.fPerOutput,.int .i64 x.fScan.fPerPair,.slice B0 p0 q0,.int .i64 x.fSort.fFixed,.int .i64 x.fSort.fPerLeft,.int .i64 x.fSort.fPerRight,.int .i64 x.fSort.fPerOutput,.int .i64 x.fSort.fPerPair,.slice B1 p1 q1,.int .i64 x.fHash.fFixed,.int .i64 x.fHash.fPerLeft,.int .i64 x.fHash.fPerRight,.int .i64 x.fHash.fPerOutput,.int .i64 x.fHash.fPerPair,.slice B2 p2 q2,.int .i64 x.fMerge.fFixed,.int .i64 x.fMerge.fPerLeft,.int .i64 x.fMerge.fPerRight,.int .i64 x.fMerge.fPerOutput,.int .i64 x.fMerge.fPerPair,.slice B3 p3 q3,.int .i64 x.fNested.fFixed,.int .i64 x.fNested.fPerLeft,.int .i64 x.fNested.fPerRight,.int .i64 x.fNested.fPerOutput,.int .i64 x.fNested.fPerPair,.slice B4 p4 q4] rfl rfl bR.there sizeModelT (all_oneCell_toArray ((rModel_ok NB).one HREP)) ?_
 rw [setCells_kit]
 have bF:=bR.fill (c:=[.int .i64 x.fScan.fFixed,.int .i64 x.fScan.fPerLeft,.int .i64 x.fScan.fPerRight,.int .i64 x.fScan.fPerOutput,.int .i64 x.fScan.fPerPair,.slice B0 p0 q0,.int .i64 x.fSort.fFixed,.int .i64 x.fSort.fPerLeft,.int .i64 x.fSort.fPerRight,.int .i64 x.fSort.fPerOutput,.int .i64 x.fSort.fPerPair,.slice B1 p1 q1,.int .i64 x.fHash.fFixed,.int .i64 x.fHash.fPerLeft,.int .i64 x.fHash.fPerRight,.int .i64 x.fHash.fPerOutput,.int .i64 x.fHash.fPerPair,.slice B2 p2 q2,.int .i64 x.fMerge.fFixed,.int .i64 x.fMerge.fPerLeft,.int .i64 x.fMerge.fPerRight,.int .i64 x.fMerge.fPerOutput,.int .i64 x.fMerge.fPerPair,.slice B3 p3 q3,.int .i64 x.fNested.fFixed,.int .i64 x.fNested.fPerLeft,.int .i64 x.fNested.fPerRight,.int .i64 x.fNested.fPerOutput,.int .i64 x.fNested.fPerPair,.slice B4 p4 q4]) rfl
 have hO:=(Out.refl (w.heap.size+3) w5).setCells (show w.heap.size+1<w.heap.size+3 by omega) 0 [.int .i64 x.fScan.fFixed,.int .i64 x.fScan.fPerLeft,.int .i64 x.fScan.fPerRight,.int .i64 x.fScan.fPerOutput,.int .i64 x.fScan.fPerPair,.slice B0 p0 q0,.int .i64 x.fSort.fFixed,.int .i64 x.fSort.fPerLeft,.int .i64 x.fSort.fPerRight,.int .i64 x.fSort.fPerOutput,.int .i64 x.fSort.fPerPair,.slice B1 p1 q1,.int .i64 x.fHash.fFixed,.int .i64 x.fHash.fPerLeft,.int .i64 x.fHash.fPerRight,.int .i64 x.fHash.fPerOutput,.int .i64 x.fHash.fPerPair,.slice B2 p2 q2,.int .i64 x.fMerge.fFixed,.int .i64 x.fMerge.fPerLeft,.int .i64 x.fMerge.fPerRight,.int .i64 x.fMerge.fPerOutput,.int .i64 x.fMerge.fPerPair,.slice B3 p3 q3,.int .i64 x.fNested.fFixed,.int .i64 x.fNested.fPerLeft,.int .i64 x.fNested.fPerRight,.int .i64 x.fNested.fPerOutput,.int .i64 x.fNested.fPerPair,.slice B4 p4 q4]
 replace hB:=Below.setCells hB (show w.heap.size<=w.heap.size+1 by omega) 0 [.int .i64 x.fScan.fFixed,.int .i64 x.fScan.fPerLeft,.int .i64 x.fScan.fPerRight,.int .i64 x.fScan.fPerOutput,.int .i64 x.fScan.fPerPair,.slice B0 p0 q0,.int .i64 x.fSort.fFixed,.int .i64 x.fSort.fPerLeft,.int .i64 x.fSort.fPerRight,.int .i64 x.fSort.fPerOutput,.int .i64 x.fSort.fPerPair,.slice B1 p1 q1,.int .i64 x.fHash.fFixed,.int .i64 x.fHash.fPerLeft,.int .i64 x.fHash.fPerRight,.int .i64 x.fHash.fPerOutput,.int .i64 x.fHash.fPerPair,.slice B2 p2 q2,.int .i64 x.fMerge.fFixed,.int .i64 x.fMerge.fPerLeft,.int .i64 x.fMerge.fPerRight,.int .i64 x.fMerge.fPerOutput,.int .i64 x.fMerge.fPerPair,.slice B3 p3 q3,.int .i64 x.fNested.fFixed,.int .i64 x.fNested.fPerLeft,.int .i64 x.fNested.fPerRight,.int .i64 x.fNested.fPerOutput,.int .i64 x.fNested.fPerPair,.slice B4 p4 q4]
 go_wp2
 refine bodyPost_ret (results_cell1 Tryz.results11 rfl bF.rangeAt Tryz.underlying46 rfl sizeModelT) rfl ?_
 replace os0:=os0.out (rCostStep_ok NB) PF0 hO
 replace os1:=os1.out (rCostStep_ok NB) PF1 hO
 replace os2:=os2.out (rCostStep_ok NB) PF2 hO
 replace os3:=os3.out (rCostStep_ok NB) PF3 hO
 replace os4:=os4.out (rCostStep_ok NB) PF4 hO
 exact⟨_,_,rfl,rModel_own.2 ⟨B0,p0,q0,B1,p1,q1,B2,p2,q2,B3,p3,q3,B4,p4,q4,f0,f1,f2,f3,f4,rfl,rfl,i00,i01,i02,i03,i04,os0,i10,i11,i12,i13,i14,os1,i20,i21,i22,i23,i24,os2,i30,i31,i32,i33,i34,os3,i40,i41,i42,i43,i44,os4⟩,(by have:=FR;simp only [List.append_assoc]at this;exact this.mono (by omega)),hB⟩
end Go.Proofs.YtnlcfkpcmfljeaaGreat
