/-
  Types
-/
import Derived.Test.YtnlcfkpcmfljeaaGreatStore
set_option linter.unusedVariables false
namespace Go.Proofs.YtnlcfkpcmfljeaaGreat
open Go.RowKit
structure AtomD where
 fName:ByteArray
 fVars:List Int
 deriving DecidableEq
def rAtom (M:Nat):Rp AtomD:=rIso (rPair (rStr M) ((rSlice M 3 rInt))) (fun x=>(x.fName,x.fVars))
theorem rAtom_ok (M:Nat):(rAtom M).Ok:=rIso_ok (rPair_ok (rStr_ok M) ((rSlice_ok M _ rInt_ok))) _
theorem rAtom_rep {M:Nat}{w:World}{cs:List Value}{x:AtomD}:(rAtom M).rep w cs x↔∃ AVars nVars cVars,cs=[.string x.fName,.slice AVars nVars cVars]/\x.fName.size<=M/\RS M rInt w AVars nVars cVars x.fVars:=by
 constructor
 ·rintro⟨_,_,rfl,⟨rfl,hName⟩,⟨AVars,nVars,cVars,rfl,hVars⟩⟩
  exact⟨AVars,nVars,cVars,rfl,hName,hVars⟩
 ·rintro⟨AVars,nVars,cVars,rfl,hName,hVars⟩
  exact⟨[.string x.fName],_,rfl,⟨rfl,hName⟩,⟨AVars,nVars,cVars,rfl,hVars⟩⟩
theorem rAtom_own {M:Nat}{w:World}{fp:List Nat}{cs:List Value}{x:AtomD}:(rAtom M).own w fp cs x↔∃ AVars nVars cVars fVars,cs=[.string x.fName,.slice AVars nVars cVars]/\fp=fVars/\x.fName.size<=M/\OS M 3 rInt w fVars AVars nVars cVars x.fVars:=by
 constructor
 ·rintro⟨_,fVars,_,_,rfl,rfl,⟨rfl,rfl,hName⟩,⟨AVars,nVars,cVars,rfl,hVars⟩⟩
  exact⟨AVars,nVars,cVars,_,rfl,rfl,hName,hVars⟩
 ·rintro⟨AVars,nVars,cVars,fVars,rfl,rfl,hName,hVars⟩
  exact⟨[],_,[.string x.fName],_,rfl,rfl,⟨rfl,rfl,hName⟩,⟨AVars,nVars,cVars,rfl,hVars⟩⟩
structure QueryD where
 fVariableCount:Int
 fAtoms:List AtomD
 deriving DecidableEq
def rQuery (M:Nat):Rp QueryD:=rIso (rPair rInt ((rSlice M 162 (rAtom M)))) (fun x=>(x.fVariableCount,x.fAtoms))
theorem rQuery_ok (M:Nat):(rQuery M).Ok:=rIso_ok (rPair_ok rInt_ok ((rSlice_ok M _ (rAtom_ok M)))) _
theorem rQuery_rep {M:Nat}{w:World}{cs:List Value}{x:QueryD}:(rQuery M).rep w cs x↔∃ A_e n_e c_e,cs=[.int .i64 x.fVariableCount,.slice A_e n_e c_e]/\I64 x.fVariableCount/\RS M (rAtom M) w A_e n_e c_e x.fAtoms:=by
 constructor
 ·rintro⟨_,_,rfl,⟨rfl,h_p5⟩,⟨A_e,n_e,c_e,rfl,h_e⟩⟩
  exact⟨A_e,n_e,c_e,rfl,h_p5,h_e⟩
 ·rintro⟨A_e,n_e,c_e,rfl,h_p5,h_e⟩
  exact⟨[.int .i64 x.fVariableCount],_,rfl,⟨rfl,h_p5⟩,⟨A_e,n_e,c_e,rfl,h_e⟩⟩
theorem rQuery_own {M:Nat}{w:World}{fp:List Nat}{cs:List Value}{x:QueryD}:(rQuery M).own w fp cs x↔∃ A_e n_e c_e fAtoms,cs=[.int .i64 x.fVariableCount,.slice A_e n_e c_e]/\fp=fAtoms/\I64 x.fVariableCount/\OS M 162 (rAtom M) w fAtoms A_e n_e c_e x.fAtoms:=by
 constructor
 ·rintro⟨_,fAtoms,_,_,rfl,rfl,⟨rfl,rfl,h_p5⟩,⟨A_e,n_e,c_e,rfl,h_e⟩⟩
  exact⟨A_e,n_e,c_e,_,rfl,rfl,h_p5,h_e⟩
 ·rintro⟨A_e,n_e,c_e,fAtoms,rfl,rfl,h_p5,h_e⟩
  exact⟨[],_,[.int .i64 x.fVariableCount],_,rfl,rfl,⟨rfl,rfl,h_p5⟩,⟨A_e,n_e,c_e,rfl,h_e⟩⟩
structure BoxD where
 fLow:List Int
 fHigh:List Int
 deriving DecidableEq
def rBox (M:Nat):Rp BoxD:=rIso (rPair (rSlice M 3 rInt) ((rSlice M 3 rInt))) (fun x=>(x.fLow,x.fHigh))
theorem rBox_ok (M:Nat):(rBox M).Ok:=rIso_ok (rPair_ok (rSlice_ok M _ rInt_ok) ((rSlice_ok M _ rInt_ok))) _
theorem rBox_rep {M:Nat}{w:World}{cs:List Value}{x:BoxD}:(rBox M).rep w cs x↔∃ ALow nLow cLow AHigh nHigh cHigh,cs=[.slice ALow nLow cLow,.slice AHigh nHigh cHigh]/\RS M rInt w ALow nLow cLow x.fLow/\RS M rInt w AHigh nHigh cHigh x.fHigh:=by
 constructor
 ·rintro⟨_,_,rfl,⟨ALow,nLow,cLow,rfl,hLow⟩,⟨AHigh,nHigh,cHigh,rfl,hHigh⟩⟩
  exact⟨ALow,nLow,cLow,AHigh,nHigh,cHigh,rfl,hLow,hHigh⟩
 ·rintro⟨ALow,nLow,cLow,AHigh,nHigh,cHigh,rfl,hLow,hHigh⟩
  exact⟨[.slice ALow nLow cLow],_,rfl,⟨ALow,nLow,cLow,rfl,hLow⟩,⟨AHigh,nHigh,cHigh,rfl,hHigh⟩⟩
theorem rBox_own {M:Nat}{w:World}{fp:List Nat}{cs:List Value}{x:BoxD}:(rBox M).own w fp cs x↔∃ ALow nLow cLow AHigh nHigh cHigh fLow fHigh,cs=[.slice ALow nLow cLow,.slice AHigh nHigh cHigh]/\fp=fLow++(fHigh)/\OS M 3 rInt w fLow ALow nLow cLow x.fLow/\OS M 3 rInt w fHigh AHigh nHigh cHigh x.fHigh:=by
 constructor
 ·rintro⟨fLow,fHigh,_,_,rfl,rfl,⟨ALow,nLow,cLow,rfl,hLow⟩,⟨AHigh,nHigh,cHigh,rfl,hHigh⟩⟩
  exact⟨ALow,nLow,cLow,AHigh,nHigh,cHigh,_,_,rfl,rfl,hLow,hHigh⟩
 ·rintro⟨ALow,nLow,cLow,AHigh,nHigh,cHigh,fLow,fHigh,rfl,rfl,hLow,hHigh⟩
  exact⟨fLow,_,[.slice ALow nLow cLow],_,rfl,rfl,⟨ALow,nLow,cLow,rfl,hLow⟩,⟨AHigh,nHigh,cHigh,rfl,hHigh⟩⟩
structure CostStepD where
 fFrom:Int
 fAdd:Int
 deriving DecidableEq
def rCostStep (M:Nat):Rp CostStepD:=rIso (rPair rInt (rInt)) (fun x=>(x.fFrom,x.fAdd))
theorem rCostStep_ok (M:Nat):(rCostStep M).Ok:=rIso_ok (rPair_ok rInt_ok (rInt_ok)) _
theorem rCostStep_size (M:Nat):(rCostStep M).size=2:=rfl
theorem rCostStep_rep {M:Nat}{w:World}{cs:List Value}{x:CostStepD}:(rCostStep M).rep w cs x↔cs=[.int .i64 x.fFrom,.int .i64 x.fAdd]/\I64 x.fFrom/\I64 x.fAdd:=by
 constructor
 ·rintro⟨_,_,rfl,⟨rfl,hFrom⟩,⟨rfl,hAdd⟩⟩
  exact⟨rfl,hFrom,hAdd⟩
 ·rintro⟨rfl,hFrom,hAdd⟩
  exact⟨[.int .i64 x.fFrom],_,rfl,⟨rfl,hFrom⟩,⟨rfl,hAdd⟩⟩
theorem rCostStep_own {M:Nat}{w:World}{fp:List Nat}{cs:List Value}{x:CostStepD}:(rCostStep M).own w fp cs x↔cs=[.int .i64 x.fFrom,.int .i64 x.fAdd]/\fp=[]/\I64 x.fFrom/\I64 x.fAdd:=by
 constructor
 ·rintro⟨_,_,_,_,rfl,rfl,⟨rfl,rfl,hFrom⟩,⟨rfl,rfl,hAdd⟩⟩
  exact⟨rfl,rfl,hFrom,hAdd⟩
 ·rintro⟨rfl,rfl,hFrom,hAdd⟩
  exact⟨[],_,[.int .i64 x.fFrom],_,rfl,rfl,⟨rfl,rfl,hFrom⟩,⟨rfl,rfl,hAdd⟩⟩
structure OperatorD where
 fFixed:Int
 fPerLeft:Int
 fPerRight:Int
 fPerOutput:Int
 fPerPair:Int
 fSteps:List CostStepD
 deriving DecidableEq
def rOperator (M:Nat):Rp OperatorD:=rIso (rPair rInt (rPair rInt (rPair rInt (rPair rInt (rPair rInt ((rSlice M 205 (rCostStep M)))))))) (fun x=>(x.fFixed,x.fPerLeft,x.fPerRight,x.fPerOutput,x.fPerPair,x.fSteps))
theorem rOperator_ok (M:Nat):(rOperator M).Ok:=rIso_ok (rPair_ok rInt_ok (rPair_ok rInt_ok (rPair_ok rInt_ok (rPair_ok rInt_ok (rPair_ok rInt_ok ((rSlice_ok M _ (rCostStep_ok M)))))))) _
theorem rOperator_rep {M:Nat}{w:World}{cs:List Value}{x:OperatorD}:(rOperator M).rep w cs x↔∃ A_d5 n_d5 c_d5,cs=[.int .i64 x.fFixed,.int .i64 x.fPerLeft,.int .i64 x.fPerRight,.int .i64 x.fPerOutput,.int .i64 x.fPerPair,.slice A_d5 n_d5 c_d5]/\I64 x.fFixed/\I64 x.fPerLeft/\I64 x.fPerRight/\I64 x.fPerOutput/\I64 x.fPerPair/\RS M (rCostStep M) w A_d5 n_d5 c_d5 x.fSteps:=by
 constructor
 ·rintro⟨_,_,rfl,⟨rfl,h_g1⟩,⟨_,_,rfl,⟨rfl,h_t3⟩,⟨_,_,rfl,⟨rfl,h_w3⟩,⟨_,_,rfl,⟨rfl,h_u3⟩,⟨_,_,rfl,⟨rfl,h_v3⟩,⟨A_d5,n_d5,c_d5,rfl,h_d5⟩⟩⟩⟩⟩⟩
  exact⟨A_d5,n_d5,c_d5,rfl,h_g1,h_t3,h_w3,h_u3,h_v3,h_d5⟩
 ·rintro⟨A_d5,n_d5,c_d5,rfl,h_g1,h_t3,h_w3,h_u3,h_v3,h_d5⟩
  exact⟨[.int .i64 x.fFixed],_,rfl,⟨rfl,h_g1⟩,⟨[.int .i64 x.fPerLeft],_,rfl,⟨rfl,h_t3⟩,⟨[.int .i64 x.fPerRight],_,rfl,⟨rfl,h_w3⟩,⟨[.int .i64 x.fPerOutput],_,rfl,⟨rfl,h_u3⟩,⟨[.int .i64 x.fPerPair],_,rfl,⟨rfl,h_v3⟩,⟨A_d5,n_d5,c_d5,rfl,h_d5⟩⟩⟩⟩⟩⟩
theorem rOperator_own {M:Nat}{w:World}{fp:List Nat}{cs:List Value}{x:OperatorD}:(rOperator M).own w fp cs x↔∃ A_d5 n_d5 c_d5 fSteps,cs=[.int .i64 x.fFixed,.int .i64 x.fPerLeft,.int .i64 x.fPerRight,.int .i64 x.fPerOutput,.int .i64 x.fPerPair,.slice A_d5 n_d5 c_d5]/\fp=fSteps/\I64 x.fFixed/\I64 x.fPerLeft/\I64 x.fPerRight/\I64 x.fPerOutput/\I64 x.fPerPair/\OS M 205 (rCostStep M) w fSteps A_d5 n_d5 c_d5 x.fSteps:=by
 constructor
 ·rintro⟨_,_,_,_,rfl,rfl,⟨rfl,rfl,h_g1⟩,⟨_,_,_,_,rfl,rfl,⟨rfl,rfl,h_t3⟩,⟨_,_,_,_,rfl,rfl,⟨rfl,rfl,h_w3⟩,⟨_,_,_,_,rfl,rfl,⟨rfl,rfl,h_u3⟩,⟨_,fSteps,_,_,rfl,rfl,⟨rfl,rfl,h_v3⟩,⟨A_d5,n_d5,c_d5,rfl,h_d5⟩⟩⟩⟩⟩⟩
  exact⟨A_d5,n_d5,c_d5,_,rfl,rfl,h_g1,h_t3,h_w3,h_u3,h_v3,h_d5⟩
 ·rintro⟨A_d5,n_d5,c_d5,fSteps,rfl,rfl,h_g1,h_t3,h_w3,h_u3,h_v3,h_d5⟩
  exact⟨[],_,[.int .i64 x.fFixed],_,rfl,rfl,⟨rfl,rfl,h_g1⟩,⟨[],_,[.int .i64 x.fPerLeft],_,rfl,rfl,⟨rfl,rfl,h_t3⟩,⟨[],_,[.int .i64 x.fPerRight],_,rfl,rfl,⟨rfl,rfl,h_w3⟩,⟨[],_,[.int .i64 x.fPerOutput],_,rfl,rfl,⟨rfl,rfl,h_u3⟩,⟨[],_,[.int .i64 x.fPerPair],_,rfl,rfl,⟨rfl,rfl,h_v3⟩,⟨A_d5,n_d5,c_d5,rfl,h_d5⟩⟩⟩⟩⟩⟩
structure ModelD where
 fScan:OperatorD
 fSort:OperatorD
 fHash:OperatorD
 fMerge:OperatorD
 fNested:OperatorD
 deriving DecidableEq
def rModel (M:Nat):Rp ModelD:=rIso (rPair (rOperator M) (rPair (rOperator M) (rPair (rOperator M) (rPair (rOperator M) ((rOperator M)))))) (fun x=>(x.fScan,x.fSort,x.fHash,x.fMerge,x.fNested))
theorem rModel_ok (M:Nat):(rModel M).Ok:=rIso_ok (rPair_ok (rOperator_ok M) (rPair_ok (rOperator_ok M) (rPair_ok (rOperator_ok M) (rPair_ok (rOperator_ok M) ((rOperator_ok M)))))) _
theorem rModel_rep {M:Nat}{w:World}{cs:List Value}{x:ModelD}:(rModel M).rep w cs x↔∃ A_s4 n_s4 c_s4 A_b5 n_b5 c_b5 A_p1 n_p1 c_p1 A_d2 n_d2 c_d2 A_p3 n_p3 c_p3,cs=[.int .i64 x.fScan.fFixed,.int .i64 x.fScan.fPerLeft,.int .i64 x.fScan.fPerRight,.int .i64 x.fScan.fPerOutput,.int .i64 x.fScan.fPerPair,.slice A_s4 n_s4 c_s4,.int .i64 x.fSort.fFixed,.int .i64 x.fSort.fPerLeft,.int .i64 x.fSort.fPerRight,.int .i64 x.fSort.fPerOutput,.int .i64 x.fSort.fPerPair,.slice A_b5 n_b5 c_b5,.int .i64 x.fHash.fFixed,.int .i64 x.fHash.fPerLeft,.int .i64 x.fHash.fPerRight,.int .i64 x.fHash.fPerOutput,.int .i64 x.fHash.fPerPair,.slice A_p1 n_p1 c_p1,.int .i64 x.fMerge.fFixed,.int .i64 x.fMerge.fPerLeft,.int .i64 x.fMerge.fPerRight,.int .i64 x.fMerge.fPerOutput,.int .i64 x.fMerge.fPerPair,.slice A_d2 n_d2 c_d2,.int .i64 x.fNested.fFixed,.int .i64 x.fNested.fPerLeft,.int .i64 x.fNested.fPerRight,.int .i64 x.fNested.fPerOutput,.int .i64 x.fNested.fPerPair,.slice A_p3 n_p3 c_p3]/\I64 x.fScan.fFixed/\I64 x.fScan.fPerLeft/\I64 x.fScan.fPerRight/\I64 x.fScan.fPerOutput/\I64 x.fScan.fPerPair/\RS M (rCostStep M) w A_s4 n_s4 c_s4 x.fScan.fSteps/\I64 x.fSort.fFixed/\I64 x.fSort.fPerLeft/\I64 x.fSort.fPerRight/\I64 x.fSort.fPerOutput/\I64 x.fSort.fPerPair/\RS M (rCostStep M) w A_b5 n_b5 c_b5 x.fSort.fSteps/\I64 x.fHash.fFixed/\I64 x.fHash.fPerLeft/\I64 x.fHash.fPerRight/\I64 x.fHash.fPerOutput/\I64 x.fHash.fPerPair/\RS M (rCostStep M) w A_p1 n_p1 c_p1 x.fHash.fSteps/\I64 x.fMerge.fFixed/\I64 x.fMerge.fPerLeft/\I64 x.fMerge.fPerRight/\I64 x.fMerge.fPerOutput/\I64 x.fMerge.fPerPair/\RS M (rCostStep M) w A_d2 n_d2 c_d2 x.fMerge.fSteps/\I64 x.fNested.fFixed/\I64 x.fNested.fPerLeft/\I64 x.fNested.fPerRight/\I64 x.fNested.fPerOutput/\I64 x.fNested.fPerPair/\RS M (rCostStep M) w A_p3 n_p3 c_p3 x.fNested.fSteps:=by
 constructor
 ·rintro⟨_,_,rfl,kScan,⟨_,_,rfl,kSort,⟨_,_,rfl,kHash,⟨_,_,rfl,kMerge,kNested⟩⟩⟩⟩
  obtain⟨A_s4,n_s4,c_s4,rfl,h_n4,h_o4,h_r4,h_p4,h_q4,h_s4⟩:=rOperator_rep.1 kScan;obtain⟨A_b5,n_b5,c_b5,rfl,h_w4,h_x4,h_a5,h_y4,h_z4,h_b5⟩:=rOperator_rep.1 kSort;obtain⟨A_p1,n_p1,c_p1,rfl,h_k1,h_l1,h_o1,h_m1,h_n1,h_p1⟩:=rOperator_rep.1 kHash;obtain⟨A_d2,n_d2,c_d2,rfl,h_y1,h_z1,h_c2,h_a2,h_b2,h_d2⟩:=rOperator_rep.1 kMerge;obtain⟨A_p3,n_p3,c_p3,rfl,h_k3,h_l3,h_o3,h_m3,h_n3,h_p3⟩:=rOperator_rep.1 kNested;exact⟨A_s4,n_s4,c_s4,A_b5,n_b5,c_b5,A_p1,n_p1,c_p1,A_d2,n_d2,c_d2,A_p3,n_p3,c_p3,rfl,h_n4,h_o4,h_r4,h_p4,h_q4,h_s4,h_w4,h_x4,h_a5,h_y4,h_z4,h_b5,h_k1,h_l1,h_o1,h_m1,h_n1,h_p1,h_y1,h_z1,h_c2,h_a2,h_b2,h_d2,h_k3,h_l3,h_o3,h_m3,h_n3,h_p3⟩
 ·rintro⟨A_s4,n_s4,c_s4,A_b5,n_b5,c_b5,A_p1,n_p1,c_p1,A_d2,n_d2,c_d2,A_p3,n_p3,c_p3,rfl,h_n4,h_o4,h_r4,h_p4,h_q4,h_s4,h_w4,h_x4,h_a5,h_y4,h_z4,h_b5,h_k1,h_l1,h_o1,h_m1,h_n1,h_p1,h_y1,h_z1,h_c2,h_a2,h_b2,h_d2,h_k3,h_l3,h_o3,h_m3,h_n3,h_p3⟩
  exact⟨[.int .i64 x.fScan.fFixed,.int .i64 x.fScan.fPerLeft,.int .i64 x.fScan.fPerRight,.int .i64 x.fScan.fPerOutput,.int .i64 x.fScan.fPerPair,.slice A_s4 n_s4 c_s4],_,rfl,rOperator_rep.2 ⟨A_s4,n_s4,c_s4,rfl,h_n4,h_o4,h_r4,h_p4,h_q4,h_s4⟩,⟨[.int .i64 x.fSort.fFixed,.int .i64 x.fSort.fPerLeft,.int .i64 x.fSort.fPerRight,.int .i64 x.fSort.fPerOutput,.int .i64 x.fSort.fPerPair,.slice A_b5 n_b5 c_b5],_,rfl,rOperator_rep.2 ⟨A_b5,n_b5,c_b5,rfl,h_w4,h_x4,h_a5,h_y4,h_z4,h_b5⟩,⟨[.int .i64 x.fHash.fFixed,.int .i64 x.fHash.fPerLeft,.int .i64 x.fHash.fPerRight,.int .i64 x.fHash.fPerOutput,.int .i64 x.fHash.fPerPair,.slice A_p1 n_p1 c_p1],_,rfl,rOperator_rep.2 ⟨A_p1,n_p1,c_p1,rfl,h_k1,h_l1,h_o1,h_m1,h_n1,h_p1⟩,⟨[.int .i64 x.fMerge.fFixed,.int .i64 x.fMerge.fPerLeft,.int .i64 x.fMerge.fPerRight,.int .i64 x.fMerge.fPerOutput,.int .i64 x.fMerge.fPerPair,.slice A_d2 n_d2 c_d2],_,rfl,rOperator_rep.2 ⟨A_d2,n_d2,c_d2,rfl,h_y1,h_z1,h_c2,h_a2,h_b2,h_d2⟩,rOperator_rep.2 ⟨A_p3,n_p3,c_p3,rfl,h_k3,h_l3,h_o3,h_m3,h_n3,h_p3⟩⟩⟩⟩⟩
structure PlanStepD where
 fKind:Int
 fAtom:Int
 fOrder:Int
 deriving DecidableEq
def rPlanStep (M:Nat):Rp PlanStepD:=rIso (rPair rInt (rPair rInt (rInt))) (fun x=>(x.fKind,x.fAtom,x.fOrder))
theorem rPlanStep_ok (M:Nat):(rPlanStep M).Ok:=rIso_ok (rPair_ok rInt_ok (rPair_ok rInt_ok (rInt_ok))) _
theorem rPlanStep_size (M:Nat):(rPlanStep M).size=3:=rfl
theorem rPlanStep_rep {M:Nat}{w:World}{cs:List Value}{x:PlanStepD}:(rPlanStep M).rep w cs x↔cs=[.int .i64 x.fKind,.int .i64 x.fAtom,.int .i64 x.fOrder]/\I64 x.fKind/\I64 x.fAtom/\I64 x.fOrder:=by
 constructor
 ·rintro⟨_,_,rfl,⟨rfl,hKind⟩,⟨_,_,rfl,⟨rfl,h_d⟩,⟨rfl,h_s3⟩⟩⟩
  exact⟨rfl,hKind,h_d,h_s3⟩
 ·rintro⟨rfl,hKind,h_d,h_s3⟩
  exact⟨[.int .i64 x.fKind],_,rfl,⟨rfl,hKind⟩,⟨[.int .i64 x.fAtom],_,rfl,⟨rfl,h_d⟩,⟨rfl,h_s3⟩⟩⟩
theorem rPlanStep_own {M:Nat}{w:World}{fp:List Nat}{cs:List Value}{x:PlanStepD}:(rPlanStep M).own w fp cs x↔cs=[.int .i64 x.fKind,.int .i64 x.fAtom,.int .i64 x.fOrder]/\fp=[]/\I64 x.fKind/\I64 x.fAtom/\I64 x.fOrder:=by
 constructor
 ·rintro⟨_,_,_,_,rfl,rfl,⟨rfl,rfl,hKind⟩,⟨_,_,_,_,rfl,rfl,⟨rfl,rfl,h_d⟩,⟨rfl,rfl,h_s3⟩⟩⟩
  exact⟨rfl,rfl,hKind,h_d,h_s3⟩
 ·rintro⟨rfl,rfl,hKind,h_d,h_s3⟩
  exact⟨[],_,[.int .i64 x.fKind],_,rfl,rfl,⟨rfl,rfl,hKind⟩,⟨[],_,[.int .i64 x.fAtom],_,rfl,rfl,⟨rfl,rfl,h_d⟩,⟨rfl,rfl,h_s3⟩⟩⟩
structure PlanD where
 fSteps:List PlanStepD
 deriving DecidableEq
def rPlan (M:Nat):Rp PlanD:=rIso ((rSlice M 173 (rPlanStep M))) (fun x=>x.fSteps)
theorem rPlan_ok (M:Nat):(rPlan M).Ok:=rIso_ok ((rSlice_ok M _ (rPlanStep_ok M))) _
theorem rPlan_size (M:Nat):(rPlan M).size=1:=rfl
def zPlan:PlanD:=⟨[]⟩
theorem rPlan_rep {M:Nat}{w:World}{cs:List Value}{x:PlanD}:(rPlan M).rep w cs x↔∃ A_d5 n_d5 c_d5,cs=[.slice A_d5 n_d5 c_d5]/\RS M (rPlanStep M) w A_d5 n_d5 c_d5 x.fSteps:=by
 constructor
 ·rintro⟨A_d5,n_d5,c_d5,rfl,h_d5⟩
  exact⟨A_d5,n_d5,c_d5,rfl,h_d5⟩
 ·rintro⟨A_d5,n_d5,c_d5,rfl,h_d5⟩
  exact⟨A_d5,n_d5,c_d5,rfl,h_d5⟩
theorem rPlan_own {M:Nat}{w:World}{fp:List Nat}{cs:List Value}{x:PlanD}:(rPlan M).own w fp cs x↔∃ A_d5 n_d5 c_d5 fSteps,cs=[.slice A_d5 n_d5 c_d5]/\fp=fSteps/\OS M 173 (rPlanStep M) w fSteps A_d5 n_d5 c_d5 x.fSteps:=by
 constructor
 ·rintro⟨A_d5,n_d5,c_d5,rfl,h_d5⟩
  exact⟨A_d5,n_d5,c_d5,_,rfl,rfl,h_d5⟩
 ·rintro⟨A_d5,n_d5,c_d5,fSteps,rfl,rfl,h_d5⟩
  exact⟨A_d5,n_d5,c_d5,rfl,h_d5⟩
theorem zPlan_own (W:World):(rPlan NB).own W [] (Value.cells (.agg #[.slice none 0 0])).toList zPlan:=by
 exact rPlan_own.2 ⟨none,0,0,[],rfl,rfl,⟨rfl,Nat.zero_le _,[],[],World.ownsRow_nil W 0 _ _,rfl,trivial⟩⟩
structure PlanEntryD where
 fMask:Int
 fOrder:Int
 fCost:Int
 fPlan:PlanD
 deriving DecidableEq
def rPlanEntry (M:Nat):Rp PlanEntryD:=rIso (rPair rInt (rPair rInt (rPair rInt ((rPlan M))))) (fun x=>(x.fMask,x.fOrder,x.fCost,x.fPlan))
theorem rPlanEntry_ok (M:Nat):(rPlanEntry M).Ok:=rIso_ok (rPair_ok rInt_ok (rPair_ok rInt_ok (rPair_ok rInt_ok ((rPlan_ok M))))) _
def zPlanEntry:PlanEntryD:=⟨0,0,0,⟨[]⟩⟩
theorem rPlanEntry_rep {M:Nat}{w:World}{cs:List Value}{x:PlanEntryD}:(rPlanEntry M).rep w cs x↔∃ A_z3 n_z3 c_z3,cs=[.int .i64 x.fMask,.int .i64 x.fOrder,.int .i64 x.fCost,.slice A_z3 n_z3 c_z3]/\I64 x.fMask/\I64 x.fOrder/\I64 x.fCost/\RS M (rPlanStep M) w A_z3 n_z3 c_z3 x.fPlan.fSteps:=by
 constructor
 ·rintro⟨_,_,rfl,⟨rfl,hMask⟩,⟨_,_,rfl,⟨rfl,h_s3⟩,⟨_,_,rfl,⟨rfl,h_x⟩,kPlan⟩⟩⟩
  obtain⟨A_z3,n_z3,c_z3,rfl,h_z3⟩:=rPlan_rep.1 kPlan;exact⟨A_z3,n_z3,c_z3,rfl,hMask,h_s3,h_x,h_z3⟩
 ·rintro⟨A_z3,n_z3,c_z3,rfl,hMask,h_s3,h_x,h_z3⟩
  exact⟨[.int .i64 x.fMask],_,rfl,⟨rfl,hMask⟩,⟨[.int .i64 x.fOrder],_,rfl,⟨rfl,h_s3⟩,⟨[.int .i64 x.fCost],_,rfl,⟨rfl,h_x⟩,rPlan_rep.2 ⟨A_z3,n_z3,c_z3,rfl,h_z3⟩⟩⟩⟩
theorem rPlanEntry_own {M:Nat}{w:World}{fp:List Nat}{cs:List Value}{x:PlanEntryD}:(rPlanEntry M).own w fp cs x↔∃ A_z3 n_z3 c_z3 fPlanSteps,cs=[.int .i64 x.fMask,.int .i64 x.fOrder,.int .i64 x.fCost,.slice A_z3 n_z3 c_z3]/\fp=(fPlanSteps)/\I64 x.fMask/\I64 x.fOrder/\I64 x.fCost/\OS M 173 (rPlanStep M) w fPlanSteps A_z3 n_z3 c_z3 x.fPlan.fSteps:=by
 constructor
 ·rintro⟨_,_,_,_,rfl,rfl,⟨rfl,rfl,hMask⟩,⟨_,_,_,_,rfl,rfl,⟨rfl,rfl,h_s3⟩,⟨_,_,_,_,rfl,rfl,⟨rfl,rfl,h_x⟩,kPlan⟩⟩⟩
  obtain⟨A_z3,n_z3,c_z3,fPlanSteps,rfl,rfl,h_z3⟩:=rPlan_own.1 kPlan;exact⟨A_z3,n_z3,c_z3,_,rfl,rfl,hMask,h_s3,h_x,h_z3⟩
 ·rintro⟨A_z3,n_z3,c_z3,fPlanSteps,rfl,rfl,hMask,h_s3,h_x,h_z3⟩
  exact⟨[],_,[.int .i64 x.fMask],_,rfl,rfl,⟨rfl,rfl,hMask⟩,⟨[],_,[.int .i64 x.fOrder],_,rfl,rfl,⟨rfl,rfl,h_s3⟩,⟨[],_,[.int .i64 x.fCost],_,rfl,rfl,⟨rfl,rfl,h_x⟩,rPlan_own.2 ⟨A_z3,n_z3,c_z3,_,rfl,rfl,h_z3⟩⟩⟩⟩
theorem zPlanEntry_own (W:World):(rPlanEntry NB).own W [] (Value.cells (.agg #[.int .i64 0,.int .i64 0,.int .i64 0,.slice none 0 0])).toList zPlanEntry:=by
 exact rPlanEntry_own.2 ⟨none,0,0,[],rfl,rfl,I64_zero,I64_zero,I64_zero,⟨rfl,Nat.zero_le _,[],[],World.ownsRow_nil W 0 _ _,rfl,trivial⟩⟩
structure SpaceD where
 fBox:BoxD
 fCosts:List Int
 fChoices:List Int
 fPlans:List PlanD
 deriving DecidableEq
def rSpace (M:Nat):Rp SpaceD:=rIso (rPair (rBox M) (rPair (rSlice M 3 rInt) (rPair (rSlice M 3 rInt) ((rSlice M 76 (rPlan M)))))) (fun x=>(x.fBox,x.fCosts,x.fChoices,x.fPlans))
theorem rSpace_ok (M:Nat):(rSpace M).Ok:=rIso_ok (rPair_ok (rBox_ok M) (rPair_ok (rSlice_ok M _ rInt_ok) (rPair_ok (rSlice_ok M _ rInt_ok) ((rSlice_ok M _ (rPlan_ok M)))))) _
def zSpace:SpaceD:=⟨⟨[],[]⟩,[],[],[]⟩
theorem rSpace_rep {M:Nat}{w:World}{cs:List Value}{x:SpaceD}:(rSpace M).rep w cs x↔∃ A_i n_i c_i A_h n_h c_h A_y n_y c_y A_q n_q c_q A_a4 n_a4 c_a4,cs=[.slice A_i n_i c_i,.slice A_h n_h c_h,.slice A_y n_y c_y,.slice A_q n_q c_q,.slice A_a4 n_a4 c_a4]/\RS M rInt w A_i n_i c_i x.fBox.fLow/\RS M rInt w A_h n_h c_h x.fBox.fHigh/\RS M rInt w A_y n_y c_y x.fCosts/\RS M rInt w A_q n_q c_q x.fChoices/\RS M (rPlan M) w A_a4 n_a4 c_a4 x.fPlans:=by
 constructor
 ·rintro⟨_,_,rfl,kBox,⟨_,_,rfl,⟨A_y,n_y,c_y,rfl,h_y⟩,⟨_,_,rfl,⟨A_q,n_q,c_q,rfl,h_q⟩,⟨A_a4,n_a4,c_a4,rfl,h_a4⟩⟩⟩⟩
  obtain⟨A_i,n_i,c_i,A_h,n_h,c_h,rfl,h_i,h_h⟩:=rBox_rep.1 kBox;exact⟨A_i,n_i,c_i,A_h,n_h,c_h,A_y,n_y,c_y,A_q,n_q,c_q,A_a4,n_a4,c_a4,rfl,h_i,h_h,h_y,h_q,h_a4⟩
 ·rintro⟨A_i,n_i,c_i,A_h,n_h,c_h,A_y,n_y,c_y,A_q,n_q,c_q,A_a4,n_a4,c_a4,rfl,h_i,h_h,h_y,h_q,h_a4⟩
  exact⟨[.slice A_i n_i c_i,.slice A_h n_h c_h],_,rfl,rBox_rep.2 ⟨A_i,n_i,c_i,A_h,n_h,c_h,rfl,h_i,h_h⟩,⟨[.slice A_y n_y c_y],_,rfl,⟨A_y,n_y,c_y,rfl,h_y⟩,⟨[.slice A_q n_q c_q],_,rfl,⟨A_q,n_q,c_q,rfl,h_q⟩,⟨A_a4,n_a4,c_a4,rfl,h_a4⟩⟩⟩⟩
theorem rSpace_own {M:Nat}{w:World}{fp:List Nat}{cs:List Value}{x:SpaceD}:(rSpace M).own w fp cs x↔∃ A_i n_i c_i A_h n_h c_h A_y n_y c_y A_q n_q c_q A_a4 n_a4 c_a4 fBoxLow fBoxHigh fCosts fChoices fPlans,cs=[.slice A_i n_i c_i,.slice A_h n_h c_h,.slice A_y n_y c_y,.slice A_q n_q c_q,.slice A_a4 n_a4 c_a4]/\fp=(fBoxLow++(fBoxHigh))++(fCosts++(fChoices++(fPlans)))/\OS M 3 rInt w fBoxLow A_i n_i c_i x.fBox.fLow/\OS M 3 rInt w fBoxHigh A_h n_h c_h x.fBox.fHigh/\OS M 3 rInt w fCosts A_y n_y c_y x.fCosts/\OS M 3 rInt w fChoices A_q n_q c_q x.fChoices/\OS M 76 (rPlan M) w fPlans A_a4 n_a4 c_a4 x.fPlans:=by
 constructor
 ·rintro⟨_,_,_,_,rfl,rfl,kBox,⟨fCosts,_,_,_,rfl,rfl,⟨A_y,n_y,c_y,rfl,h_y⟩,⟨fChoices,fPlans,_,_,rfl,rfl,⟨A_q,n_q,c_q,rfl,h_q⟩,⟨A_a4,n_a4,c_a4,rfl,h_a4⟩⟩⟩⟩
  obtain⟨A_i,n_i,c_i,A_h,n_h,c_h,fBoxLow,fBoxHigh,rfl,rfl,h_i,h_h⟩:=rBox_own.1 kBox;exact⟨A_i,n_i,c_i,A_h,n_h,c_h,A_y,n_y,c_y,A_q,n_q,c_q,A_a4,n_a4,c_a4,_,_,_,_,_,rfl,rfl,h_i,h_h,h_y,h_q,h_a4⟩
 ·rintro⟨A_i,n_i,c_i,A_h,n_h,c_h,A_y,n_y,c_y,A_q,n_q,c_q,A_a4,n_a4,c_a4,fBoxLow,fBoxHigh,fCosts,fChoices,fPlans,rfl,rfl,h_i,h_h,h_y,h_q,h_a4⟩
  exact⟨(fBoxLow++(fBoxHigh)),_,[.slice A_i n_i c_i,.slice A_h n_h c_h],_,rfl,rfl,rBox_own.2 ⟨A_i,n_i,c_i,A_h,n_h,c_h,fBoxLow,fBoxHigh,rfl,rfl,h_i,h_h⟩,⟨fCosts,_,[.slice A_y n_y c_y],_,rfl,rfl,⟨A_y,n_y,c_y,rfl,h_y⟩,⟨fChoices,_,[.slice A_q n_q c_q],_,rfl,rfl,⟨A_q,n_q,c_q,rfl,h_q⟩,⟨A_a4,n_a4,c_a4,rfl,h_a4⟩⟩⟩⟩
theorem zSpace_own (W:World):(rSpace NB).own W [] (Value.cells (.agg #[.slice none 0 0,.slice none 0 0,.slice none 0 0,.slice none 0 0,.slice none 0 0])).toList zSpace:=by
 exact rSpace_own.2 ⟨none,0,0,none,0,0,none,0,0,none,0,0,none,0,0,[],[],[],[],[],rfl,rfl,⟨rfl,Nat.zero_le _,[],[],World.ownsRow_nil W 0 _ _,rfl,trivial⟩,⟨rfl,Nat.zero_le _,[],[],World.ownsRow_nil W 0 _ _,rfl,trivial⟩,⟨rfl,Nat.zero_le _,[],[],World.ownsRow_nil W 0 _ _,rfl,trivial⟩,⟨rfl,Nat.zero_le _,[],[],World.ownsRow_nil W 0 _ _,rfl,trivial⟩,⟨rfl,Nat.zero_le _,[],[],World.ownsRow_nil W 0 _ _,rfl,trivial⟩⟩
end Go.Proofs.YtnlcfkpcmfljeaaGreat
