/-
  Types
-/
import Derived.Test.YtnlcfkpcmfljeaaGreatStore
set_option linter.unusedVariables false
namespace Go.Proofs.YtnlcfkpcmfljeaaGreat
open Go.RowKit
structure AtomD where
 fName:ByteArray
 fVars:List Int
 deriving DecidableEq
def rAtom (M:Nat):Rp AtomD:=rIso (rPair (rStr M) ((rSlice M 3 rInt))) (fun x=>(x.fName,x.fVars))
theorem rAtom_ok (M:Nat):(rAtom M).Ok:=rIso_ok (rPair_ok (rStr_ok M) ((rSlice_ok M _ rInt_ok))) _
theorem rAtom_size (M:Nat):(rAtom M).size=2:=rfl
def zAtom:AtomD:=⟨ByteArray.empty,[]⟩
theorem rAtom_rep {M:Nat}{w:World}{cs:List Value}{x:AtomD}:(rAtom M).rep w cs x↔∃ AVars nVars cVars,cs=[.string x.fName,.slice AVars nVars cVars]/\x.fName.size<=M/\RS M rInt w AVars nVars cVars x.fVars:=by
 constructor
 ·rintro⟨_,_,rfl,⟨rfl,hName⟩,⟨AVars,nVars,cVars,rfl,hVars⟩⟩
  exact⟨AVars,nVars,cVars,rfl,hName,hVars⟩
 ·rintro⟨AVars,nVars,cVars,rfl,hName,hVars⟩
  exact⟨[.string x.fName],_,rfl,⟨rfl,hName⟩,⟨AVars,nVars,cVars,rfl,hVars⟩⟩
theorem rAtom_own {M:Nat}{w:World}{fp:List Nat}{cs:List Value}{x:AtomD}:(rAtom M).own w fp cs x↔∃ AVars nVars cVars fVars,cs=[.string x.fName,.slice AVars nVars cVars]/\fp=fVars/\x.fName.size<=M/\OS M 3 rInt w fVars AVars nVars cVars x.fVars:=by
 constructor
 ·rintro⟨_,fVars,_,_,rfl,rfl,⟨rfl,rfl,hName⟩,⟨AVars,nVars,cVars,rfl,hVars⟩⟩
  exact⟨AVars,nVars,cVars,_,rfl,rfl,hName,hVars⟩
 ·rintro⟨AVars,nVars,cVars,fVars,rfl,rfl,hName,hVars⟩
  exact⟨[],_,[.string x.fName],_,rfl,rfl,⟨rfl,rfl,hName⟩,⟨AVars,nVars,cVars,rfl,hVars⟩⟩
theorem zAtom_own (W:World):(rAtom NB).own W [] (Value.cells (.agg #[.string ByteArray.empty,.slice none 0 0])).toList zAtom:=by
 exact rAtom_own.2 ⟨none,0,0,[],rfl,rfl,(Nat.zero_le _),⟨rfl,Nat.zero_le _,[],[],World.ownsRow_nil W 0 _ _,rfl,trivial⟩⟩
structure QueryD where
 fVariableCount:Int
 fAtoms:List AtomD
 deriving DecidableEq
def rQuery (M:Nat):Rp QueryD:=rIso (rPair rInt ((rSlice M 162 (rAtom M)))) (fun x=>(x.fVariableCount,x.fAtoms))
theorem rQuery_ok (M:Nat):(rQuery M).Ok:=rIso_ok (rPair_ok rInt_ok ((rSlice_ok M _ (rAtom_ok M)))) _
theorem rQuery_rep {M:Nat}{w:World}{cs:List Value}{x:QueryD}:(rQuery M).rep w cs x↔∃ AAtoms nAtoms cAtoms,cs=[.int .i64 x.fVariableCount,.slice AAtoms nAtoms cAtoms]/\I64 x.fVariableCount/\RS M (rAtom M) w AAtoms nAtoms cAtoms x.fAtoms:=by
 constructor
 ·rintro⟨_,_,rfl,⟨rfl,hVariableCount⟩,⟨AAtoms,nAtoms,cAtoms,rfl,hAtoms⟩⟩
  exact⟨AAtoms,nAtoms,cAtoms,rfl,hVariableCount,hAtoms⟩
 ·rintro⟨AAtoms,nAtoms,cAtoms,rfl,hVariableCount,hAtoms⟩
  exact⟨[.int .i64 x.fVariableCount],_,rfl,⟨rfl,hVariableCount⟩,⟨AAtoms,nAtoms,cAtoms,rfl,hAtoms⟩⟩
theorem rQuery_own {M:Nat}{w:World}{fp:List Nat}{cs:List Value}{x:QueryD}:(rQuery M).own w fp cs x↔∃ AAtoms nAtoms cAtoms fAtoms,cs=[.int .i64 x.fVariableCount,.slice AAtoms nAtoms cAtoms]/\fp=fAtoms/\I64 x.fVariableCount/\OS M 162 (rAtom M) w fAtoms AAtoms nAtoms cAtoms x.fAtoms:=by
 constructor
 ·rintro⟨_,fAtoms,_,_,rfl,rfl,⟨rfl,rfl,hVariableCount⟩,⟨AAtoms,nAtoms,cAtoms,rfl,hAtoms⟩⟩
  exact⟨AAtoms,nAtoms,cAtoms,_,rfl,rfl,hVariableCount,hAtoms⟩
 ·rintro⟨AAtoms,nAtoms,cAtoms,fAtoms,rfl,rfl,hVariableCount,hAtoms⟩
  exact⟨[],_,[.int .i64 x.fVariableCount],_,rfl,rfl,⟨rfl,rfl,hVariableCount⟩,⟨AAtoms,nAtoms,cAtoms,rfl,hAtoms⟩⟩
structure BoxD where
 fLow:List Int
 fHigh:List Int
 deriving DecidableEq
def rBox (M:Nat):Rp BoxD:=rIso (rPair (rSlice M 3 rInt) ((rSlice M 3 rInt))) (fun x=>(x.fLow,x.fHigh))
theorem rBox_ok (M:Nat):(rBox M).Ok:=rIso_ok (rPair_ok (rSlice_ok M _ rInt_ok) ((rSlice_ok M _ rInt_ok))) _
theorem rBox_rep {M:Nat}{w:World}{cs:List Value}{x:BoxD}:(rBox M).rep w cs x↔∃ ALow nLow cLow AHigh nHigh cHigh,cs=[.slice ALow nLow cLow,.slice AHigh nHigh cHigh]/\RS M rInt w ALow nLow cLow x.fLow/\RS M rInt w AHigh nHigh cHigh x.fHigh:=by
 constructor
 ·rintro⟨_,_,rfl,⟨ALow,nLow,cLow,rfl,hLow⟩,⟨AHigh,nHigh,cHigh,rfl,hHigh⟩⟩
  exact⟨ALow,nLow,cLow,AHigh,nHigh,cHigh,rfl,hLow,hHigh⟩
 ·rintro⟨ALow,nLow,cLow,AHigh,nHigh,cHigh,rfl,hLow,hHigh⟩
  exact⟨[.slice ALow nLow cLow],_,rfl,⟨ALow,nLow,cLow,rfl,hLow⟩,⟨AHigh,nHigh,cHigh,rfl,hHigh⟩⟩
theorem rBox_own {M:Nat}{w:World}{fp:List Nat}{cs:List Value}{x:BoxD}:(rBox M).own w fp cs x↔∃ ALow nLow cLow AHigh nHigh cHigh fLow fHigh,cs=[.slice ALow nLow cLow,.slice AHigh nHigh cHigh]/\fp=fLow++(fHigh)/\OS M 3 rInt w fLow ALow nLow cLow x.fLow/\OS M 3 rInt w fHigh AHigh nHigh cHigh x.fHigh:=by
 constructor
 ·rintro⟨fLow,fHigh,_,_,rfl,rfl,⟨ALow,nLow,cLow,rfl,hLow⟩,⟨AHigh,nHigh,cHigh,rfl,hHigh⟩⟩
  exact⟨ALow,nLow,cLow,AHigh,nHigh,cHigh,_,_,rfl,rfl,hLow,hHigh⟩
 ·rintro⟨ALow,nLow,cLow,AHigh,nHigh,cHigh,fLow,fHigh,rfl,rfl,hLow,hHigh⟩
  exact⟨fLow,_,[.slice ALow nLow cLow],_,rfl,rfl,⟨ALow,nLow,cLow,rfl,hLow⟩,⟨AHigh,nHigh,cHigh,rfl,hHigh⟩⟩
structure CostStepD where
 fFrom:Int
 fAdd:Int
 deriving DecidableEq
def rCostStep (M:Nat):Rp CostStepD:=rIso (rPair rInt (rInt)) (fun x=>(x.fFrom,x.fAdd))
theorem rCostStep_ok (M:Nat):(rCostStep M).Ok:=rIso_ok (rPair_ok rInt_ok (rInt_ok)) _
theorem rCostStep_size (M:Nat):(rCostStep M).size=2:=rfl
def zCostStep:CostStepD:=⟨0,0⟩
theorem rCostStep_rep {M:Nat}{w:World}{cs:List Value}{x:CostStepD}:(rCostStep M).rep w cs x↔cs=[.int .i64 x.fFrom,.int .i64 x.fAdd]/\I64 x.fFrom/\I64 x.fAdd:=by
 constructor
 ·rintro⟨_,_,rfl,⟨rfl,hFrom⟩,⟨rfl,hAdd⟩⟩
  exact⟨rfl,hFrom,hAdd⟩
 ·rintro⟨rfl,hFrom,hAdd⟩
  exact⟨[.int .i64 x.fFrom],_,rfl,⟨rfl,hFrom⟩,⟨rfl,hAdd⟩⟩
theorem rCostStep_own {M:Nat}{w:World}{fp:List Nat}{cs:List Value}{x:CostStepD}:(rCostStep M).own w fp cs x↔cs=[.int .i64 x.fFrom,.int .i64 x.fAdd]/\fp=[]/\I64 x.fFrom/\I64 x.fAdd:=by
 constructor
 ·rintro⟨_,_,_,_,rfl,rfl,⟨rfl,rfl,hFrom⟩,⟨rfl,rfl,hAdd⟩⟩
  exact⟨rfl,rfl,hFrom,hAdd⟩
 ·rintro⟨rfl,rfl,hFrom,hAdd⟩
  exact⟨[],_,[.int .i64 x.fFrom],_,rfl,rfl,⟨rfl,rfl,hFrom⟩,⟨rfl,rfl,hAdd⟩⟩
theorem zCostStep_own (W:World):(rCostStep NB).own W [] (Value.cells (.agg #[.int .i64 0,.int .i64 0])).toList zCostStep:=by
 exact rCostStep_own.2 ⟨rfl,rfl,I64_zero,I64_zero⟩
structure OperatorD where
 fFixed:Int
 fPerLeft:Int
 fPerRight:Int
 fPerOutput:Int
 fPerPair:Int
 fSteps:List CostStepD
 deriving DecidableEq
def rOperator (M:Nat):Rp OperatorD:=rIso (rPair rInt (rPair rInt (rPair rInt (rPair rInt (rPair rInt ((rSlice M 205 (rCostStep M)))))))) (fun x=>(x.fFixed,x.fPerLeft,x.fPerRight,x.fPerOutput,x.fPerPair,x.fSteps))
theorem rOperator_ok (M:Nat):(rOperator M).Ok:=rIso_ok (rPair_ok rInt_ok (rPair_ok rInt_ok (rPair_ok rInt_ok (rPair_ok rInt_ok (rPair_ok rInt_ok ((rSlice_ok M _ (rCostStep_ok M)))))))) _
theorem rOperator_rep {M:Nat}{w:World}{cs:List Value}{x:OperatorD}:(rOperator M).rep w cs x↔∃ ASteps nSteps cSteps,cs=[.int .i64 x.fFixed,.int .i64 x.fPerLeft,.int .i64 x.fPerRight,.int .i64 x.fPerOutput,.int .i64 x.fPerPair,.slice ASteps nSteps cSteps]/\I64 x.fFixed/\I64 x.fPerLeft/\I64 x.fPerRight/\I64 x.fPerOutput/\I64 x.fPerPair/\RS M (rCostStep M) w ASteps nSteps cSteps x.fSteps:=by
 constructor
 ·rintro⟨_,_,rfl,⟨rfl,hFixed⟩,⟨_,_,rfl,⟨rfl,hPerLeft⟩,⟨_,_,rfl,⟨rfl,hPerRight⟩,⟨_,_,rfl,⟨rfl,hPerOutput⟩,⟨_,_,rfl,⟨rfl,hPerPair⟩,⟨ASteps,nSteps,cSteps,rfl,hSteps⟩⟩⟩⟩⟩⟩
  exact⟨ASteps,nSteps,cSteps,rfl,hFixed,hPerLeft,hPerRight,hPerOutput,hPerPair,hSteps⟩
 ·rintro⟨ASteps,nSteps,cSteps,rfl,hFixed,hPerLeft,hPerRight,hPerOutput,hPerPair,hSteps⟩
  exact⟨[.int .i64 x.fFixed],_,rfl,⟨rfl,hFixed⟩,⟨[.int .i64 x.fPerLeft],_,rfl,⟨rfl,hPerLeft⟩,⟨[.int .i64 x.fPerRight],_,rfl,⟨rfl,hPerRight⟩,⟨[.int .i64 x.fPerOutput],_,rfl,⟨rfl,hPerOutput⟩,⟨[.int .i64 x.fPerPair],_,rfl,⟨rfl,hPerPair⟩,⟨ASteps,nSteps,cSteps,rfl,hSteps⟩⟩⟩⟩⟩⟩
theorem rOperator_own {M:Nat}{w:World}{fp:List Nat}{cs:List Value}{x:OperatorD}:(rOperator M).own w fp cs x↔∃ ASteps nSteps cSteps fSteps,cs=[.int .i64 x.fFixed,.int .i64 x.fPerLeft,.int .i64 x.fPerRight,.int .i64 x.fPerOutput,.int .i64 x.fPerPair,.slice ASteps nSteps cSteps]/\fp=fSteps/\I64 x.fFixed/\I64 x.fPerLeft/\I64 x.fPerRight/\I64 x.fPerOutput/\I64 x.fPerPair/\OS M 205 (rCostStep M) w fSteps ASteps nSteps cSteps x.fSteps:=by
 constructor
 ·rintro⟨_,_,_,_,rfl,rfl,⟨rfl,rfl,hFixed⟩,⟨_,_,_,_,rfl,rfl,⟨rfl,rfl,hPerLeft⟩,⟨_,_,_,_,rfl,rfl,⟨rfl,rfl,hPerRight⟩,⟨_,_,_,_,rfl,rfl,⟨rfl,rfl,hPerOutput⟩,⟨_,fSteps,_,_,rfl,rfl,⟨rfl,rfl,hPerPair⟩,⟨ASteps,nSteps,cSteps,rfl,hSteps⟩⟩⟩⟩⟩⟩
  exact⟨ASteps,nSteps,cSteps,_,rfl,rfl,hFixed,hPerLeft,hPerRight,hPerOutput,hPerPair,hSteps⟩
 ·rintro⟨ASteps,nSteps,cSteps,fSteps,rfl,rfl,hFixed,hPerLeft,hPerRight,hPerOutput,hPerPair,hSteps⟩
  exact⟨[],_,[.int .i64 x.fFixed],_,rfl,rfl,⟨rfl,rfl,hFixed⟩,⟨[],_,[.int .i64 x.fPerLeft],_,rfl,rfl,⟨rfl,rfl,hPerLeft⟩,⟨[],_,[.int .i64 x.fPerRight],_,rfl,rfl,⟨rfl,rfl,hPerRight⟩,⟨[],_,[.int .i64 x.fPerOutput],_,rfl,rfl,⟨rfl,rfl,hPerOutput⟩,⟨[],_,[.int .i64 x.fPerPair],_,rfl,rfl,⟨rfl,rfl,hPerPair⟩,⟨ASteps,nSteps,cSteps,rfl,hSteps⟩⟩⟩⟩⟩⟩
structure ModelD where
 fScan:OperatorD
 fSort:OperatorD
 fHash:OperatorD
 fMerge:OperatorD
 fNested:OperatorD
 deriving DecidableEq
def rModel (M:Nat):Rp ModelD:=rIso (rPair (rOperator M) (rPair (rOperator M) (rPair (rOperator M) (rPair (rOperator M) ((rOperator M)))))) (fun x=>(x.fScan,x.fSort,x.fHash,x.fMerge,x.fNested))
theorem rModel_ok (M:Nat):(rModel M).Ok:=rIso_ok (rPair_ok (rOperator_ok M) (rPair_ok (rOperator_ok M) (rPair_ok (rOperator_ok M) (rPair_ok (rOperator_ok M) ((rOperator_ok M)))))) _
theorem rModel_rep {M:Nat}{w:World}{cs:List Value}{x:ModelD}:(rModel M).rep w cs x↔∃ AScanSteps nScanSteps cScanSteps ASortSteps nSortSteps cSortSteps AHashSteps nHashSteps cHashSteps AMergeSteps nMergeSteps cMergeSteps ANestedSteps nNestedSteps cNestedSteps,cs=[.int .i64 x.fScan.fFixed,.int .i64 x.fScan.fPerLeft,.int .i64 x.fScan.fPerRight,.int .i64 x.fScan.fPerOutput,.int .i64 x.fScan.fPerPair,.slice AScanSteps nScanSteps cScanSteps,.int .i64 x.fSort.fFixed,.int .i64 x.fSort.fPerLeft,.int .i64 x.fSort.fPerRight,.int .i64 x.fSort.fPerOutput,.int .i64 x.fSort.fPerPair,.slice ASortSteps nSortSteps cSortSteps,.int .i64 x.fHash.fFixed,.int .i64 x.fHash.fPerLeft,.int .i64 x.fHash.fPerRight,.int .i64 x.fHash.fPerOutput,.int .i64 x.fHash.fPerPair,.slice AHashSteps nHashSteps cHashSteps,.int .i64 x.fMerge.fFixed,.int .i64 x.fMerge.fPerLeft,.int .i64 x.fMerge.fPerRight,.int .i64 x.fMerge.fPerOutput,.int .i64 x.fMerge.fPerPair,.slice AMergeSteps nMergeSteps cMergeSteps,.int .i64 x.fNested.fFixed,.int .i64 x.fNested.fPerLeft,.int .i64 x.fNested.fPerRight,.int .i64 x.fNested.fPerOutput,.int .i64 x.fNested.fPerPair,.slice ANestedSteps nNestedSteps cNestedSteps]/\I64 x.fScan.fFixed/\I64 x.fScan.fPerLeft/\I64 x.fScan.fPerRight/\I64 x.fScan.fPerOutput/\I64 x.fScan.fPerPair/\RS M (rCostStep M) w AScanSteps nScanSteps cScanSteps x.fScan.fSteps/\I64 x.fSort.fFixed/\I64 x.fSort.fPerLeft/\I64 x.fSort.fPerRight/\I64 x.fSort.fPerOutput/\I64 x.fSort.fPerPair/\RS M (rCostStep M) w ASortSteps nSortSteps cSortSteps x.fSort.fSteps/\I64 x.fHash.fFixed/\I64 x.fHash.fPerLeft/\I64 x.fHash.fPerRight/\I64 x.fHash.fPerOutput/\I64 x.fHash.fPerPair/\RS M (rCostStep M) w AHashSteps nHashSteps cHashSteps x.fHash.fSteps/\I64 x.fMerge.fFixed/\I64 x.fMerge.fPerLeft/\I64 x.fMerge.fPerRight/\I64 x.fMerge.fPerOutput/\I64 x.fMerge.fPerPair/\RS M (rCostStep M) w AMergeSteps nMergeSteps cMergeSteps x.fMerge.fSteps/\I64 x.fNested.fFixed/\I64 x.fNested.fPerLeft/\I64 x.fNested.fPerRight/\I64 x.fNested.fPerOutput/\I64 x.fNested.fPerPair/\RS M (rCostStep M) w ANestedSteps nNestedSteps cNestedSteps x.fNested.fSteps:=by
 constructor
 ·rintro⟨_,_,rfl,kScan,⟨_,_,rfl,kSort,⟨_,_,rfl,kHash,⟨_,_,rfl,kMerge,kNested⟩⟩⟩⟩
  obtain⟨AScanSteps,nScanSteps,cScanSteps,rfl,hScanFixed,hScanPerLeft,hScanPerRight,hScanPerOutput,hScanPerPair,hScanSteps⟩:=rOperator_rep.1 kScan
  obtain⟨ASortSteps,nSortSteps,cSortSteps,rfl,hSortFixed,hSortPerLeft,hSortPerRight,hSortPerOutput,hSortPerPair,hSortSteps⟩:=rOperator_rep.1 kSort
  obtain⟨AHashSteps,nHashSteps,cHashSteps,rfl,hHashFixed,hHashPerLeft,hHashPerRight,hHashPerOutput,hHashPerPair,hHashSteps⟩:=rOperator_rep.1 kHash
  obtain⟨AMergeSteps,nMergeSteps,cMergeSteps,rfl,hMergeFixed,hMergePerLeft,hMergePerRight,hMergePerOutput,hMergePerPair,hMergeSteps⟩:=rOperator_rep.1 kMerge
  obtain⟨ANestedSteps,nNestedSteps,cNestedSteps,rfl,hNestedFixed,hNestedPerLeft,hNestedPerRight,hNestedPerOutput,hNestedPerPair,hNestedSteps⟩:=rOperator_rep.1 kNested
  exact⟨AScanSteps,nScanSteps,cScanSteps,ASortSteps,nSortSteps,cSortSteps,AHashSteps,nHashSteps,cHashSteps,AMergeSteps,nMergeSteps,cMergeSteps,ANestedSteps,nNestedSteps,cNestedSteps,rfl,hScanFixed,hScanPerLeft,hScanPerRight,hScanPerOutput,hScanPerPair,hScanSteps,hSortFixed,hSortPerLeft,hSortPerRight,hSortPerOutput,hSortPerPair,hSortSteps,hHashFixed,hHashPerLeft,hHashPerRight,hHashPerOutput,hHashPerPair,hHashSteps,hMergeFixed,hMergePerLeft,hMergePerRight,hMergePerOutput,hMergePerPair,hMergeSteps,hNestedFixed,hNestedPerLeft,hNestedPerRight,hNestedPerOutput,hNestedPerPair,hNestedSteps⟩
 ·rintro⟨AScanSteps,nScanSteps,cScanSteps,ASortSteps,nSortSteps,cSortSteps,AHashSteps,nHashSteps,cHashSteps,AMergeSteps,nMergeSteps,cMergeSteps,ANestedSteps,nNestedSteps,cNestedSteps,rfl,hScanFixed,hScanPerLeft,hScanPerRight,hScanPerOutput,hScanPerPair,hScanSteps,hSortFixed,hSortPerLeft,hSortPerRight,hSortPerOutput,hSortPerPair,hSortSteps,hHashFixed,hHashPerLeft,hHashPerRight,hHashPerOutput,hHashPerPair,hHashSteps,hMergeFixed,hMergePerLeft,hMergePerRight,hMergePerOutput,hMergePerPair,hMergeSteps,hNestedFixed,hNestedPerLeft,hNestedPerRight,hNestedPerOutput,hNestedPerPair,hNestedSteps⟩
  exact⟨[.int .i64 x.fScan.fFixed,.int .i64 x.fScan.fPerLeft,.int .i64 x.fScan.fPerRight,.int .i64 x.fScan.fPerOutput,.int .i64 x.fScan.fPerPair,.slice AScanSteps nScanSteps cScanSteps],_,rfl,rOperator_rep.2 ⟨AScanSteps,nScanSteps,cScanSteps,rfl,hScanFixed,hScanPerLeft,hScanPerRight,hScanPerOutput,hScanPerPair,hScanSteps⟩,⟨[.int .i64 x.fSort.fFixed,.int .i64 x.fSort.fPerLeft,.int .i64 x.fSort.fPerRight,.int .i64 x.fSort.fPerOutput,.int .i64 x.fSort.fPerPair,.slice ASortSteps nSortSteps cSortSteps],_,rfl,rOperator_rep.2 ⟨ASortSteps,nSortSteps,cSortSteps,rfl,hSortFixed,hSortPerLeft,hSortPerRight,hSortPerOutput,hSortPerPair,hSortSteps⟩,⟨[.int .i64 x.fHash.fFixed,.int .i64 x.fHash.fPerLeft,.int .i64 x.fHash.fPerRight,.int .i64 x.fHash.fPerOutput,.int .i64 x.fHash.fPerPair,.slice AHashSteps nHashSteps cHashSteps],_,rfl,rOperator_rep.2 ⟨AHashSteps,nHashSteps,cHashSteps,rfl,hHashFixed,hHashPerLeft,hHashPerRight,hHashPerOutput,hHashPerPair,hHashSteps⟩,⟨[.int .i64 x.fMerge.fFixed,.int .i64 x.fMerge.fPerLeft,.int .i64 x.fMerge.fPerRight,.int .i64 x.fMerge.fPerOutput,.int .i64 x.fMerge.fPerPair,.slice AMergeSteps nMergeSteps cMergeSteps],_,rfl,rOperator_rep.2 ⟨AMergeSteps,nMergeSteps,cMergeSteps,rfl,hMergeFixed,hMergePerLeft,hMergePerRight,hMergePerOutput,hMergePerPair,hMergeSteps⟩,rOperator_rep.2 ⟨ANestedSteps,nNestedSteps,cNestedSteps,rfl,hNestedFixed,hNestedPerLeft,hNestedPerRight,hNestedPerOutput,hNestedPerPair,hNestedSteps⟩⟩⟩⟩⟩
theorem rModel_own {M:Nat}{w:World}{fp:List Nat}{cs:List Value}{x:ModelD}:(rModel M).own w fp cs x↔∃ AScanSteps nScanSteps cScanSteps ASortSteps nSortSteps cSortSteps AHashSteps nHashSteps cHashSteps AMergeSteps nMergeSteps cMergeSteps ANestedSteps nNestedSteps cNestedSteps fScanSteps fSortSteps fHashSteps fMergeSteps fNestedSteps,cs=[.int .i64 x.fScan.fFixed,.int .i64 x.fScan.fPerLeft,.int .i64 x.fScan.fPerRight,.int .i64 x.fScan.fPerOutput,.int .i64 x.fScan.fPerPair,.slice AScanSteps nScanSteps cScanSteps,.int .i64 x.fSort.fFixed,.int .i64 x.fSort.fPerLeft,.int .i64 x.fSort.fPerRight,.int .i64 x.fSort.fPerOutput,.int .i64 x.fSort.fPerPair,.slice ASortSteps nSortSteps cSortSteps,.int .i64 x.fHash.fFixed,.int .i64 x.fHash.fPerLeft,.int .i64 x.fHash.fPerRight,.int .i64 x.fHash.fPerOutput,.int .i64 x.fHash.fPerPair,.slice AHashSteps nHashSteps cHashSteps,.int .i64 x.fMerge.fFixed,.int .i64 x.fMerge.fPerLeft,.int .i64 x.fMerge.fPerRight,.int .i64 x.fMerge.fPerOutput,.int .i64 x.fMerge.fPerPair,.slice AMergeSteps nMergeSteps cMergeSteps,.int .i64 x.fNested.fFixed,.int .i64 x.fNested.fPerLeft,.int .i64 x.fNested.fPerRight,.int .i64 x.fNested.fPerOutput,.int .i64 x.fNested.fPerPair,.slice ANestedSteps nNestedSteps cNestedSteps]/\fp=(fScanSteps)++((fSortSteps)++((fHashSteps)++((fMergeSteps)++((fNestedSteps)))))/\I64 x.fScan.fFixed/\I64 x.fScan.fPerLeft/\I64 x.fScan.fPerRight/\I64 x.fScan.fPerOutput/\I64 x.fScan.fPerPair/\OS M 205 (rCostStep M) w fScanSteps AScanSteps nScanSteps cScanSteps x.fScan.fSteps/\I64 x.fSort.fFixed/\I64 x.fSort.fPerLeft/\I64 x.fSort.fPerRight/\I64 x.fSort.fPerOutput/\I64 x.fSort.fPerPair/\OS M 205 (rCostStep M) w fSortSteps ASortSteps nSortSteps cSortSteps x.fSort.fSteps/\I64 x.fHash.fFixed/\I64 x.fHash.fPerLeft/\I64 x.fHash.fPerRight/\I64 x.fHash.fPerOutput/\I64 x.fHash.fPerPair/\OS M 205 (rCostStep M) w fHashSteps AHashSteps nHashSteps cHashSteps x.fHash.fSteps/\I64 x.fMerge.fFixed/\I64 x.fMerge.fPerLeft/\I64 x.fMerge.fPerRight/\I64 x.fMerge.fPerOutput/\I64 x.fMerge.fPerPair/\OS M 205 (rCostStep M) w fMergeSteps AMergeSteps nMergeSteps cMergeSteps x.fMerge.fSteps/\I64 x.fNested.fFixed/\I64 x.fNested.fPerLeft/\I64 x.fNested.fPerRight/\I64 x.fNested.fPerOutput/\I64 x.fNested.fPerPair/\OS M 205 (rCostStep M) w fNestedSteps ANestedSteps nNestedSteps cNestedSteps x.fNested.fSteps:=by
 constructor
 ·rintro⟨_,_,_,_,rfl,rfl,kScan,⟨_,_,_,_,rfl,rfl,kSort,⟨_,_,_,_,rfl,rfl,kHash,⟨_,_,_,_,rfl,rfl,kMerge,kNested⟩⟩⟩⟩
  obtain⟨AScanSteps,nScanSteps,cScanSteps,fScanSteps,rfl,rfl,hScanFixed,hScanPerLeft,hScanPerRight,hScanPerOutput,hScanPerPair,hScanSteps⟩:=rOperator_own.1 kScan
  obtain⟨ASortSteps,nSortSteps,cSortSteps,fSortSteps,rfl,rfl,hSortFixed,hSortPerLeft,hSortPerRight,hSortPerOutput,hSortPerPair,hSortSteps⟩:=rOperator_own.1 kSort
  obtain⟨AHashSteps,nHashSteps,cHashSteps,fHashSteps,rfl,rfl,hHashFixed,hHashPerLeft,hHashPerRight,hHashPerOutput,hHashPerPair,hHashSteps⟩:=rOperator_own.1 kHash
  obtain⟨AMergeSteps,nMergeSteps,cMergeSteps,fMergeSteps,rfl,rfl,hMergeFixed,hMergePerLeft,hMergePerRight,hMergePerOutput,hMergePerPair,hMergeSteps⟩:=rOperator_own.1 kMerge
  obtain⟨ANestedSteps,nNestedSteps,cNestedSteps,fNestedSteps,rfl,rfl,hNestedFixed,hNestedPerLeft,hNestedPerRight,hNestedPerOutput,hNestedPerPair,hNestedSteps⟩:=rOperator_own.1 kNested
  exact⟨AScanSteps,nScanSteps,cScanSteps,ASortSteps,nSortSteps,cSortSteps,AHashSteps,nHashSteps,cHashSteps,AMergeSteps,nMergeSteps,cMergeSteps,ANestedSteps,nNestedSteps,cNestedSteps,_,_,_,_,_,rfl,rfl,hScanFixed,hScanPerLeft,hScanPerRight,hScanPerOutput,hScanPerPair,hScanSteps,hSortFixed,hSortPerLeft,hSortPerRight,hSortPerOutput,hSortPerPair,hSortSteps,hHashFixed,hHashPerLeft,hHashPerRight,hHashPerOutput,hHashPerPair,hHashSteps,hMergeFixed,hMergePerLeft,hMergePerRight,hMergePerOutput,hMergePerPair,hMergeSteps,hNestedFixed,hNestedPerLeft,hNestedPerRight,hNestedPerOutput,hNestedPerPair,hNestedSteps⟩
 ·rintro⟨AScanSteps,nScanSteps,cScanSteps,ASortSteps,nSortSteps,cSortSteps,AHashSteps,nHashSteps,cHashSteps,AMergeSteps,nMergeSteps,cMergeSteps,ANestedSteps,nNestedSteps,cNestedSteps,fScanSteps,fSortSteps,fHashSteps,fMergeSteps,fNestedSteps,rfl,rfl,hScanFixed,hScanPerLeft,hScanPerRight,hScanPerOutput,hScanPerPair,hScanSteps,hSortFixed,hSortPerLeft,hSortPerRight,hSortPerOutput,hSortPerPair,hSortSteps,hHashFixed,hHashPerLeft,hHashPerRight,hHashPerOutput,hHashPerPair,hHashSteps,hMergeFixed,hMergePerLeft,hMergePerRight,hMergePerOutput,hMergePerPair,hMergeSteps,hNestedFixed,hNestedPerLeft,hNestedPerRight,hNestedPerOutput,hNestedPerPair,hNestedSteps⟩
  exact⟨(fScanSteps),_,[.int .i64 x.fScan.fFixed,.int .i64 x.fScan.fPerLeft,.int .i64 x.fScan.fPerRight,.int .i64 x.fScan.fPerOutput,.int .i64 x.fScan.fPerPair,.slice AScanSteps nScanSteps cScanSteps],_,rfl,rfl,rOperator_own.2 ⟨AScanSteps,nScanSteps,cScanSteps,fScanSteps,rfl,rfl,hScanFixed,hScanPerLeft,hScanPerRight,hScanPerOutput,hScanPerPair,hScanSteps⟩,⟨(fSortSteps),_,[.int .i64 x.fSort.fFixed,.int .i64 x.fSort.fPerLeft,.int .i64 x.fSort.fPerRight,.int .i64 x.fSort.fPerOutput,.int .i64 x.fSort.fPerPair,.slice ASortSteps nSortSteps cSortSteps],_,rfl,rfl,rOperator_own.2 ⟨ASortSteps,nSortSteps,cSortSteps,fSortSteps,rfl,rfl,hSortFixed,hSortPerLeft,hSortPerRight,hSortPerOutput,hSortPerPair,hSortSteps⟩,⟨(fHashSteps),_,[.int .i64 x.fHash.fFixed,.int .i64 x.fHash.fPerLeft,.int .i64 x.fHash.fPerRight,.int .i64 x.fHash.fPerOutput,.int .i64 x.fHash.fPerPair,.slice AHashSteps nHashSteps cHashSteps],_,rfl,rfl,rOperator_own.2 ⟨AHashSteps,nHashSteps,cHashSteps,fHashSteps,rfl,rfl,hHashFixed,hHashPerLeft,hHashPerRight,hHashPerOutput,hHashPerPair,hHashSteps⟩,⟨(fMergeSteps),_,[.int .i64 x.fMerge.fFixed,.int .i64 x.fMerge.fPerLeft,.int .i64 x.fMerge.fPerRight,.int .i64 x.fMerge.fPerOutput,.int .i64 x.fMerge.fPerPair,.slice AMergeSteps nMergeSteps cMergeSteps],_,rfl,rfl,rOperator_own.2 ⟨AMergeSteps,nMergeSteps,cMergeSteps,fMergeSteps,rfl,rfl,hMergeFixed,hMergePerLeft,hMergePerRight,hMergePerOutput,hMergePerPair,hMergeSteps⟩,rOperator_own.2 ⟨ANestedSteps,nNestedSteps,cNestedSteps,fNestedSteps,rfl,rfl,hNestedFixed,hNestedPerLeft,hNestedPerRight,hNestedPerOutput,hNestedPerPair,hNestedSteps⟩⟩⟩⟩⟩
structure PlanStepD where
 fKind:Int
 fAtom:Int
 fOrder:Int
 deriving DecidableEq
def rPlanStep (M:Nat):Rp PlanStepD:=rIso (rPair rInt (rPair rInt (rInt))) (fun x=>(x.fKind,x.fAtom,x.fOrder))
theorem rPlanStep_ok (M:Nat):(rPlanStep M).Ok:=rIso_ok (rPair_ok rInt_ok (rPair_ok rInt_ok (rInt_ok))) _
theorem rPlanStep_size (M:Nat):(rPlanStep M).size=3:=rfl
def zPlanStep:PlanStepD:=⟨0,0,0⟩
theorem rPlanStep_rep {M:Nat}{w:World}{cs:List Value}{x:PlanStepD}:(rPlanStep M).rep w cs x↔cs=[.int .i64 x.fKind,.int .i64 x.fAtom,.int .i64 x.fOrder]/\I64 x.fKind/\I64 x.fAtom/\I64 x.fOrder:=by
 constructor
 ·rintro⟨_,_,rfl,⟨rfl,hKind⟩,⟨_,_,rfl,⟨rfl,hAtom⟩,⟨rfl,hOrder⟩⟩⟩
  exact⟨rfl,hKind,hAtom,hOrder⟩
 ·rintro⟨rfl,hKind,hAtom,hOrder⟩
  exact⟨[.int .i64 x.fKind],_,rfl,⟨rfl,hKind⟩,⟨[.int .i64 x.fAtom],_,rfl,⟨rfl,hAtom⟩,⟨rfl,hOrder⟩⟩⟩
theorem rPlanStep_own {M:Nat}{w:World}{fp:List Nat}{cs:List Value}{x:PlanStepD}:(rPlanStep M).own w fp cs x↔cs=[.int .i64 x.fKind,.int .i64 x.fAtom,.int .i64 x.fOrder]/\fp=[]/\I64 x.fKind/\I64 x.fAtom/\I64 x.fOrder:=by
 constructor
 ·rintro⟨_,_,_,_,rfl,rfl,⟨rfl,rfl,hKind⟩,⟨_,_,_,_,rfl,rfl,⟨rfl,rfl,hAtom⟩,⟨rfl,rfl,hOrder⟩⟩⟩
  exact⟨rfl,rfl,hKind,hAtom,hOrder⟩
 ·rintro⟨rfl,rfl,hKind,hAtom,hOrder⟩
  exact⟨[],_,[.int .i64 x.fKind],_,rfl,rfl,⟨rfl,rfl,hKind⟩,⟨[],_,[.int .i64 x.fAtom],_,rfl,rfl,⟨rfl,rfl,hAtom⟩,⟨rfl,rfl,hOrder⟩⟩⟩
theorem zPlanStep_own (W:World):(rPlanStep NB).own W [] (Value.cells (.agg #[.int .i64 0,.int .i64 0,.int .i64 0])).toList zPlanStep:=by
 exact rPlanStep_own.2 ⟨rfl,rfl,I64_zero,I64_zero,I64_zero⟩
structure PlanD where
 fSteps:List PlanStepD
 deriving DecidableEq
def rPlan (M:Nat):Rp PlanD:=rIso ((rSlice M 173 (rPlanStep M))) (fun x=>x.fSteps)
theorem rPlan_ok (M:Nat):(rPlan M).Ok:=rIso_ok ((rSlice_ok M _ (rPlanStep_ok M))) _
theorem rPlan_size (M:Nat):(rPlan M).size=1:=rfl
def zPlan:PlanD:=⟨[]⟩
theorem rPlan_rep {M:Nat}{w:World}{cs:List Value}{x:PlanD}:(rPlan M).rep w cs x↔∃ ASteps nSteps cSteps,cs=[.slice ASteps nSteps cSteps]/\RS M (rPlanStep M) w ASteps nSteps cSteps x.fSteps:=by
 constructor
 ·rintro⟨ASteps,nSteps,cSteps,rfl,hSteps⟩
  exact⟨ASteps,nSteps,cSteps,rfl,hSteps⟩
 ·rintro⟨ASteps,nSteps,cSteps,rfl,hSteps⟩
  exact⟨ASteps,nSteps,cSteps,rfl,hSteps⟩
theorem rPlan_own {M:Nat}{w:World}{fp:List Nat}{cs:List Value}{x:PlanD}:(rPlan M).own w fp cs x↔∃ ASteps nSteps cSteps fSteps,cs=[.slice ASteps nSteps cSteps]/\fp=fSteps/\OS M 173 (rPlanStep M) w fSteps ASteps nSteps cSteps x.fSteps:=by
 constructor
 ·rintro⟨ASteps,nSteps,cSteps,rfl,hSteps⟩
  exact⟨ASteps,nSteps,cSteps,_,rfl,rfl,hSteps⟩
 ·rintro⟨ASteps,nSteps,cSteps,fSteps,rfl,rfl,hSteps⟩
  exact⟨ASteps,nSteps,cSteps,rfl,hSteps⟩
theorem zPlan_own (W:World):(rPlan NB).own W [] (Value.cells (.agg #[.slice none 0 0])).toList zPlan:=by
 exact rPlan_own.2 ⟨none,0,0,[],rfl,rfl,⟨rfl,Nat.zero_le _,[],[],World.ownsRow_nil W 0 _ _,rfl,trivial⟩⟩
structure PlanEntryD where
 fMask:Int
 fOrder:Int
 fCost:Int
 fPlan:PlanD
 deriving DecidableEq
def rPlanEntry (M:Nat):Rp PlanEntryD:=rIso (rPair rInt (rPair rInt (rPair rInt ((rPlan M))))) (fun x=>(x.fMask,x.fOrder,x.fCost,x.fPlan))
theorem rPlanEntry_ok (M:Nat):(rPlanEntry M).Ok:=rIso_ok (rPair_ok rInt_ok (rPair_ok rInt_ok (rPair_ok rInt_ok ((rPlan_ok M))))) _
def zPlanEntry:PlanEntryD:=⟨0,0,0,⟨[]⟩⟩
theorem rPlanEntry_rep {M:Nat}{w:World}{cs:List Value}{x:PlanEntryD}:(rPlanEntry M).rep w cs x↔∃ APlanSteps nPlanSteps cPlanSteps,cs=[.int .i64 x.fMask,.int .i64 x.fOrder,.int .i64 x.fCost,.slice APlanSteps nPlanSteps cPlanSteps]/\I64 x.fMask/\I64 x.fOrder/\I64 x.fCost/\RS M (rPlanStep M) w APlanSteps nPlanSteps cPlanSteps x.fPlan.fSteps:=by
 constructor
 ·rintro⟨_,_,rfl,⟨rfl,hMask⟩,⟨_,_,rfl,⟨rfl,hOrder⟩,⟨_,_,rfl,⟨rfl,hCost⟩,kPlan⟩⟩⟩
  obtain⟨APlanSteps,nPlanSteps,cPlanSteps,rfl,hPlanSteps⟩:=rPlan_rep.1 kPlan
  exact⟨APlanSteps,nPlanSteps,cPlanSteps,rfl,hMask,hOrder,hCost,hPlanSteps⟩
 ·rintro⟨APlanSteps,nPlanSteps,cPlanSteps,rfl,hMask,hOrder,hCost,hPlanSteps⟩
  exact⟨[.int .i64 x.fMask],_,rfl,⟨rfl,hMask⟩,⟨[.int .i64 x.fOrder],_,rfl,⟨rfl,hOrder⟩,⟨[.int .i64 x.fCost],_,rfl,⟨rfl,hCost⟩,rPlan_rep.2 ⟨APlanSteps,nPlanSteps,cPlanSteps,rfl,hPlanSteps⟩⟩⟩⟩
theorem rPlanEntry_own {M:Nat}{w:World}{fp:List Nat}{cs:List Value}{x:PlanEntryD}:(rPlanEntry M).own w fp cs x↔∃ APlanSteps nPlanSteps cPlanSteps fPlanSteps,cs=[.int .i64 x.fMask,.int .i64 x.fOrder,.int .i64 x.fCost,.slice APlanSteps nPlanSteps cPlanSteps]/\fp=(fPlanSteps)/\I64 x.fMask/\I64 x.fOrder/\I64 x.fCost/\OS M 173 (rPlanStep M) w fPlanSteps APlanSteps nPlanSteps cPlanSteps x.fPlan.fSteps:=by
 constructor
 ·rintro⟨_,_,_,_,rfl,rfl,⟨rfl,rfl,hMask⟩,⟨_,_,_,_,rfl,rfl,⟨rfl,rfl,hOrder⟩,⟨_,_,_,_,rfl,rfl,⟨rfl,rfl,hCost⟩,kPlan⟩⟩⟩
  obtain⟨APlanSteps,nPlanSteps,cPlanSteps,fPlanSteps,rfl,rfl,hPlanSteps⟩:=rPlan_own.1 kPlan
  exact⟨APlanSteps,nPlanSteps,cPlanSteps,_,rfl,rfl,hMask,hOrder,hCost,hPlanSteps⟩
 ·rintro⟨APlanSteps,nPlanSteps,cPlanSteps,fPlanSteps,rfl,rfl,hMask,hOrder,hCost,hPlanSteps⟩
  exact⟨[],_,[.int .i64 x.fMask],_,rfl,rfl,⟨rfl,rfl,hMask⟩,⟨[],_,[.int .i64 x.fOrder],_,rfl,rfl,⟨rfl,rfl,hOrder⟩,⟨[],_,[.int .i64 x.fCost],_,rfl,rfl,⟨rfl,rfl,hCost⟩,rPlan_own.2 ⟨APlanSteps,nPlanSteps,cPlanSteps,_,rfl,rfl,hPlanSteps⟩⟩⟩⟩
theorem zPlanEntry_own (W:World):(rPlanEntry NB).own W [] (Value.cells (.agg #[.int .i64 0,.int .i64 0,.int .i64 0,.slice none 0 0])).toList zPlanEntry:=by
 exact rPlanEntry_own.2 ⟨none,0,0,[],rfl,rfl,I64_zero,I64_zero,I64_zero,⟨rfl,Nat.zero_le _,[],[],World.ownsRow_nil W 0 _ _,rfl,trivial⟩⟩
structure SpaceD where
 fBox:BoxD
 fCosts:List Int
 fChoices:List Int
 fPlans:List PlanD
 deriving DecidableEq
def rSpace (M:Nat):Rp SpaceD:=rIso (rPair (rBox M) (rPair (rSlice M 3 rInt) (rPair (rSlice M 3 rInt) ((rSlice M 76 (rPlan M)))))) (fun x=>(x.fBox,x.fCosts,x.fChoices,x.fPlans))
theorem rSpace_own {M:Nat}{w:World}{fp:List Nat}{cs:List Value}{x:SpaceD}:(rSpace M).own w fp cs x↔∃ ABoxLow nBoxLow cBoxLow ABoxHigh nBoxHigh cBoxHigh ACosts nCosts cCosts AChoices nChoices cChoices APlans nPlans cPlans fBoxLow fBoxHigh fCosts fChoices fPlans,cs=[.slice ABoxLow nBoxLow cBoxLow,.slice ABoxHigh nBoxHigh cBoxHigh,.slice ACosts nCosts cCosts,.slice AChoices nChoices cChoices,.slice APlans nPlans cPlans]/\fp=(fBoxLow++(fBoxHigh))++(fCosts++(fChoices++(fPlans)))/\OS M 3 rInt w fBoxLow ABoxLow nBoxLow cBoxLow x.fBox.fLow/\OS M 3 rInt w fBoxHigh ABoxHigh nBoxHigh cBoxHigh x.fBox.fHigh/\OS M 3 rInt w fCosts ACosts nCosts cCosts x.fCosts/\OS M 3 rInt w fChoices AChoices nChoices cChoices x.fChoices/\OS M 76 (rPlan M) w fPlans APlans nPlans cPlans x.fPlans:=by
 constructor
 ·rintro⟨_,_,_,_,rfl,rfl,kBox,⟨fCosts,_,_,_,rfl,rfl,⟨ACosts,nCosts,cCosts,rfl,hCosts⟩,⟨fChoices,fPlans,_,_,rfl,rfl,⟨AChoices,nChoices,cChoices,rfl,hChoices⟩,⟨APlans,nPlans,cPlans,rfl,hPlans⟩⟩⟩⟩
  obtain⟨ABoxLow,nBoxLow,cBoxLow,ABoxHigh,nBoxHigh,cBoxHigh,fBoxLow,fBoxHigh,rfl,rfl,hBoxLow,hBoxHigh⟩:=rBox_own.1 kBox
  exact⟨ABoxLow,nBoxLow,cBoxLow,ABoxHigh,nBoxHigh,cBoxHigh,ACosts,nCosts,cCosts,AChoices,nChoices,cChoices,APlans,nPlans,cPlans,_,_,_,_,_,rfl,rfl,hBoxLow,hBoxHigh,hCosts,hChoices,hPlans⟩
 ·rintro⟨ABoxLow,nBoxLow,cBoxLow,ABoxHigh,nBoxHigh,cBoxHigh,ACosts,nCosts,cCosts,AChoices,nChoices,cChoices,APlans,nPlans,cPlans,fBoxLow,fBoxHigh,fCosts,fChoices,fPlans,rfl,rfl,hBoxLow,hBoxHigh,hCosts,hChoices,hPlans⟩
  exact⟨(fBoxLow++(fBoxHigh)),_,[.slice ABoxLow nBoxLow cBoxLow,.slice ABoxHigh nBoxHigh cBoxHigh],_,rfl,rfl,rBox_own.2 ⟨ABoxLow,nBoxLow,cBoxLow,ABoxHigh,nBoxHigh,cBoxHigh,fBoxLow,fBoxHigh,rfl,rfl,hBoxLow,hBoxHigh⟩,⟨fCosts,_,[.slice ACosts nCosts cCosts],_,rfl,rfl,⟨ACosts,nCosts,cCosts,rfl,hCosts⟩,⟨fChoices,_,[.slice AChoices nChoices cChoices],_,rfl,rfl,⟨AChoices,nChoices,cChoices,rfl,hChoices⟩,⟨APlans,nPlans,cPlans,rfl,hPlans⟩⟩⟩⟩
structure BouquetD where
 fVersion:Int
 fRatio:Int
 fSlack:Int
 fBox:BoxD
 fBudgets:List Int
 fPlans:List PlanD
 fContours:List (List Int)
 deriving DecidableEq
def rBouquet (M:Nat):Rp BouquetD:=rIso (rPair rInt (rPair rInt (rPair rInt (rPair (rBox M) (rPair (rSlice M 3 rInt) (rPair (rSlice M 76 (rPlan M)) ((rSlice M 30 (rSlice M 3 rInt))))))))) (fun x=>(x.fVersion,x.fRatio,x.fSlack,x.fBox,x.fBudgets,x.fPlans,x.fContours))
theorem rBouquet_ok (M:Nat):(rBouquet M).Ok:=rIso_ok (rPair_ok rInt_ok (rPair_ok rInt_ok (rPair_ok rInt_ok (rPair_ok (rBox_ok M) (rPair_ok (rSlice_ok M _ rInt_ok) (rPair_ok (rSlice_ok M _ (rPlan_ok M)) ((rSlice_ok M _ (rSlice_ok M _ rInt_ok))))))))) _
theorem rBouquet_rep {M:Nat}{w:World}{cs:List Value}{x:BouquetD}:(rBouquet M).rep w cs x↔∃ ABoxLow nBoxLow cBoxLow ABoxHigh nBoxHigh cBoxHigh ABudgets nBudgets cBudgets APlans nPlans cPlans AContours nContours cContours,cs=[.int .i64 x.fVersion,.int .i64 x.fRatio,.int .i64 x.fSlack,.slice ABoxLow nBoxLow cBoxLow,.slice ABoxHigh nBoxHigh cBoxHigh,.slice ABudgets nBudgets cBudgets,.slice APlans nPlans cPlans,.slice AContours nContours cContours]/\I64 x.fVersion/\I64 x.fRatio/\I64 x.fSlack/\RS M rInt w ABoxLow nBoxLow cBoxLow x.fBox.fLow/\RS M rInt w ABoxHigh nBoxHigh cBoxHigh x.fBox.fHigh/\RS M rInt w ABudgets nBudgets cBudgets x.fBudgets/\RS M (rPlan M) w APlans nPlans cPlans x.fPlans/\RS M (rSlice M 3 rInt) w AContours nContours cContours x.fContours:=by
 constructor
 ·rintro⟨_,_,rfl,⟨rfl,hVersion⟩,⟨_,_,rfl,⟨rfl,hRatio⟩,⟨_,_,rfl,⟨rfl,hSlack⟩,⟨_,_,rfl,kBox,⟨_,_,rfl,⟨ABudgets,nBudgets,cBudgets,rfl,hBudgets⟩,⟨_,_,rfl,⟨APlans,nPlans,cPlans,rfl,hPlans⟩,⟨AContours,nContours,cContours,rfl,hContours⟩⟩⟩⟩⟩⟩⟩
  obtain⟨ABoxLow,nBoxLow,cBoxLow,ABoxHigh,nBoxHigh,cBoxHigh,rfl,hBoxLow,hBoxHigh⟩:=rBox_rep.1 kBox
  exact⟨ABoxLow,nBoxLow,cBoxLow,ABoxHigh,nBoxHigh,cBoxHigh,ABudgets,nBudgets,cBudgets,APlans,nPlans,cPlans,AContours,nContours,cContours,rfl,hVersion,hRatio,hSlack,hBoxLow,hBoxHigh,hBudgets,hPlans,hContours⟩
 ·rintro⟨ABoxLow,nBoxLow,cBoxLow,ABoxHigh,nBoxHigh,cBoxHigh,ABudgets,nBudgets,cBudgets,APlans,nPlans,cPlans,AContours,nContours,cContours,rfl,hVersion,hRatio,hSlack,hBoxLow,hBoxHigh,hBudgets,hPlans,hContours⟩
  exact⟨[.int .i64 x.fVersion],_,rfl,⟨rfl,hVersion⟩,⟨[.int .i64 x.fRatio],_,rfl,⟨rfl,hRatio⟩,⟨[.int .i64 x.fSlack],_,rfl,⟨rfl,hSlack⟩,⟨[.slice ABoxLow nBoxLow cBoxLow,.slice ABoxHigh nBoxHigh cBoxHigh],_,rfl,rBox_rep.2 ⟨ABoxLow,nBoxLow,cBoxLow,ABoxHigh,nBoxHigh,cBoxHigh,rfl,hBoxLow,hBoxHigh⟩,⟨[.slice ABudgets nBudgets cBudgets],_,rfl,⟨ABudgets,nBudgets,cBudgets,rfl,hBudgets⟩,⟨[.slice APlans nPlans cPlans],_,rfl,⟨APlans,nPlans,cPlans,rfl,hPlans⟩,⟨AContours,nContours,cContours,rfl,hContours⟩⟩⟩⟩⟩⟩⟩
theorem rBouquet_own {M:Nat}{w:World}{fp:List Nat}{cs:List Value}{x:BouquetD}:(rBouquet M).own w fp cs x↔∃ ABoxLow nBoxLow cBoxLow ABoxHigh nBoxHigh cBoxHigh ABudgets nBudgets cBudgets APlans nPlans cPlans AContours nContours cContours fBoxLow fBoxHigh fBudgets fPlans fContours,cs=[.int .i64 x.fVersion,.int .i64 x.fRatio,.int .i64 x.fSlack,.slice ABoxLow nBoxLow cBoxLow,.slice ABoxHigh nBoxHigh cBoxHigh,.slice ABudgets nBudgets cBudgets,.slice APlans nPlans cPlans,.slice AContours nContours cContours]/\fp=(fBoxLow++(fBoxHigh))++(fBudgets++(fPlans++(fContours)))/\I64 x.fVersion/\I64 x.fRatio/\I64 x.fSlack/\OS M 3 rInt w fBoxLow ABoxLow nBoxLow cBoxLow x.fBox.fLow/\OS M 3 rInt w fBoxHigh ABoxHigh nBoxHigh cBoxHigh x.fBox.fHigh/\OS M 3 rInt w fBudgets ABudgets nBudgets cBudgets x.fBudgets/\OS M 76 (rPlan M) w fPlans APlans nPlans cPlans x.fPlans/\OS M 30 (rSlice M 3 rInt) w fContours AContours nContours cContours x.fContours:=by
 constructor
 ·rintro⟨_,_,_,_,rfl,rfl,⟨rfl,rfl,hVersion⟩,⟨_,_,_,_,rfl,rfl,⟨rfl,rfl,hRatio⟩,⟨_,_,_,_,rfl,rfl,⟨rfl,rfl,hSlack⟩,⟨_,_,_,_,rfl,rfl,kBox,⟨fBudgets,_,_,_,rfl,rfl,⟨ABudgets,nBudgets,cBudgets,rfl,hBudgets⟩,⟨fPlans,fContours,_,_,rfl,rfl,⟨APlans,nPlans,cPlans,rfl,hPlans⟩,⟨AContours,nContours,cContours,rfl,hContours⟩⟩⟩⟩⟩⟩⟩
  obtain⟨ABoxLow,nBoxLow,cBoxLow,ABoxHigh,nBoxHigh,cBoxHigh,fBoxLow,fBoxHigh,rfl,rfl,hBoxLow,hBoxHigh⟩:=rBox_own.1 kBox
  exact⟨ABoxLow,nBoxLow,cBoxLow,ABoxHigh,nBoxHigh,cBoxHigh,ABudgets,nBudgets,cBudgets,APlans,nPlans,cPlans,AContours,nContours,cContours,_,_,_,_,_,rfl,rfl,hVersion,hRatio,hSlack,hBoxLow,hBoxHigh,hBudgets,hPlans,hContours⟩
 ·rintro⟨ABoxLow,nBoxLow,cBoxLow,ABoxHigh,nBoxHigh,cBoxHigh,ABudgets,nBudgets,cBudgets,APlans,nPlans,cPlans,AContours,nContours,cContours,fBoxLow,fBoxHigh,fBudgets,fPlans,fContours,rfl,rfl,hVersion,hRatio,hSlack,hBoxLow,hBoxHigh,hBudgets,hPlans,hContours⟩
  exact⟨[],_,[.int .i64 x.fVersion],_,rfl,rfl,⟨rfl,rfl,hVersion⟩,⟨[],_,[.int .i64 x.fRatio],_,rfl,rfl,⟨rfl,rfl,hRatio⟩,⟨[],_,[.int .i64 x.fSlack],_,rfl,rfl,⟨rfl,rfl,hSlack⟩,⟨(fBoxLow++(fBoxHigh)),_,[.slice ABoxLow nBoxLow cBoxLow,.slice ABoxHigh nBoxHigh cBoxHigh],_,rfl,rfl,rBox_own.2 ⟨ABoxLow,nBoxLow,cBoxLow,ABoxHigh,nBoxHigh,cBoxHigh,fBoxLow,fBoxHigh,rfl,rfl,hBoxLow,hBoxHigh⟩,⟨fBudgets,_,[.slice ABudgets nBudgets cBudgets],_,rfl,rfl,⟨ABudgets,nBudgets,cBudgets,rfl,hBudgets⟩,⟨fPlans,_,[.slice APlans nPlans cPlans],_,rfl,rfl,⟨APlans,nPlans,cPlans,rfl,hPlans⟩,⟨AContours,nContours,cContours,rfl,hContours⟩⟩⟩⟩⟩⟩⟩
end Go.Proofs.YtnlcfkpcmfljeaaGreat
