/-
  Types
-/
import Derived.Test.YtnbikckbnbgjkaaDoorStore
namespace Go.Proofs.YtnbikckbnbgjkaaDoor
open Go.RowKit
set_option linter.unusedVariables false







structure AnswerD where
 fVars : List Int
 fRows : List (List Int)
 deriving DecidableEq
def rAnswer (M : Nat) : Rp AnswerD := rIso (rPair (rSlice M 3 rInt) ((rSlice M 23 (rSlice M 3 rInt)))) (fun x => (x.fVars, x.fRows))
theorem rAnswer_ok (M : Nat) : (rAnswer M).Ok := rIso_ok (rPair_ok (rSlice_ok M _ rInt_ok) ((rSlice_ok M _ (rSlice_ok M _ rInt_ok)))) _
theorem rAnswer_size (M : Nat) : (rAnswer M).size = 2 := rfl
def zAnswer : AnswerD := ⟨[], []⟩
theorem rAnswer_rep {M : Nat} {w : World} {cs : List Value} {x : AnswerD} : (rAnswer M).rep w cs x ↔ ∃ AVars nVars cVars ARows nRows cRows, cs = [.slice AVars nVars cVars, .slice ARows nRows cRows] ∧ RS M rInt w AVars nVars cVars x.fVars ∧ RS M (rSlice M 3 rInt) w ARows nRows cRows x.fRows := by
 constructor
 ·rintro ⟨_, _, rfl, ⟨AVars, nVars, cVars, rfl, hVars⟩, ⟨ARows, nRows, cRows, rfl, hRows⟩⟩
  exact ⟨AVars, nVars, cVars, ARows, nRows, cRows, rfl, hVars, hRows⟩
 ·rintro ⟨AVars, nVars, cVars, ARows, nRows, cRows, rfl, hVars, hRows⟩
  exact ⟨[.slice AVars nVars cVars], _, rfl, ⟨AVars, nVars, cVars, rfl, hVars⟩, ⟨ARows, nRows, cRows, rfl, hRows⟩⟩
theorem rAnswer_own {M : Nat} {w : World} {fp : List Nat} {cs : List Value} {x : AnswerD} : (rAnswer M).own w fp cs x ↔ ∃ AVars nVars cVars ARows nRows cRows fVars fRows, cs = [.slice AVars nVars cVars, .slice ARows nRows cRows] ∧ fp = fVars ++ (fRows) ∧ OS M 3 rInt w fVars AVars nVars cVars x.fVars ∧ OS M 23 (rSlice M 3 rInt) w fRows ARows nRows cRows x.fRows := by
 constructor
 ·rintro ⟨fVars, fRows, _, _, rfl, rfl, ⟨AVars, nVars, cVars, rfl, hVars⟩, ⟨ARows, nRows, cRows, rfl, hRows⟩⟩
  exact ⟨AVars, nVars, cVars, ARows, nRows, cRows, _, _, rfl, rfl, hVars, hRows⟩
 ·rintro ⟨AVars, nVars, cVars, ARows, nRows, cRows, fVars, fRows, rfl, rfl, hVars, hRows⟩
  exact ⟨fVars, _, [.slice AVars nVars cVars], _, rfl, rfl, ⟨AVars, nVars, cVars, rfl, hVars⟩, ⟨ARows, nRows, cRows, rfl, hRows⟩⟩
theorem zAnswer_own (W : World) : (rAnswer NB).own W [] (Value.cells (.agg #[.slice none 0 0, .slice none 0 0])).toList zAnswer := by
 exact rAnswer_own.2 ⟨none, 0, 0, none, 0, 0, [], [], rfl, rfl, ⟨rfl, Nat.zero_le _, [], [], World.ownsRow_nil W 0 _ _, rfl, trivial⟩, ⟨rfl, Nat.zero_le _, [], [], World.ownsRow_nil W 0 _ _, rfl, trivial⟩⟩











structure BoxD where
 fLow : List Int
 fHigh : List Int
 deriving DecidableEq
def rBox (M : Nat) : Rp BoxD := rIso (rPair (rSlice M 3 rInt) ((rSlice M 3 rInt))) (fun x => (x.fLow, x.fHigh))
theorem rBox_ok (M : Nat) : (rBox M).Ok := rIso_ok (rPair_ok (rSlice_ok M _ rInt_ok) ((rSlice_ok M _ rInt_ok))) _
theorem rBox_size (M : Nat) : (rBox M).size = 2 := rfl
def zBox : BoxD := ⟨[], []⟩
theorem rBox_rep {M : Nat} {w : World} {cs : List Value} {x : BoxD} : (rBox M).rep w cs x ↔ ∃ ALow nLow cLow AHigh nHigh cHigh, cs = [.slice ALow nLow cLow, .slice AHigh nHigh cHigh] ∧ RS M rInt w ALow nLow cLow x.fLow ∧ RS M rInt w AHigh nHigh cHigh x.fHigh := by
 constructor
 ·rintro ⟨_, _, rfl, ⟨ALow, nLow, cLow, rfl, hLow⟩, ⟨AHigh, nHigh, cHigh, rfl, hHigh⟩⟩
  exact ⟨ALow, nLow, cLow, AHigh, nHigh, cHigh, rfl, hLow, hHigh⟩
 ·rintro ⟨ALow, nLow, cLow, AHigh, nHigh, cHigh, rfl, hLow, hHigh⟩
  exact ⟨[.slice ALow nLow cLow], _, rfl, ⟨ALow, nLow, cLow, rfl, hLow⟩, ⟨AHigh, nHigh, cHigh, rfl, hHigh⟩⟩
theorem rBox_own {M : Nat} {w : World} {fp : List Nat} {cs : List Value} {x : BoxD} : (rBox M).own w fp cs x ↔ ∃ ALow nLow cLow AHigh nHigh cHigh fLow fHigh, cs = [.slice ALow nLow cLow, .slice AHigh nHigh cHigh] ∧ fp = fLow ++ (fHigh) ∧ OS M 3 rInt w fLow ALow nLow cLow x.fLow ∧ OS M 3 rInt w fHigh AHigh nHigh cHigh x.fHigh := by
 constructor
 ·rintro ⟨fLow, fHigh, _, _, rfl, rfl, ⟨ALow, nLow, cLow, rfl, hLow⟩, ⟨AHigh, nHigh, cHigh, rfl, hHigh⟩⟩
  exact ⟨ALow, nLow, cLow, AHigh, nHigh, cHigh, _, _, rfl, rfl, hLow, hHigh⟩
 ·rintro ⟨ALow, nLow, cLow, AHigh, nHigh, cHigh, fLow, fHigh, rfl, rfl, hLow, hHigh⟩
  exact ⟨fLow, _, [.slice ALow nLow cLow], _, rfl, rfl, ⟨ALow, nLow, cLow, rfl, hLow⟩, ⟨AHigh, nHigh, cHigh, rfl, hHigh⟩⟩
theorem zBox_own (W : World) : (rBox NB).own W [] (Value.cells (.agg #[.slice none 0 0, .slice none 0 0])).toList zBox := by
 exact rBox_own.2 ⟨none, 0, 0, none, 0, 0, [], [], rfl, rfl, ⟨rfl, Nat.zero_le _, [], [], World.ownsRow_nil W 0 _ _, rfl, trivial⟩, ⟨rfl, Nat.zero_le _, [], [], World.ownsRow_nil W 0 _ _, rfl, trivial⟩⟩




structure PlanStepD where
 fKind : Int
 fAtom : Int
 fOrder : Int
 deriving DecidableEq
def rPlanStep (M : Nat) : Rp PlanStepD := rIso (rPair rInt (rPair rInt (rInt))) (fun x => (x.fKind, x.fAtom, x.fOrder))
theorem rPlanStep_ok (M : Nat) : (rPlanStep M).Ok := rIso_ok (rPair_ok rInt_ok (rPair_ok rInt_ok (rInt_ok))) _
theorem rPlanStep_size (M : Nat) : (rPlanStep M).size = 3 := rfl
def zPlanStep : PlanStepD := ⟨0, 0, 0⟩
theorem rPlanStep_rep {M : Nat} {w : World} {cs : List Value} {x : PlanStepD} : (rPlanStep M).rep w cs x ↔ cs = [.int .i64 x.fKind, .int .i64 x.fAtom, .int .i64 x.fOrder] ∧ I64 x.fKind ∧ I64 x.fAtom ∧ I64 x.fOrder := by
 constructor
 ·rintro ⟨_, _, rfl, ⟨rfl, hKind⟩, ⟨_, _, rfl, ⟨rfl, hAtom⟩, ⟨rfl, hOrder⟩⟩⟩
  exact ⟨rfl, hKind, hAtom, hOrder⟩
 ·rintro ⟨rfl, hKind, hAtom, hOrder⟩
  exact ⟨[.int .i64 x.fKind], _, rfl, ⟨rfl, hKind⟩, ⟨[.int .i64 x.fAtom], _, rfl, ⟨rfl, hAtom⟩, ⟨rfl, hOrder⟩⟩⟩
theorem rPlanStep_own {M : Nat} {w : World} {fp : List Nat} {cs : List Value} {x : PlanStepD} : (rPlanStep M).own w fp cs x ↔ cs = [.int .i64 x.fKind, .int .i64 x.fAtom, .int .i64 x.fOrder] ∧ fp = [] ∧ I64 x.fKind ∧ I64 x.fAtom ∧ I64 x.fOrder := by
 constructor
 ·rintro ⟨_, _, _, _, rfl, rfl, ⟨rfl, rfl, hKind⟩, ⟨_, _, _, _, rfl, rfl, ⟨rfl, rfl, hAtom⟩, ⟨rfl, rfl, hOrder⟩⟩⟩
  exact ⟨rfl, rfl, hKind, hAtom, hOrder⟩
 ·rintro ⟨rfl, rfl, hKind, hAtom, hOrder⟩
  exact ⟨[], _, [.int .i64 x.fKind], _, rfl, rfl, ⟨rfl, rfl, hKind⟩, ⟨[], _, [.int .i64 x.fAtom], _, rfl, rfl, ⟨rfl, rfl, hAtom⟩, ⟨rfl, rfl, hOrder⟩⟩⟩
theorem zPlanStep_own (W : World) : (rPlanStep NB).own W [] (Value.cells (.agg #[.int .i64 0, .int .i64 0, .int .i64 0])).toList zPlanStep := by
 exact rPlanStep_own.2 ⟨rfl, rfl, I64_zero, I64_zero, I64_zero⟩

structure PlanD where
 fSteps : List PlanStepD
 deriving DecidableEq
def rPlan (M : Nat) : Rp PlanD := rIso ((rSlice M 113 (rPlanStep M))) (fun x => x.fSteps)
theorem rPlan_ok (M : Nat) : (rPlan M).Ok := rIso_ok ((rSlice_ok M _ (rPlanStep_ok M))) _
theorem rPlan_size (M : Nat) : (rPlan M).size = 1 := rfl
def zPlan : PlanD := ⟨[]⟩
theorem rPlan_rep {M : Nat} {w : World} {cs : List Value} {x : PlanD} : (rPlan M).rep w cs x ↔ ∃ ASteps nSteps cSteps, cs = [.slice ASteps nSteps cSteps] ∧ RS M (rPlanStep M) w ASteps nSteps cSteps x.fSteps := by
 constructor
 ·rintro ⟨ASteps, nSteps, cSteps, rfl, hSteps⟩
  exact ⟨ASteps, nSteps, cSteps, rfl, hSteps⟩
 ·rintro ⟨ASteps, nSteps, cSteps, rfl, hSteps⟩
  exact ⟨ASteps, nSteps, cSteps, rfl, hSteps⟩
theorem rPlan_own {M : Nat} {w : World} {fp : List Nat} {cs : List Value} {x : PlanD} : (rPlan M).own w fp cs x ↔ ∃ ASteps nSteps cSteps fSteps, cs = [.slice ASteps nSteps cSteps] ∧ fp = fSteps ∧ OS M 113 (rPlanStep M) w fSteps ASteps nSteps cSteps x.fSteps := by
 constructor
 ·rintro ⟨ASteps, nSteps, cSteps, rfl, hSteps⟩
  exact ⟨ASteps, nSteps, cSteps, _, rfl, rfl, hSteps⟩
 ·rintro ⟨ASteps, nSteps, cSteps, fSteps, rfl, rfl, hSteps⟩
  exact ⟨ASteps, nSteps, cSteps, rfl, hSteps⟩
theorem zPlan_own (W : World) : (rPlan NB).own W [] (Value.cells (.agg #[.slice none 0 0])).toList zPlan := by
 exact rPlan_own.2 ⟨none, 0, 0, [], rfl, rfl, ⟨rfl, Nat.zero_le _, [], [], World.ownsRow_nil W 0 _ _, rfl, trivial⟩⟩



structure ObservationD where
 fMask : Int
 fClass : Int
 fExact : Bool
 deriving DecidableEq
def rObservation (M : Nat) : Rp ObservationD := rIso (rPair rInt (rPair rInt (rBool))) (fun x => (x.fMask, x.fClass, x.fExact))
theorem rObservation_ok (M : Nat) : (rObservation M).Ok := rIso_ok (rPair_ok rInt_ok (rPair_ok rInt_ok (rBool_ok))) _
theorem rObservation_size (M : Nat) : (rObservation M).size = 3 := rfl
def zObservation : ObservationD := ⟨0, 0, false⟩
theorem rObservation_rep {M : Nat} {w : World} {cs : List Value} {x : ObservationD} : (rObservation M).rep w cs x ↔ cs = [.int .i64 x.fMask, .int .i64 x.fClass, .bool x.fExact] ∧ I64 x.fMask ∧ I64 x.fClass := by
 constructor
 ·rintro ⟨_, _, rfl, ⟨rfl, hMask⟩, ⟨_, _, rfl, ⟨rfl, hClass⟩, rfl⟩⟩
  exact ⟨rfl, hMask, hClass⟩
 ·rintro ⟨rfl, hMask, hClass⟩
  exact ⟨[.int .i64 x.fMask], _, rfl, ⟨rfl, hMask⟩, ⟨[.int .i64 x.fClass], _, rfl, ⟨rfl, hClass⟩, rfl⟩⟩
theorem rObservation_own {M : Nat} {w : World} {fp : List Nat} {cs : List Value} {x : ObservationD} : (rObservation M).own w fp cs x ↔ cs = [.int .i64 x.fMask, .int .i64 x.fClass, .bool x.fExact] ∧ fp = [] ∧ I64 x.fMask ∧ I64 x.fClass := by
 constructor
 ·rintro ⟨_, _, _, _, rfl, rfl, ⟨rfl, rfl, hMask⟩, ⟨_, _, _, _, rfl, rfl, ⟨rfl, rfl, hClass⟩, ⟨rfl, rfl⟩⟩⟩
  exact ⟨rfl, rfl, hMask, hClass⟩
 ·rintro ⟨rfl, rfl, hMask, hClass⟩
  exact ⟨[], _, [.int .i64 x.fMask], _, rfl, rfl, ⟨rfl, rfl, hMask⟩, ⟨[], _, [.int .i64 x.fClass], _, rfl, rfl, ⟨rfl, rfl, hClass⟩, ⟨rfl, rfl⟩⟩⟩
theorem zObservation_own (W : World) : (rObservation NB).own W [] (Value.cells (.agg #[.int .i64 0, .int .i64 0, .bool false])).toList zObservation := by
 exact rObservation_own.2 ⟨rfl, rfl, I64_zero, I64_zero⟩

structure RunD where
 fDone : Bool
 fCost : Int
 fSteps : Int
 fSeen : List ObservationD
 fAnswer : AnswerD
 deriving DecidableEq
def rRun (M : Nat) : Rp RunD := rIso (rPair rBool (rPair rInt (rPair rInt (rPair (rSlice M 70 (rObservation M)) ((rAnswer M)))))) (fun x => (x.fDone, x.fCost, x.fSteps, x.fSeen, x.fAnswer))
theorem rRun_ok (M : Nat) : (rRun M).Ok := rIso_ok (rPair_ok rBool_ok (rPair_ok rInt_ok (rPair_ok rInt_ok (rPair_ok (rSlice_ok M _ (rObservation_ok M)) ((rAnswer_ok M)))))) _
theorem rRun_size (M : Nat) : (rRun M).size = 6 := rfl
def zRun : RunD := ⟨false, 0, 0, [], ⟨[], []⟩⟩
theorem rRun_rep {M : Nat} {w : World} {cs : List Value} {x : RunD} : (rRun M).rep w cs x ↔ ∃ ASeen nSeen cSeen AAnswerVars nAnswerVars cAnswerVars AAnswerRows nAnswerRows cAnswerRows, cs = [.bool x.fDone, .int .i64 x.fCost, .int .i64 x.fSteps, .slice ASeen nSeen cSeen, .slice AAnswerVars nAnswerVars cAnswerVars, .slice AAnswerRows nAnswerRows cAnswerRows] ∧ I64 x.fCost ∧ I64 x.fSteps ∧ RS M (rObservation M) w ASeen nSeen cSeen x.fSeen ∧ RS M rInt w AAnswerVars nAnswerVars cAnswerVars x.fAnswer.fVars ∧ RS M (rSlice M 3 rInt) w AAnswerRows nAnswerRows cAnswerRows x.fAnswer.fRows := by
 constructor
 ·rintro ⟨_, _, rfl, rfl, ⟨_, _, rfl, ⟨rfl, hCost⟩, ⟨_, _, rfl, ⟨rfl, hSteps⟩, ⟨_, _, rfl, ⟨ASeen, nSeen, cSeen, rfl, hSeen⟩, kAnswer⟩⟩⟩⟩
  obtain ⟨AAnswerVars, nAnswerVars, cAnswerVars, AAnswerRows, nAnswerRows, cAnswerRows, rfl, hAnswerVars, hAnswerRows⟩ := rAnswer_rep.1 kAnswer
  exact ⟨ASeen, nSeen, cSeen, AAnswerVars, nAnswerVars, cAnswerVars, AAnswerRows, nAnswerRows, cAnswerRows, rfl, hCost, hSteps, hSeen, hAnswerVars, hAnswerRows⟩
 ·rintro ⟨ASeen, nSeen, cSeen, AAnswerVars, nAnswerVars, cAnswerVars, AAnswerRows, nAnswerRows, cAnswerRows, rfl, hCost, hSteps, hSeen, hAnswerVars, hAnswerRows⟩
  exact ⟨[.bool x.fDone], _, rfl, rfl, ⟨[.int .i64 x.fCost], _, rfl, ⟨rfl, hCost⟩, ⟨[.int .i64 x.fSteps], _, rfl, ⟨rfl, hSteps⟩, ⟨[.slice ASeen nSeen cSeen], _, rfl, ⟨ASeen, nSeen, cSeen, rfl, hSeen⟩, rAnswer_rep.2 ⟨AAnswerVars, nAnswerVars, cAnswerVars, AAnswerRows, nAnswerRows, cAnswerRows, rfl, hAnswerVars, hAnswerRows⟩⟩⟩⟩⟩
theorem rRun_own {M : Nat} {w : World} {fp : List Nat} {cs : List Value} {x : RunD} : (rRun M).own w fp cs x ↔ ∃ ASeen nSeen cSeen AAnswerVars nAnswerVars cAnswerVars AAnswerRows nAnswerRows cAnswerRows fSeen fAnswerVars fAnswerRows, cs = [.bool x.fDone, .int .i64 x.fCost, .int .i64 x.fSteps, .slice ASeen nSeen cSeen, .slice AAnswerVars nAnswerVars cAnswerVars, .slice AAnswerRows nAnswerRows cAnswerRows] ∧ fp = fSeen ++ ((fAnswerVars ++ (fAnswerRows))) ∧ I64 x.fCost ∧ I64 x.fSteps ∧ OS M 70 (rObservation M) w fSeen ASeen nSeen cSeen x.fSeen ∧ OS M 3 rInt w fAnswerVars AAnswerVars nAnswerVars cAnswerVars x.fAnswer.fVars ∧ OS M 23 (rSlice M 3 rInt) w fAnswerRows AAnswerRows nAnswerRows cAnswerRows x.fAnswer.fRows := by
 constructor
 ·rintro ⟨_, _, _, _, rfl, rfl, ⟨rfl, rfl⟩, ⟨_, _, _, _, rfl, rfl, ⟨rfl, rfl, hCost⟩, ⟨_, _, _, _, rfl, rfl, ⟨rfl, rfl, hSteps⟩, ⟨fSeen, _, _, _, rfl, rfl, ⟨ASeen, nSeen, cSeen, rfl, hSeen⟩, kAnswer⟩⟩⟩⟩
  obtain ⟨AAnswerVars, nAnswerVars, cAnswerVars, AAnswerRows, nAnswerRows, cAnswerRows, fAnswerVars, fAnswerRows, rfl, rfl, hAnswerVars, hAnswerRows⟩ := rAnswer_own.1 kAnswer
  exact ⟨ASeen, nSeen, cSeen, AAnswerVars, nAnswerVars, cAnswerVars, AAnswerRows, nAnswerRows, cAnswerRows, fSeen, fAnswerVars, fAnswerRows, rfl, rfl, hCost, hSteps, hSeen, hAnswerVars, hAnswerRows⟩
 ·rintro ⟨ASeen, nSeen, cSeen, AAnswerVars, nAnswerVars, cAnswerVars, AAnswerRows, nAnswerRows, cAnswerRows, fSeen, fAnswerVars, fAnswerRows, rfl, rfl, hCost, hSteps, hSeen, hAnswerVars, hAnswerRows⟩
  exact ⟨[], _, [.bool x.fDone], _, rfl, rfl, ⟨rfl, rfl⟩, ⟨[], _, [.int .i64 x.fCost], _, rfl, rfl, ⟨rfl, rfl, hCost⟩, ⟨[], _, [.int .i64 x.fSteps], _, rfl, rfl, ⟨rfl, rfl, hSteps⟩, ⟨fSeen, _, [.slice ASeen nSeen cSeen], _, rfl, rfl, ⟨ASeen, nSeen, cSeen, rfl, hSeen⟩, rAnswer_own.2 ⟨AAnswerVars, nAnswerVars, cAnswerVars, AAnswerRows, nAnswerRows, cAnswerRows, fAnswerVars, fAnswerRows, rfl, rfl, hAnswerVars, hAnswerRows⟩⟩⟩⟩⟩
theorem zRun_own (W : World) : (rRun NB).own W [] (Value.cells (.agg #[.bool false, .int .i64 0, .int .i64 0, .slice none 0 0, .slice none 0 0, .slice none 0 0])).toList zRun := by
 exact rRun_own.2 ⟨none, 0, 0, none, 0, 0, none, 0, 0, [], [], [], rfl, rfl, I64_zero, I64_zero, ⟨rfl, Nat.zero_le _, [], [], World.ownsRow_nil W 0 _ _, rfl, trivial⟩, ⟨rfl, Nat.zero_le _, [], [], World.ownsRow_nil W 0 _ _, rfl, trivial⟩, ⟨rfl, Nat.zero_le _, [], [], World.ownsRow_nil W 0 _ _, rfl, trivial⟩⟩


structure BouquetD where
 fVersion : Int
 fRatio : Int
 fSlack : Int
 fBox : BoxD
 fBudgets : List Int
 fPlans : List PlanD
 fContours : List (List Int)
 deriving DecidableEq
def rBouquet (M : Nat) : Rp BouquetD := rIso (rPair rInt (rPair rInt (rPair rInt (rPair (rBox M) (rPair (rSlice M 3 rInt) (rPair (rSlice M 89 (rPlan M)) ((rSlice M 23 (rSlice M 3 rInt))))))))) (fun x => (x.fVersion, x.fRatio, x.fSlack, x.fBox, x.fBudgets, x.fPlans, x.fContours))
theorem rBouquet_ok (M : Nat) : (rBouquet M).Ok := rIso_ok (rPair_ok rInt_ok (rPair_ok rInt_ok (rPair_ok rInt_ok (rPair_ok (rBox_ok M) (rPair_ok (rSlice_ok M _ rInt_ok) (rPair_ok (rSlice_ok M _ (rPlan_ok M)) ((rSlice_ok M _ (rSlice_ok M _ rInt_ok))))))))) _
theorem rBouquet_size (M : Nat) : (rBouquet M).size = 8 := rfl
def zBouquet : BouquetD := ⟨0, 0, 0, ⟨[], []⟩, [], [], []⟩
theorem rBouquet_rep {M : Nat} {w : World} {cs : List Value} {x : BouquetD} : (rBouquet M).rep w cs x ↔ ∃ ABoxLow nBoxLow cBoxLow ABoxHigh nBoxHigh cBoxHigh ABudgets nBudgets cBudgets APlans nPlans cPlans AContours nContours cContours, cs = [.int .i64 x.fVersion, .int .i64 x.fRatio, .int .i64 x.fSlack, .slice ABoxLow nBoxLow cBoxLow, .slice ABoxHigh nBoxHigh cBoxHigh, .slice ABudgets nBudgets cBudgets, .slice APlans nPlans cPlans, .slice AContours nContours cContours] ∧ I64 x.fVersion ∧ I64 x.fRatio ∧ I64 x.fSlack ∧ RS M rInt w ABoxLow nBoxLow cBoxLow x.fBox.fLow ∧ RS M rInt w ABoxHigh nBoxHigh cBoxHigh x.fBox.fHigh ∧ RS M rInt w ABudgets nBudgets cBudgets x.fBudgets ∧ RS M (rPlan M) w APlans nPlans cPlans x.fPlans ∧ RS M (rSlice M 3 rInt) w AContours nContours cContours x.fContours := by
 constructor
 ·rintro ⟨_, _, rfl, ⟨rfl, hVersion⟩, ⟨_, _, rfl, ⟨rfl, hRatio⟩, ⟨_, _, rfl, ⟨rfl, hSlack⟩, ⟨_, _, rfl, kBox, ⟨_, _, rfl, ⟨ABudgets, nBudgets, cBudgets, rfl, hBudgets⟩, ⟨_, _, rfl, ⟨APlans, nPlans, cPlans, rfl, hPlans⟩, ⟨AContours, nContours, cContours, rfl, hContours⟩⟩⟩⟩⟩⟩⟩
  obtain ⟨ABoxLow, nBoxLow, cBoxLow, ABoxHigh, nBoxHigh, cBoxHigh, rfl, hBoxLow, hBoxHigh⟩ := rBox_rep.1 kBox
  exact ⟨ABoxLow, nBoxLow, cBoxLow, ABoxHigh, nBoxHigh, cBoxHigh, ABudgets, nBudgets, cBudgets, APlans, nPlans, cPlans, AContours, nContours, cContours, rfl, hVersion, hRatio, hSlack, hBoxLow, hBoxHigh, hBudgets, hPlans, hContours⟩
 ·rintro ⟨ABoxLow, nBoxLow, cBoxLow, ABoxHigh, nBoxHigh, cBoxHigh, ABudgets, nBudgets, cBudgets, APlans, nPlans, cPlans, AContours, nContours, cContours, rfl, hVersion, hRatio, hSlack, hBoxLow, hBoxHigh, hBudgets, hPlans, hContours⟩
  exact ⟨[.int .i64 x.fVersion], _, rfl, ⟨rfl, hVersion⟩, ⟨[.int .i64 x.fRatio], _, rfl, ⟨rfl, hRatio⟩, ⟨[.int .i64 x.fSlack], _, rfl, ⟨rfl, hSlack⟩, ⟨[.slice ABoxLow nBoxLow cBoxLow, .slice ABoxHigh nBoxHigh cBoxHigh], _, rfl, rBox_rep.2 ⟨ABoxLow, nBoxLow, cBoxLow, ABoxHigh, nBoxHigh, cBoxHigh, rfl, hBoxLow, hBoxHigh⟩, ⟨[.slice ABudgets nBudgets cBudgets], _, rfl, ⟨ABudgets, nBudgets, cBudgets, rfl, hBudgets⟩, ⟨[.slice APlans nPlans cPlans], _, rfl, ⟨APlans, nPlans, cPlans, rfl, hPlans⟩, ⟨AContours, nContours, cContours, rfl, hContours⟩⟩⟩⟩⟩⟩⟩
theorem rBouquet_own {M : Nat} {w : World} {fp : List Nat} {cs : List Value} {x : BouquetD} : (rBouquet M).own w fp cs x ↔ ∃ ABoxLow nBoxLow cBoxLow ABoxHigh nBoxHigh cBoxHigh ABudgets nBudgets cBudgets APlans nPlans cPlans AContours nContours cContours fBoxLow fBoxHigh fBudgets fPlans fContours, cs = [.int .i64 x.fVersion, .int .i64 x.fRatio, .int .i64 x.fSlack, .slice ABoxLow nBoxLow cBoxLow, .slice ABoxHigh nBoxHigh cBoxHigh, .slice ABudgets nBudgets cBudgets, .slice APlans nPlans cPlans, .slice AContours nContours cContours] ∧ fp = (fBoxLow ++ (fBoxHigh)) ++ (fBudgets ++ (fPlans ++ (fContours))) ∧ I64 x.fVersion ∧ I64 x.fRatio ∧ I64 x.fSlack ∧ OS M 3 rInt w fBoxLow ABoxLow nBoxLow cBoxLow x.fBox.fLow ∧ OS M 3 rInt w fBoxHigh ABoxHigh nBoxHigh cBoxHigh x.fBox.fHigh ∧ OS M 3 rInt w fBudgets ABudgets nBudgets cBudgets x.fBudgets ∧ OS M 89 (rPlan M) w fPlans APlans nPlans cPlans x.fPlans ∧ OS M 23 (rSlice M 3 rInt) w fContours AContours nContours cContours x.fContours := by
 constructor
 ·rintro ⟨_, _, _, _, rfl, rfl, ⟨rfl, rfl, hVersion⟩, ⟨_, _, _, _, rfl, rfl, ⟨rfl, rfl, hRatio⟩, ⟨_, _, _, _, rfl, rfl, ⟨rfl, rfl, hSlack⟩, ⟨_, _, _, _, rfl, rfl, kBox, ⟨fBudgets, _, _, _, rfl, rfl, ⟨ABudgets, nBudgets, cBudgets, rfl, hBudgets⟩, ⟨fPlans, fContours, _, _, rfl, rfl, ⟨APlans, nPlans, cPlans, rfl, hPlans⟩, ⟨AContours, nContours, cContours, rfl, hContours⟩⟩⟩⟩⟩⟩⟩
  obtain ⟨ABoxLow, nBoxLow, cBoxLow, ABoxHigh, nBoxHigh, cBoxHigh, fBoxLow, fBoxHigh, rfl, rfl, hBoxLow, hBoxHigh⟩ := rBox_own.1 kBox
  exact ⟨ABoxLow, nBoxLow, cBoxLow, ABoxHigh, nBoxHigh, cBoxHigh, ABudgets, nBudgets, cBudgets, APlans, nPlans, cPlans, AContours, nContours, cContours, _, _, _, _, _, rfl, rfl, hVersion, hRatio, hSlack, hBoxLow, hBoxHigh, hBudgets, hPlans, hContours⟩
 ·rintro ⟨ABoxLow, nBoxLow, cBoxLow, ABoxHigh, nBoxHigh, cBoxHigh, ABudgets, nBudgets, cBudgets, APlans, nPlans, cPlans, AContours, nContours, cContours, fBoxLow, fBoxHigh, fBudgets, fPlans, fContours, rfl, rfl, hVersion, hRatio, hSlack, hBoxLow, hBoxHigh, hBudgets, hPlans, hContours⟩
  exact ⟨[], _, [.int .i64 x.fVersion], _, rfl, rfl, ⟨rfl, rfl, hVersion⟩, ⟨[], _, [.int .i64 x.fRatio], _, rfl, rfl, ⟨rfl, rfl, hRatio⟩, ⟨[], _, [.int .i64 x.fSlack], _, rfl, rfl, ⟨rfl, rfl, hSlack⟩, ⟨(fBoxLow ++ (fBoxHigh)), _, [.slice ABoxLow nBoxLow cBoxLow, .slice ABoxHigh nBoxHigh cBoxHigh], _, rfl, rfl, rBox_own.2 ⟨ABoxLow, nBoxLow, cBoxLow, ABoxHigh, nBoxHigh, cBoxHigh, fBoxLow, fBoxHigh, rfl, rfl, hBoxLow, hBoxHigh⟩, ⟨fBudgets, _, [.slice ABudgets nBudgets cBudgets], _, rfl, rfl, ⟨ABudgets, nBudgets, cBudgets, rfl, hBudgets⟩, ⟨fPlans, _, [.slice APlans nPlans cPlans], _, rfl, rfl, ⟨APlans, nPlans, cPlans, rfl, hPlans⟩, ⟨AContours, nContours, cContours, rfl, hContours⟩⟩⟩⟩⟩⟩⟩
theorem zBouquet_own (W : World) : (rBouquet NB).own W [] (Value.cells (.agg #[.int .i64 0, .int .i64 0, .int .i64 0, .slice none 0 0, .slice none 0 0, .slice none 0 0, .slice none 0 0, .slice none 0 0])).toList zBouquet := by
 exact rBouquet_own.2 ⟨none, 0, 0, none, 0, 0, none, 0, 0, none, 0, 0, none, 0, 0, [], [], [], [], [], rfl, rfl, I64_zero, I64_zero, I64_zero, ⟨rfl, Nat.zero_le _, [], [], World.ownsRow_nil W 0 _ _, rfl, trivial⟩, ⟨rfl, Nat.zero_le _, [], [], World.ownsRow_nil W 0 _ _, rfl, trivial⟩, ⟨rfl, Nat.zero_le _, [], [], World.ownsRow_nil W 0 _ _, rfl, trivial⟩, ⟨rfl, Nat.zero_le _, [], [], World.ownsRow_nil W 0 _ _, rfl, trivial⟩, ⟨rfl, Nat.zero_le _, [], [], World.ownsRow_nil W 0 _ _, rfl, trivial⟩⟩

structure RunNoteD where
 fContour : Int
 fPlan : Int
 fBudget : Int
 fCost : Int
 fDone : Bool
 deriving DecidableEq
def rRunNote (M : Nat) : Rp RunNoteD := rIso (rPair rInt (rPair rInt (rPair rInt (rPair rInt (rBool))))) (fun x => (x.fContour, x.fPlan, x.fBudget, x.fCost, x.fDone))
theorem rRunNote_ok (M : Nat) : (rRunNote M).Ok := rIso_ok (rPair_ok rInt_ok (rPair_ok rInt_ok (rPair_ok rInt_ok (rPair_ok rInt_ok (rBool_ok))))) _
theorem rRunNote_size (M : Nat) : (rRunNote M).size = 5 := rfl
def zRunNote : RunNoteD := ⟨0, 0, 0, 0, false⟩
theorem rRunNote_rep {M : Nat} {w : World} {cs : List Value} {x : RunNoteD} : (rRunNote M).rep w cs x ↔ cs = [.int .i64 x.fContour, .int .i64 x.fPlan, .int .i64 x.fBudget, .int .i64 x.fCost, .bool x.fDone] ∧ I64 x.fContour ∧ I64 x.fPlan ∧ I64 x.fBudget ∧ I64 x.fCost := by
 constructor
 ·rintro ⟨_, _, rfl, ⟨rfl, hContour⟩, ⟨_, _, rfl, ⟨rfl, hPlan⟩, ⟨_, _, rfl, ⟨rfl, hBudget⟩, ⟨_, _, rfl, ⟨rfl, hCost⟩, rfl⟩⟩⟩⟩
  exact ⟨rfl, hContour, hPlan, hBudget, hCost⟩
 ·rintro ⟨rfl, hContour, hPlan, hBudget, hCost⟩
  exact ⟨[.int .i64 x.fContour], _, rfl, ⟨rfl, hContour⟩, ⟨[.int .i64 x.fPlan], _, rfl, ⟨rfl, hPlan⟩, ⟨[.int .i64 x.fBudget], _, rfl, ⟨rfl, hBudget⟩, ⟨[.int .i64 x.fCost], _, rfl, ⟨rfl, hCost⟩, rfl⟩⟩⟩⟩
theorem rRunNote_own {M : Nat} {w : World} {fp : List Nat} {cs : List Value} {x : RunNoteD} : (rRunNote M).own w fp cs x ↔ cs = [.int .i64 x.fContour, .int .i64 x.fPlan, .int .i64 x.fBudget, .int .i64 x.fCost, .bool x.fDone] ∧ fp = [] ∧ I64 x.fContour ∧ I64 x.fPlan ∧ I64 x.fBudget ∧ I64 x.fCost := by
 constructor
 ·rintro ⟨_, _, _, _, rfl, rfl, ⟨rfl, rfl, hContour⟩, ⟨_, _, _, _, rfl, rfl, ⟨rfl, rfl, hPlan⟩, ⟨_, _, _, _, rfl, rfl, ⟨rfl, rfl, hBudget⟩, ⟨_, _, _, _, rfl, rfl, ⟨rfl, rfl, hCost⟩, ⟨rfl, rfl⟩⟩⟩⟩⟩
  exact ⟨rfl, rfl, hContour, hPlan, hBudget, hCost⟩
 ·rintro ⟨rfl, rfl, hContour, hPlan, hBudget, hCost⟩
  exact ⟨[], _, [.int .i64 x.fContour], _, rfl, rfl, ⟨rfl, rfl, hContour⟩, ⟨[], _, [.int .i64 x.fPlan], _, rfl, rfl, ⟨rfl, rfl, hPlan⟩, ⟨[], _, [.int .i64 x.fBudget], _, rfl, rfl, ⟨rfl, rfl, hBudget⟩, ⟨[], _, [.int .i64 x.fCost], _, rfl, rfl, ⟨rfl, rfl, hCost⟩, ⟨rfl, rfl⟩⟩⟩⟩⟩
theorem zRunNote_own (W : World) : (rRunNote NB).own W [] (Value.cells (.agg #[.int .i64 0, .int .i64 0, .int .i64 0, .int .i64 0, .bool false])).toList zRunNote := by
 exact rRunNote_own.2 ⟨rfl, rfl, I64_zero, I64_zero, I64_zero, I64_zero⟩

structure OutcomeD where
 fAnswer : AnswerD
 fTotal : Int
 fNotes : List RunNoteD
 fBox : BoxD
 deriving DecidableEq
def rOutcome (M : Nat) : Rp OutcomeD := rIso (rPair (rAnswer M) (rPair rInt (rPair (rSlice M 76 (rRunNote M)) ((rBox M))))) (fun x => (x.fAnswer, x.fTotal, x.fNotes, x.fBox))
theorem rOutcome_ok (M : Nat) : (rOutcome M).Ok := rIso_ok (rPair_ok (rAnswer_ok M) (rPair_ok rInt_ok (rPair_ok (rSlice_ok M _ (rRunNote_ok M)) ((rBox_ok M))))) _
theorem rOutcome_size (M : Nat) : (rOutcome M).size = 6 := rfl
def zOutcome : OutcomeD := ⟨⟨[], []⟩, 0, [], ⟨[], []⟩⟩
theorem rOutcome_rep {M : Nat} {w : World} {cs : List Value} {x : OutcomeD} : (rOutcome M).rep w cs x ↔ ∃ AAnswerVars nAnswerVars cAnswerVars AAnswerRows nAnswerRows cAnswerRows ANotes nNotes cNotes ABoxLow nBoxLow cBoxLow ABoxHigh nBoxHigh cBoxHigh, cs = [.slice AAnswerVars nAnswerVars cAnswerVars, .slice AAnswerRows nAnswerRows cAnswerRows, .int .i64 x.fTotal, .slice ANotes nNotes cNotes, .slice ABoxLow nBoxLow cBoxLow, .slice ABoxHigh nBoxHigh cBoxHigh] ∧ RS M rInt w AAnswerVars nAnswerVars cAnswerVars x.fAnswer.fVars ∧ RS M (rSlice M 3 rInt) w AAnswerRows nAnswerRows cAnswerRows x.fAnswer.fRows ∧ I64 x.fTotal ∧ RS M (rRunNote M) w ANotes nNotes cNotes x.fNotes ∧ RS M rInt w ABoxLow nBoxLow cBoxLow x.fBox.fLow ∧ RS M rInt w ABoxHigh nBoxHigh cBoxHigh x.fBox.fHigh := by
 constructor
 ·rintro ⟨_, _, rfl, kAnswer, ⟨_, _, rfl, ⟨rfl, hTotal⟩, ⟨_, _, rfl, ⟨ANotes, nNotes, cNotes, rfl, hNotes⟩, kBox⟩⟩⟩
  obtain ⟨AAnswerVars, nAnswerVars, cAnswerVars, AAnswerRows, nAnswerRows, cAnswerRows, rfl, hAnswerVars, hAnswerRows⟩ := rAnswer_rep.1 kAnswer
  obtain ⟨ABoxLow, nBoxLow, cBoxLow, ABoxHigh, nBoxHigh, cBoxHigh, rfl, hBoxLow, hBoxHigh⟩ := rBox_rep.1 kBox
  exact ⟨AAnswerVars, nAnswerVars, cAnswerVars, AAnswerRows, nAnswerRows, cAnswerRows, ANotes, nNotes, cNotes, ABoxLow, nBoxLow, cBoxLow, ABoxHigh, nBoxHigh, cBoxHigh, rfl, hAnswerVars, hAnswerRows, hTotal, hNotes, hBoxLow, hBoxHigh⟩
 ·rintro ⟨AAnswerVars, nAnswerVars, cAnswerVars, AAnswerRows, nAnswerRows, cAnswerRows, ANotes, nNotes, cNotes, ABoxLow, nBoxLow, cBoxLow, ABoxHigh, nBoxHigh, cBoxHigh, rfl, hAnswerVars, hAnswerRows, hTotal, hNotes, hBoxLow, hBoxHigh⟩
  exact ⟨[.slice AAnswerVars nAnswerVars cAnswerVars, .slice AAnswerRows nAnswerRows cAnswerRows], _, rfl, rAnswer_rep.2 ⟨AAnswerVars, nAnswerVars, cAnswerVars, AAnswerRows, nAnswerRows, cAnswerRows, rfl, hAnswerVars, hAnswerRows⟩, ⟨[.int .i64 x.fTotal], _, rfl, ⟨rfl, hTotal⟩, ⟨[.slice ANotes nNotes cNotes], _, rfl, ⟨ANotes, nNotes, cNotes, rfl, hNotes⟩, rBox_rep.2 ⟨ABoxLow, nBoxLow, cBoxLow, ABoxHigh, nBoxHigh, cBoxHigh, rfl, hBoxLow, hBoxHigh⟩⟩⟩⟩
theorem rOutcome_own {M : Nat} {w : World} {fp : List Nat} {cs : List Value} {x : OutcomeD} : (rOutcome M).own w fp cs x ↔ ∃ AAnswerVars nAnswerVars cAnswerVars AAnswerRows nAnswerRows cAnswerRows ANotes nNotes cNotes ABoxLow nBoxLow cBoxLow ABoxHigh nBoxHigh cBoxHigh fAnswerVars fAnswerRows fNotes fBoxLow fBoxHigh, cs = [.slice AAnswerVars nAnswerVars cAnswerVars, .slice AAnswerRows nAnswerRows cAnswerRows, .int .i64 x.fTotal, .slice ANotes nNotes cNotes, .slice ABoxLow nBoxLow cBoxLow, .slice ABoxHigh nBoxHigh cBoxHigh] ∧ fp = (fAnswerVars ++ (fAnswerRows)) ++ (fNotes ++ ((fBoxLow ++ (fBoxHigh)))) ∧ OS M 3 rInt w fAnswerVars AAnswerVars nAnswerVars cAnswerVars x.fAnswer.fVars ∧ OS M 23 (rSlice M 3 rInt) w fAnswerRows AAnswerRows nAnswerRows cAnswerRows x.fAnswer.fRows ∧ I64 x.fTotal ∧ OS M 76 (rRunNote M) w fNotes ANotes nNotes cNotes x.fNotes ∧ OS M 3 rInt w fBoxLow ABoxLow nBoxLow cBoxLow x.fBox.fLow ∧ OS M 3 rInt w fBoxHigh ABoxHigh nBoxHigh cBoxHigh x.fBox.fHigh := by
 constructor
 ·rintro ⟨_, _, _, _, rfl, rfl, kAnswer, ⟨_, _, _, _, rfl, rfl, ⟨rfl, rfl, hTotal⟩, ⟨fNotes, _, _, _, rfl, rfl, ⟨ANotes, nNotes, cNotes, rfl, hNotes⟩, kBox⟩⟩⟩
  obtain ⟨AAnswerVars, nAnswerVars, cAnswerVars, AAnswerRows, nAnswerRows, cAnswerRows, fAnswerVars, fAnswerRows, rfl, rfl, hAnswerVars, hAnswerRows⟩ := rAnswer_own.1 kAnswer
  obtain ⟨ABoxLow, nBoxLow, cBoxLow, ABoxHigh, nBoxHigh, cBoxHigh, fBoxLow, fBoxHigh, rfl, rfl, hBoxLow, hBoxHigh⟩ := rBox_own.1 kBox
  exact ⟨AAnswerVars, nAnswerVars, cAnswerVars, AAnswerRows, nAnswerRows, cAnswerRows, ANotes, nNotes, cNotes, ABoxLow, nBoxLow, cBoxLow, ABoxHigh, nBoxHigh, cBoxHigh, fAnswerVars, fAnswerRows, fNotes, fBoxLow, fBoxHigh, rfl, rfl, hAnswerVars, hAnswerRows, hTotal, hNotes, hBoxLow, hBoxHigh⟩
 ·rintro ⟨AAnswerVars, nAnswerVars, cAnswerVars, AAnswerRows, nAnswerRows, cAnswerRows, ANotes, nNotes, cNotes, ABoxLow, nBoxLow, cBoxLow, ABoxHigh, nBoxHigh, cBoxHigh, fAnswerVars, fAnswerRows, fNotes, fBoxLow, fBoxHigh, rfl, rfl, hAnswerVars, hAnswerRows, hTotal, hNotes, hBoxLow, hBoxHigh⟩
  exact ⟨(fAnswerVars ++ (fAnswerRows)), _, [.slice AAnswerVars nAnswerVars cAnswerVars, .slice AAnswerRows nAnswerRows cAnswerRows], _, rfl, rfl, rAnswer_own.2 ⟨AAnswerVars, nAnswerVars, cAnswerVars, AAnswerRows, nAnswerRows, cAnswerRows, fAnswerVars, fAnswerRows, rfl, rfl, hAnswerVars, hAnswerRows⟩, ⟨[], _, [.int .i64 x.fTotal], _, rfl, rfl, ⟨rfl, rfl, hTotal⟩, ⟨fNotes, _, [.slice ANotes nNotes cNotes], _, rfl, rfl, ⟨ANotes, nNotes, cNotes, rfl, hNotes⟩, rBox_own.2 ⟨ABoxLow, nBoxLow, cBoxLow, ABoxHigh, nBoxHigh, cBoxHigh, fBoxLow, fBoxHigh, rfl, rfl, hBoxLow, hBoxHigh⟩⟩⟩⟩
theorem zOutcome_own (W : World) : (rOutcome NB).own W [] (Value.cells (.agg #[.slice none 0 0, .slice none 0 0, .int .i64 0, .slice none 0 0, .slice none 0 0, .slice none 0 0])).toList zOutcome := by
 exact rOutcome_own.2 ⟨none, 0, 0, none, 0, 0, none, 0, 0, none, 0, 0, none, 0, 0, [], [], [], [], [], rfl, rfl, ⟨rfl, Nat.zero_le _, [], [], World.ownsRow_nil W 0 _ _, rfl, trivial⟩, ⟨rfl, Nat.zero_le _, [], [], World.ownsRow_nil W 0 _ _, rfl, trivial⟩, I64_zero, ⟨rfl, Nat.zero_le _, [], [], World.ownsRow_nil W 0 _ _, rfl, trivial⟩, ⟨rfl, Nat.zero_le _, [], [], World.ownsRow_nil W 0 _ _, rfl, trivial⟩, ⟨rfl, Nat.zero_le _, [], [], World.ownsRow_nil W 0 _ _, rfl, trivial⟩⟩







end Go.Proofs.YtnbikckbnbgjkaaDoor
