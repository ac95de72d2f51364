/-
  DERIVED. GIVEN WITH THE SEED: THE CARDS: each row of YtnbikckbnbgjkaaDoorRows.lean that lists a variable, with what it lists TIED to the program's text (the seventh form; the later family's looks); each row that meets fmt, with fmt's text TOLD by the authors' own Lean function (tested against real Go, not proved from fmt's source: count such statements apart). THE CARD IS WHAT COUNTS. Prove the row's statement (the work); the ties are given (YtnbikckbnbgjkaaDoorTie.lean); close each card by the builder's one call (the guide's Derived/Test/ToyasCard.lean, 'card_holds'). Laid BY PROGRAM, IN A SANDBOX (cutbox-door.mjs). By AI agents, Wed Nov 11 2026. No macro, syntax, notation, axiom, sorry.
-/
import Derived.Test.YtnbikckbnbgjkaaDoorRows
import GoSem.ClaimSeven
namespace Go.Proofs.YtnbikckbnbgjkaaDoor
namespace Rows

/-- THE TIED CARD OF 'laws.FnExactFormatRun'. -/
def fnExactFormatRunCard : Claim7 := { stood := { row := fnExactFormatRunRow, standIns := [], harness := (true, "d47f173eefa879b977a28177712061747c6e47ee974388c1bfd789c810837191"), looks := false }, kinds := [], alts := [], laidByText := true, laidKinds := [.data, .data, .data], laidTests := true, laidLooks := .later }
def FnExactFormatRunCardSaid : Prop := Claim7.holds Tryd.pinned (.plain (OpenSpec.ofChange fnExactFormatRunSpec)) fnExactFormatRunCard

/-- THE TIED CARD OF 'laws.FnExactFormatOutcome'. -/
def fnExactFormatOutcomeCard : Claim7 := { stood := { row := fnExactFormatOutcomeRow, standIns := [], harness := (true, "d47f173eefa879b977a28177712061747c6e47ee974388c1bfd789c810837191"), looks := false }, kinds := [], alts := [], laidByText := true, laidKinds := [.data, .data, .data], laidTests := true, laidLooks := .later }
def FnExactFormatOutcomeCardSaid : Prop := Claim7.holds Tryd.pinned (.plain (OpenSpec.ofChange fnExactFormatOutcomeSpec)) fnExactFormatOutcomeCard

/-- THE TIED CARD OF 'laws.FnExactFormatBouquet'. -/
def fnExactFormatBouquetCard : Claim7 := { stood := { row := fnExactFormatBouquetRow, standIns := [], harness := (true, "d47f173eefa879b977a28177712061747c6e47ee974388c1bfd789c810837191"), looks := false }, kinds := [], alts := [], laidByText := true, laidKinds := [.data, .data, .data], laidTests := true, laidLooks := .later }
def FnExactFormatBouquetCardSaid : Prop := Claim7.holds Tryd.pinned (.plain (OpenSpec.ofChange fnExactFormatBouquetSpec)) fnExactFormatBouquetCard

/-- THE SECOND FORM's CARD OF 'laws.FnExactFormatRun'. -/
def fnExactFormatRunUptoCard : Claim7 := { stood := { row := fnExactFormatRunUptoRow, standIns := [], harness := (true, "d47f173eefa879b977a28177712061747c6e47ee974388c1bfd789c810837191"), looks := false }, kinds := [], alts := [], laidByText := true, laidKinds := [.data, .data, .data], laidTests := true, laidLooks := .later }
def FnExactFormatRunUptoCardSaid : Prop := Claim7.holds Tryd.pinned (.plain (OpenSpec.upto fnExactFormatRunSpec)) fnExactFormatRunUptoCard

/-- THE SECOND FORM's CARD OF 'laws.FnExactFormatOutcome'. -/
def fnExactFormatOutcomeUptoCard : Claim7 := { stood := { row := fnExactFormatOutcomeUptoRow, standIns := [], harness := (true, "d47f173eefa879b977a28177712061747c6e47ee974388c1bfd789c810837191"), looks := false }, kinds := [], alts := [], laidByText := true, laidKinds := [.data, .data, .data], laidTests := true, laidLooks := .later }
def FnExactFormatOutcomeUptoCardSaid : Prop := Claim7.holds Tryd.pinned (.plain (OpenSpec.upto fnExactFormatOutcomeSpec)) fnExactFormatOutcomeUptoCard

/-- THE SECOND FORM's CARD OF 'laws.FnExactFormatBouquet'. -/
def fnExactFormatBouquetUptoCard : Claim7 := { stood := { row := fnExactFormatBouquetUptoRow, standIns := [], harness := (true, "d47f173eefa879b977a28177712061747c6e47ee974388c1bfd789c810837191"), looks := false }, kinds := [], alts := [], laidByText := true, laidKinds := [.data, .data, .data], laidTests := true, laidLooks := .later }
def FnExactFormatBouquetUptoCardSaid : Prop := Claim7.holds Tryd.pinned (.plain (OpenSpec.upto fnExactFormatBouquetSpec)) fnExactFormatBouquetUptoCard
end Rows
end Go.Proofs.YtnbikckbnbgjkaaDoor
