/-
  DERIVED. GIVEN WITH THE SEED: THE CARDS: each row of YtfkoiebnpgodmaaDoorRows.lean that lists a variable, with what it lists TIED to the program's text (the seventh form; the later family's looks); each row that meets fmt, with fmt's text TOLD by the authors' own Lean function (tested against real Go, not proved from fmt's source: count such statements apart). THE CARD IS WHAT COUNTS. Prove the row's statement (the work); the ties are given (YtfkoiebnpgodmaaDoorTie.lean); close each card by the builder's one call (the guide's Derived/Test/ToyasCard.lean, 'card_holds'). Laid BY PROGRAM, IN A SANDBOX (cutbox-door.mjs). By AI agents, Wed Nov 11 2026. No macro, syntax, notation, axiom, sorry.
-/
import Derived.Test.YtfkoiebnpgodmaaDoorRows
import GoSem.ClaimSeven
namespace Go.Proofs.YtfkoiebnpgodmaaDoor
namespace Rows

/-- THE TIED CARD OF 'gridironlaw15.ShiftCells'. -/
def shiftCellsCard : Claim7 := { stood := { row := shiftCellsRow, standIns := [], harness := (true, "e33bcea458ea9686837f18284d7f61e1eb66538cd7a0dba75a227604c044e2f6"), looks := false }, kinds := [], alts := [], laidByText := true, laidKinds := [.data, .pinned], laidTests := true, laidLooks := .later }
def ShiftCellsCardSaid : Prop := Claim7.holds Tryd.pinned (.plain (OpenSpec.ofChange shiftCellsSpec)) shiftCellsCard

/-- THE TIED CARD OF 'gridironlaw15.ShiftOrder'. -/
def shiftOrderCard : Claim7 := { stood := { row := shiftOrderRow, standIns := [], harness := (true, "e33bcea458ea9686837f18284d7f61e1eb66538cd7a0dba75a227604c044e2f6"), looks := false }, kinds := [], alts := [], laidByText := true, laidKinds := [.data, .pinned], laidTests := true, laidLooks := .later }
def ShiftOrderCardSaid : Prop := Claim7.holds Tryd.pinned (.plain (OpenSpec.ofChange shiftOrderSpec)) shiftOrderCard

/-- THE TIED CARD OF 'gridironlaw15.ShiftBack'. -/
def shiftBackCard : Claim7 := { stood := { row := shiftBackRow, standIns := [], harness := (true, "e33bcea458ea9686837f18284d7f61e1eb66538cd7a0dba75a227604c044e2f6"), looks := false }, kinds := [], alts := [], laidByText := true, laidKinds := [.data, .pinned], laidTests := true, laidLooks := .later }
def ShiftBackCardSaid : Prop := Claim7.holds Tryd.pinned (.plain (OpenSpec.ofChange shiftBackSpec)) shiftBackCard

/-- THE TIED CARD OF 'gridironlaw15.ShiftSheets'. -/
def shiftSheetsCard : Claim7 := { stood := { row := shiftSheetsRow, standIns := [], harness := (true, "e33bcea458ea9686837f18284d7f61e1eb66538cd7a0dba75a227604c044e2f6"), looks := false }, kinds := [], alts := [], laidByText := true, laidKinds := [.data, .pinned], laidTests := true, laidLooks := .later }
def ShiftSheetsCardSaid : Prop := Claim7.holds Tryd.pinned (.plain (OpenSpec.ofChange shiftSheetsSpec)) shiftSheetsCard

/-- THE TIED CARD OF 'gridironlaw15.ShiftOwn'. -/
def shiftOwnCard : Claim7 := { stood := { row := shiftOwnRow, standIns := [], harness := (true, "e33bcea458ea9686837f18284d7f61e1eb66538cd7a0dba75a227604c044e2f6"), looks := false }, kinds := [], alts := [], laidByText := true, laidKinds := [.data, .pinned], laidTests := true, laidLooks := .later }
def ShiftOwnCardSaid : Prop := Claim7.holds Tryd.pinned (.plain (OpenSpec.ofChange shiftOwnSpec)) shiftOwnCard

/-- THE SECOND FORM's CARD OF 'gridironlaw15.ShiftCells'. -/
def shiftCellsUptoCard : Claim7 := { stood := { row := shiftCellsUptoRow, standIns := [], harness := (true, "e33bcea458ea9686837f18284d7f61e1eb66538cd7a0dba75a227604c044e2f6"), looks := false }, kinds := [], alts := [], laidByText := true, laidKinds := [.data, .pinned], laidTests := true, laidLooks := .later }
def ShiftCellsUptoCardSaid : Prop := Claim7.holds Tryd.pinned (.plain (OpenSpec.upto shiftCellsSpec)) shiftCellsUptoCard

/-- THE SECOND FORM's CARD OF 'gridironlaw15.ShiftOrder'. -/
def shiftOrderUptoCard : Claim7 := { stood := { row := shiftOrderUptoRow, standIns := [], harness := (true, "e33bcea458ea9686837f18284d7f61e1eb66538cd7a0dba75a227604c044e2f6"), looks := false }, kinds := [], alts := [], laidByText := true, laidKinds := [.data, .pinned], laidTests := true, laidLooks := .later }
def ShiftOrderUptoCardSaid : Prop := Claim7.holds Tryd.pinned (.plain (OpenSpec.upto shiftOrderSpec)) shiftOrderUptoCard

/-- THE SECOND FORM's CARD OF 'gridironlaw15.ShiftBack'. -/
def shiftBackUptoCard : Claim7 := { stood := { row := shiftBackUptoRow, standIns := [], harness := (true, "e33bcea458ea9686837f18284d7f61e1eb66538cd7a0dba75a227604c044e2f6"), looks := false }, kinds := [], alts := [], laidByText := true, laidKinds := [.data, .pinned], laidTests := true, laidLooks := .later }
def ShiftBackUptoCardSaid : Prop := Claim7.holds Tryd.pinned (.plain (OpenSpec.upto shiftBackSpec)) shiftBackUptoCard

/-- THE SECOND FORM's CARD OF 'gridironlaw15.ShiftSheets'. -/
def shiftSheetsUptoCard : Claim7 := { stood := { row := shiftSheetsUptoRow, standIns := [], harness := (true, "e33bcea458ea9686837f18284d7f61e1eb66538cd7a0dba75a227604c044e2f6"), looks := false }, kinds := [], alts := [], laidByText := true, laidKinds := [.data, .pinned], laidTests := true, laidLooks := .later }
def ShiftSheetsUptoCardSaid : Prop := Claim7.holds Tryd.pinned (.plain (OpenSpec.upto shiftSheetsSpec)) shiftSheetsUptoCard

/-- THE SECOND FORM's CARD OF 'gridironlaw15.ShiftOwn'. -/
def shiftOwnUptoCard : Claim7 := { stood := { row := shiftOwnUptoRow, standIns := [], harness := (true, "e33bcea458ea9686837f18284d7f61e1eb66538cd7a0dba75a227604c044e2f6"), looks := false }, kinds := [], alts := [], laidByText := true, laidKinds := [.data, .pinned], laidTests := true, laidLooks := .later }
def ShiftOwnUptoCardSaid : Prop := Claim7.holds Tryd.pinned (.plain (OpenSpec.upto shiftOwnSpec)) shiftOwnUptoCard
end Rows
end Go.Proofs.YtfkoiebnpgodmaaDoor
