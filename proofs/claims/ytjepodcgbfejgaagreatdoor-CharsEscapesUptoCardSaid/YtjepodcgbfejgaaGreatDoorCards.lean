/-
  DERIVED. GIVEN WITH THE SEED: THE CARDS: each row of YtjepodcgbfejgaaGreatDoorRows.lean that lists a variable, with what it lists TIED to the program's text (the seventh form; the later family's looks); each row that meets fmt, with fmt's text TOLD by the authors' own Lean function (tested against real Go, not proved from fmt's source: count such statements apart). THE CARD IS WHAT COUNTS. Prove the row's statement (the work); the ties are given (YtjepodcgbfejgaaGreatDoorTie.lean); close each card by the builder's one call (the guide's Derived/Test/ToyasCard.lean, 'card_holds'). Laid BY PROGRAM, IN A SANDBOX (cutbox-door.mjs). By AI agents, Wed Nov 11 2026. No macro, syntax, notation, axiom, sorry.
-/
import Derived.Test.YtjepodcgbfejgaaGreatDoorRows
import GoSem.ClaimSeven
namespace Go.Proofs.YtjepodcgbfejgaaGreatDoor
namespace Rows

/-- THE TIED CARD OF 'gridironlaw05.CharsEscapes'. -/
def charsEscapesCard : Claim7 := { stood := { row := charsEscapesRow, standIns := [], harness := (true, "586a0f76db0fcf6b44cdebb392878948da58a570d0dc3f46ec15410c1781aa30"), looks := true }, kinds := [], alts := [], laidByText := true, laidKinds := [.data, .pinned], laidTests := true, laidLooks := .later }
def CharsEscapesCardSaid : Prop := Claim7.holds Tryz.pinned (.plain (OpenSpec.ofChange charsEscapesSpec)) charsEscapesCard

/-- THE SECOND FORM's CARD OF 'gridironlaw05.CharsEscapes'. -/
def charsEscapesUptoCard : Claim7 := { stood := { row := charsEscapesUptoRow, standIns := [], harness := (true, "586a0f76db0fcf6b44cdebb392878948da58a570d0dc3f46ec15410c1781aa30"), looks := true }, kinds := [], alts := [], laidByText := true, laidKinds := [.data, .pinned], laidTests := true, laidLooks := .later }
def CharsEscapesUptoCardSaid : Prop := Claim7.holds Tryz.pinned (.plain (OpenSpec.upto charsEscapesSpec)) charsEscapesUptoCard
end Rows
end Go.Proofs.YtjepodcgbfejgaaGreatDoor
