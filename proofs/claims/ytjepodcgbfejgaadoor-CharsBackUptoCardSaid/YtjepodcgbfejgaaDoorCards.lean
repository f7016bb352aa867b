/-
  DERIVED. GIVEN WITH THE SEED: THE CARDS: each row of YtjepodcgbfejgaaDoorRows.lean that lists a variable, with what it lists TIED to the program's text (the seventh form; the later family's looks); each row that meets fmt, with fmt's text TOLD by the authors' own Lean function (tested against real Go, not proved from fmt's source: count such statements apart). THE CARD IS WHAT COUNTS. Prove the row's statement (the work); the ties are given (YtjepodcgbfejgaaDoorTie.lean); close each card by the builder's one call (the guide's Derived/Test/ToyasCard.lean, 'card_holds'). Laid BY PROGRAM, IN A SANDBOX (cutbox-door.mjs). By AI agents, Wed Nov 11 2026. No macro, syntax, notation, axiom, sorry.
-/
import Derived.Test.YtjepodcgbfejgaaDoorRows
import GoSem.ClaimSeven
namespace Go.Proofs.YtjepodcgbfejgaaDoor
namespace Rows

/-- THE TIED CARD OF 'gridironlaw05.CharsKinds'. -/
def charsKindsCard : Claim7 := { stood := { row := charsKindsRow, standIns := [], harness := (true, "24f83962b8d6b828856599f357c47d653da2a3710d0d9824fff94b911d01236e"), looks := true }, kinds := [], alts := [], laidByText := true, laidKinds := [.data, .pinned], laidTests := true, laidLooks := .later }
def CharsKindsCardSaid : Prop := Claim7.holds Tryd.pinned (.plain (OpenSpec.ofChange charsKindsSpec)) charsKindsCard

/-- THE TIED CARD OF 'gridironlaw05.CharsRunes'. -/
def charsRunesCard : Claim7 := { stood := { row := charsRunesRow, standIns := [], harness := (true, "24f83962b8d6b828856599f357c47d653da2a3710d0d9824fff94b911d01236e"), looks := true }, kinds := [], alts := [], laidByText := true, laidKinds := [.data, .pinned], laidTests := true, laidLooks := .later }
def CharsRunesCardSaid : Prop := Claim7.holds Tryd.pinned (.plain (OpenSpec.ofChange charsRunesSpec)) charsRunesCard

/-- THE TIED CARD OF 'gridironlaw05.CharsNames'. -/
def charsNamesCard : Claim7 := { stood := { row := charsNamesRow, standIns := [], harness := (true, "24f83962b8d6b828856599f357c47d653da2a3710d0d9824fff94b911d01236e"), looks := true }, kinds := [], alts := [], laidByText := true, laidKinds := [.data, .pinned], laidTests := true, laidLooks := .later }
def CharsNamesCardSaid : Prop := Claim7.holds Tryd.pinned (.plain (OpenSpec.ofChange charsNamesSpec)) charsNamesCard

/-- THE TIED CARD OF 'gridironlaw05.CharsParts'. -/
def charsPartsCard : Claim7 := { stood := { row := charsPartsRow, standIns := [], harness := (true, "24f83962b8d6b828856599f357c47d653da2a3710d0d9824fff94b911d01236e"), looks := true }, kinds := [], alts := [], laidByText := true, laidKinds := [.data, .pinned], laidTests := true, laidLooks := .later }
def CharsPartsCardSaid : Prop := Claim7.holds Tryd.pinned (.plain (OpenSpec.ofChange charsPartsSpec)) charsPartsCard

/-- THE TIED CARD OF 'gridironlaw05.CharsCuts'. -/
def charsCutsCard : Claim7 := { stood := { row := charsCutsRow, standIns := [], harness := (true, "24f83962b8d6b828856599f357c47d653da2a3710d0d9824fff94b911d01236e"), looks := true }, kinds := [], alts := [], laidByText := true, laidKinds := [.data, .pinned], laidTests := true, laidLooks := .later }
def CharsCutsCardSaid : Prop := Claim7.holds Tryd.pinned (.plain (OpenSpec.ofChange charsCutsSpec)) charsCutsCard

/-- THE TIED CARD OF 'gridironlaw05.CharsBack'. -/
def charsBackCard : Claim7 := { stood := { row := charsBackRow, standIns := [], harness := (true, "24f83962b8d6b828856599f357c47d653da2a3710d0d9824fff94b911d01236e"), looks := true }, kinds := [], alts := [], laidByText := true, laidKinds := [.data, .pinned], laidTests := true, laidLooks := .later }
def CharsBackCardSaid : Prop := Claim7.holds Tryd.pinned (.plain (OpenSpec.ofChange charsBackSpec)) charsBackCard

/-- THE SECOND FORM's CARD OF 'gridironlaw05.CharsKinds'. -/
def charsKindsUptoCard : Claim7 := { stood := { row := charsKindsUptoRow, standIns := [], harness := (true, "24f83962b8d6b828856599f357c47d653da2a3710d0d9824fff94b911d01236e"), looks := true }, kinds := [], alts := [], laidByText := true, laidKinds := [.data, .pinned], laidTests := true, laidLooks := .later }
def CharsKindsUptoCardSaid : Prop := Claim7.holds Tryd.pinned (.plain (OpenSpec.upto charsKindsSpec)) charsKindsUptoCard

/-- THE SECOND FORM's CARD OF 'gridironlaw05.CharsRunes'. -/
def charsRunesUptoCard : Claim7 := { stood := { row := charsRunesUptoRow, standIns := [], harness := (true, "24f83962b8d6b828856599f357c47d653da2a3710d0d9824fff94b911d01236e"), looks := true }, kinds := [], alts := [], laidByText := true, laidKinds := [.data, .pinned], laidTests := true, laidLooks := .later }
def CharsRunesUptoCardSaid : Prop := Claim7.holds Tryd.pinned (.plain (OpenSpec.upto charsRunesSpec)) charsRunesUptoCard

/-- THE SECOND FORM's CARD OF 'gridironlaw05.CharsNames'. -/
def charsNamesUptoCard : Claim7 := { stood := { row := charsNamesUptoRow, standIns := [], harness := (true, "24f83962b8d6b828856599f357c47d653da2a3710d0d9824fff94b911d01236e"), looks := true }, kinds := [], alts := [], laidByText := true, laidKinds := [.data, .pinned], laidTests := true, laidLooks := .later }
def CharsNamesUptoCardSaid : Prop := Claim7.holds Tryd.pinned (.plain (OpenSpec.upto charsNamesSpec)) charsNamesUptoCard

/-- THE SECOND FORM's CARD OF 'gridironlaw05.CharsParts'. -/
def charsPartsUptoCard : Claim7 := { stood := { row := charsPartsUptoRow, standIns := [], harness := (true, "24f83962b8d6b828856599f357c47d653da2a3710d0d9824fff94b911d01236e"), looks := true }, kinds := [], alts := [], laidByText := true, laidKinds := [.data, .pinned], laidTests := true, laidLooks := .later }
def CharsPartsUptoCardSaid : Prop := Claim7.holds Tryd.pinned (.plain (OpenSpec.upto charsPartsSpec)) charsPartsUptoCard

/-- THE SECOND FORM's CARD OF 'gridironlaw05.CharsCuts'. -/
def charsCutsUptoCard : Claim7 := { stood := { row := charsCutsUptoRow, standIns := [], harness := (true, "24f83962b8d6b828856599f357c47d653da2a3710d0d9824fff94b911d01236e"), looks := true }, kinds := [], alts := [], laidByText := true, laidKinds := [.data, .pinned], laidTests := true, laidLooks := .later }
def CharsCutsUptoCardSaid : Prop := Claim7.holds Tryd.pinned (.plain (OpenSpec.upto charsCutsSpec)) charsCutsUptoCard

/-- THE SECOND FORM's CARD OF 'gridironlaw05.CharsBack'. -/
def charsBackUptoCard : Claim7 := { stood := { row := charsBackUptoRow, standIns := [], harness := (true, "24f83962b8d6b828856599f357c47d653da2a3710d0d9824fff94b911d01236e"), looks := true }, kinds := [], alts := [], laidByText := true, laidKinds := [.data, .pinned], laidTests := true, laidLooks := .later }
def CharsBackUptoCardSaid : Prop := Claim7.holds Tryd.pinned (.plain (OpenSpec.upto charsBackSpec)) charsBackUptoCard
end Rows
end Go.Proofs.YtjepodcgbfejgaaDoor
