/-
  DERIVED. GIVEN WITH THE SEED: THE CARDS: each row of YtjbcdfbgbocblaaDoorRows.lean that lists a variable, with what it lists TIED to the program's text (the seventh form; the later family's looks); each row that meets fmt, with fmt's text TOLD by the authors' own Lean function (tested against real Go, not proved from fmt's source: count such statements apart). THE CARD IS WHAT COUNTS. Prove the row's statement (the work); the ties are given (YtjbcdfbgbocblaaDoorTie.lean); close each card by the builder's one call (the guide's Derived/Test/ToyasCard.lean, 'card_holds'). Laid BY PROGRAM, IN A SANDBOX (cutbox-door.mjs). By AI agents, Wed Nov 11 2026. No macro, syntax, notation, axiom, sorry.
-/
import Derived.Test.YtjbcdfbgbocblaaDoorRows
import GoSem.ClaimSeven
namespace Go.Proofs.YtjbcdfbgbocblaaDoor
namespace Rows

/-- THE TIED CARD OF 'gridironlaw11.RefsColumns'. -/
def refsColumnsCard : Claim7 := { stood := { row := refsColumnsRow, standIns := [], harness := (true, "1c4f5df6c8642c67a573258bbef737cbce2e910f5b9bd0a879beebff3ba2cdbb"), looks := true }, kinds := [], alts := [], laidByText := true, laidKinds := [.data, .data, .data, .data, .sentinel, .sentinel, .pinned], laidTests := true, laidLooks := .later }
def RefsColumnsCardSaid : Prop := Claim7.holds Tryd.pinned (.plain (OpenSpec.ofChange refsColumnsSpec)) refsColumnsCard

/-- THE TIED CARD OF 'gridironlaw11.RefsCommon'. -/
def refsCommonCard : Claim7 := { stood := { row := refsCommonRow, standIns := [], harness := (true, "1c4f5df6c8642c67a573258bbef737cbce2e910f5b9bd0a879beebff3ba2cdbb"), looks := true }, kinds := [], alts := [], laidByText := true, laidKinds := [.data, .data, .data, .data, .sentinel, .sentinel, .pinned], laidTests := true, laidLooks := .later }
def RefsCommonCardSaid : Prop := Claim7.holds Tryd.pinned (.plain (OpenSpec.ofChange refsCommonSpec)) refsCommonCard

/-- THE TIED CARD OF 'gridironlaw11.RefsTexts'. -/
def refsTextsCard : Claim7 := { stood := { row := refsTextsRow, standIns := [], harness := (true, "1c4f5df6c8642c67a573258bbef737cbce2e910f5b9bd0a879beebff3ba2cdbb"), looks := true }, kinds := [], alts := [], laidByText := true, laidKinds := [.data, .data, .data, .data, .sentinel, .sentinel, .pinned], laidTests := true, laidLooks := .later }
def RefsTextsCardSaid : Prop := Claim7.holds Tryd.pinned (.plain (OpenSpec.ofChange refsTextsSpec)) refsTextsCard

/-- THE TIED CARD OF 'gridironlaw11.RefsAreas'. -/
def refsAreasCard : Claim7 := { stood := { row := refsAreasRow, standIns := [], harness := (true, "1c4f5df6c8642c67a573258bbef737cbce2e910f5b9bd0a879beebff3ba2cdbb"), looks := true }, kinds := [], alts := [], laidByText := true, laidKinds := [.data, .data, .data, .data, .sentinel, .sentinel, .pinned], laidTests := true, laidLooks := .later }
def RefsAreasCardSaid : Prop := Claim7.holds Tryd.pinned (.plain (OpenSpec.ofChange refsAreasSpec)) refsAreasCard

/-- THE TIED CARD OF 'gridironlaw11.RefsBack'. -/
def refsBackCard : Claim7 := { stood := { row := refsBackRow, standIns := [], harness := (true, "1c4f5df6c8642c67a573258bbef737cbce2e910f5b9bd0a879beebff3ba2cdbb"), looks := true }, kinds := [], alts := [], laidByText := true, laidKinds := [.data, .data, .data, .data, .sentinel, .sentinel, .pinned], laidTests := true, laidLooks := .later }
def RefsBackCardSaid : Prop := Claim7.holds Tryd.pinned (.plain (OpenSpec.ofChange refsBackSpec)) refsBackCard

/-- THE SECOND FORM's CARD OF 'gridironlaw11.RefsColumns'. -/
def refsColumnsUptoCard : Claim7 := { stood := { row := refsColumnsUptoRow, standIns := [], harness := (true, "1c4f5df6c8642c67a573258bbef737cbce2e910f5b9bd0a879beebff3ba2cdbb"), looks := true }, kinds := [], alts := [], laidByText := true, laidKinds := [.data, .data, .data, .data, .sentinel, .sentinel, .pinned], laidTests := true, laidLooks := .later }
def RefsColumnsUptoCardSaid : Prop := Claim7.holds Tryd.pinned (.plain (OpenSpec.upto refsColumnsSpec)) refsColumnsUptoCard

/-- THE SECOND FORM's CARD OF 'gridironlaw11.RefsCommon'. -/
def refsCommonUptoCard : Claim7 := { stood := { row := refsCommonUptoRow, standIns := [], harness := (true, "1c4f5df6c8642c67a573258bbef737cbce2e910f5b9bd0a879beebff3ba2cdbb"), looks := true }, kinds := [], alts := [], laidByText := true, laidKinds := [.data, .data, .data, .data, .sentinel, .sentinel, .pinned], laidTests := true, laidLooks := .later }
def RefsCommonUptoCardSaid : Prop := Claim7.holds Tryd.pinned (.plain (OpenSpec.upto refsCommonSpec)) refsCommonUptoCard

/-- THE SECOND FORM's CARD OF 'gridironlaw11.RefsTexts'. -/
def refsTextsUptoCard : Claim7 := { stood := { row := refsTextsUptoRow, standIns := [], harness := (true, "1c4f5df6c8642c67a573258bbef737cbce2e910f5b9bd0a879beebff3ba2cdbb"), looks := true }, kinds := [], alts := [], laidByText := true, laidKinds := [.data, .data, .data, .data, .sentinel, .sentinel, .pinned], laidTests := true, laidLooks := .later }
def RefsTextsUptoCardSaid : Prop := Claim7.holds Tryd.pinned (.plain (OpenSpec.upto refsTextsSpec)) refsTextsUptoCard

/-- THE SECOND FORM's CARD OF 'gridironlaw11.RefsAreas'. -/
def refsAreasUptoCard : Claim7 := { stood := { row := refsAreasUptoRow, standIns := [], harness := (true, "1c4f5df6c8642c67a573258bbef737cbce2e910f5b9bd0a879beebff3ba2cdbb"), looks := true }, kinds := [], alts := [], laidByText := true, laidKinds := [.data, .data, .data, .data, .sentinel, .sentinel, .pinned], laidTests := true, laidLooks := .later }
def RefsAreasUptoCardSaid : Prop := Claim7.holds Tryd.pinned (.plain (OpenSpec.upto refsAreasSpec)) refsAreasUptoCard

/-- THE SECOND FORM's CARD OF 'gridironlaw11.RefsBack'. -/
def refsBackUptoCard : Claim7 := { stood := { row := refsBackUptoRow, standIns := [], harness := (true, "1c4f5df6c8642c67a573258bbef737cbce2e910f5b9bd0a879beebff3ba2cdbb"), looks := true }, kinds := [], alts := [], laidByText := true, laidKinds := [.data, .data, .data, .data, .sentinel, .sentinel, .pinned], laidTests := true, laidLooks := .later }
def RefsBackUptoCardSaid : Prop := Claim7.holds Tryd.pinned (.plain (OpenSpec.upto refsBackSpec)) refsBackUptoCard
end Rows
end Go.Proofs.YtjbcdfbgbocblaaDoor
