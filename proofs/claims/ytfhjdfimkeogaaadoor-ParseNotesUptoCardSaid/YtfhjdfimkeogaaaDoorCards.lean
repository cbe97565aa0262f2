/-
  DERIVED. GIVEN WITH THE SEED: THE CARDS: each row of YtfhjdfimkeogaaaDoorRows.lean that lists a variable, with what it lists TIED to the program's text (the seventh form; the later family's looks); each row that meets fmt, with fmt's text TOLD by the authors' own Lean function (tested against real Go, not proved from fmt's source: count such statements apart). THE CARD IS WHAT COUNTS. Prove the row's statement (the work); the ties are given (YtfhjdfimkeogaaaDoorTie.lean); close each card by the builder's one call (the guide's Derived/Test/ToyasCard.lean, 'card_holds'). Laid BY PROGRAM, IN A SANDBOX (cutbox-door.mjs). By AI agents, Wed Nov 11 2026. No macro, syntax, notation, axiom, sorry.
-/
import Derived.Test.YtfhjdfimkeogaaaDoorRows
import GoSem.ClaimSeven
namespace Go.Proofs.YtfhjdfimkeogaaaDoor
namespace Rows

/-- THE TIED CARD OF 'rickyardlaw07.ParseLines'. -/
def parseLinesCard : Claim7 := { stood := { row := parseLinesRow, standIns := [], harness := (true, "ed4c67b6c8b90a173e12283594f8173ea9a23f50b90f64464de600c6b96227f3"), looks := true }, kinds := [], alts := [], laidByText := true, laidKinds := [.data, .data, .data, .data, .sentinel, .sentinel, .pinned], laidTests := true, laidLooks := .later }
def ParseLinesCardSaid : Prop := Claim7.holds Tryd.pinned (.plain (OpenSpec.ofChange parseLinesSpec)) parseLinesCard

/-- THE TIED CARD OF 'rickyardlaw07.ParseWide'. -/
def parseWideCard : Claim7 := { stood := { row := parseWideRow, standIns := [], harness := (true, "ed4c67b6c8b90a173e12283594f8173ea9a23f50b90f64464de600c6b96227f3"), looks := true }, kinds := [], alts := [], laidByText := true, laidKinds := [.data, .data, .data, .data, .sentinel, .sentinel, .pinned], laidTests := true, laidLooks := .later }
def ParseWideCardSaid : Prop := Claim7.holds Tryd.pinned (.plain (OpenSpec.ofChange parseWideSpec)) parseWideCard

/-- THE TIED CARD OF 'rickyardlaw07.ParseCells'. -/
def parseCellsCard : Claim7 := { stood := { row := parseCellsRow, standIns := [], harness := (true, "ed4c67b6c8b90a173e12283594f8173ea9a23f50b90f64464de600c6b96227f3"), looks := true }, kinds := [], alts := [], laidByText := true, laidKinds := [.data, .data, .data, .data, .data, .sentinel, .sentinel, .pinned], laidTests := true, laidLooks := .later }
def ParseCellsCardSaid : Prop := Claim7.holds Tryd.pinned (.plain (OpenSpec.ofChange parseCellsSpec)) parseCellsCard

/-- THE TIED CARD OF 'rickyardlaw07.ParsePrints'. -/
def parsePrintsCard : Claim7 := { stood := { row := parsePrintsRow, standIns := [], harness := (true, "ed4c67b6c8b90a173e12283594f8173ea9a23f50b90f64464de600c6b96227f3"), looks := true }, kinds := [], alts := [], laidByText := true, laidKinds := [.data, .data, .data, .data, .sentinel, .sentinel, .pinned], laidTests := true, laidLooks := .later }
def ParsePrintsCardSaid : Prop := Claim7.holds Tryd.pinned (.plain (OpenSpec.ofChange parsePrintsSpec)) parsePrintsCard

/-- THE TIED CARD OF 'rickyardlaw07.ParseNotes'. -/
def parseNotesCard : Claim7 := { stood := { row := parseNotesRow, standIns := [], harness := (true, "ed4c67b6c8b90a173e12283594f8173ea9a23f50b90f64464de600c6b96227f3"), looks := true }, kinds := [], alts := [], laidByText := true, laidKinds := [.data, .data, .data, .data, .sentinel, .sentinel, .pinned], laidTests := true, laidLooks := .later }
def ParseNotesCardSaid : Prop := Claim7.holds Tryd.pinned (.plain (OpenSpec.ofChange parseNotesSpec)) parseNotesCard

/-- THE SECOND FORM's CARD OF 'rickyardlaw07.ParseLines'. -/
def parseLinesUptoCard : Claim7 := { stood := { row := parseLinesUptoRow, standIns := [], harness := (true, "ed4c67b6c8b90a173e12283594f8173ea9a23f50b90f64464de600c6b96227f3"), looks := true }, kinds := [], alts := [], laidByText := true, laidKinds := [.data, .data, .data, .data, .sentinel, .sentinel, .pinned], laidTests := true, laidLooks := .later }
def ParseLinesUptoCardSaid : Prop := Claim7.holds Tryd.pinned (.plain (OpenSpec.upto parseLinesSpec)) parseLinesUptoCard

/-- THE SECOND FORM's CARD OF 'rickyardlaw07.ParseWide'. -/
def parseWideUptoCard : Claim7 := { stood := { row := parseWideUptoRow, standIns := [], harness := (true, "ed4c67b6c8b90a173e12283594f8173ea9a23f50b90f64464de600c6b96227f3"), looks := true }, kinds := [], alts := [], laidByText := true, laidKinds := [.data, .data, .data, .data, .sentinel, .sentinel, .pinned], laidTests := true, laidLooks := .later }
def ParseWideUptoCardSaid : Prop := Claim7.holds Tryd.pinned (.plain (OpenSpec.upto parseWideSpec)) parseWideUptoCard

/-- THE SECOND FORM's CARD OF 'rickyardlaw07.ParseCells'. -/
def parseCellsUptoCard : Claim7 := { stood := { row := parseCellsUptoRow, standIns := [], harness := (true, "ed4c67b6c8b90a173e12283594f8173ea9a23f50b90f64464de600c6b96227f3"), looks := true }, kinds := [], alts := [], laidByText := true, laidKinds := [.data, .data, .data, .data, .data, .sentinel, .sentinel, .pinned], laidTests := true, laidLooks := .later }
def ParseCellsUptoCardSaid : Prop := Claim7.holds Tryd.pinned (.plain (OpenSpec.upto parseCellsSpec)) parseCellsUptoCard

/-- THE SECOND FORM's CARD OF 'rickyardlaw07.ParsePrints'. -/
def parsePrintsUptoCard : Claim7 := { stood := { row := parsePrintsUptoRow, standIns := [], harness := (true, "ed4c67b6c8b90a173e12283594f8173ea9a23f50b90f64464de600c6b96227f3"), looks := true }, kinds := [], alts := [], laidByText := true, laidKinds := [.data, .data, .data, .data, .sentinel, .sentinel, .pinned], laidTests := true, laidLooks := .later }
def ParsePrintsUptoCardSaid : Prop := Claim7.holds Tryd.pinned (.plain (OpenSpec.upto parsePrintsSpec)) parsePrintsUptoCard

/-- THE SECOND FORM's CARD OF 'rickyardlaw07.ParseNotes'. -/
def parseNotesUptoCard : Claim7 := { stood := { row := parseNotesUptoRow, standIns := [], harness := (true, "ed4c67b6c8b90a173e12283594f8173ea9a23f50b90f64464de600c6b96227f3"), looks := true }, kinds := [], alts := [], laidByText := true, laidKinds := [.data, .data, .data, .data, .sentinel, .sentinel, .pinned], laidTests := true, laidLooks := .later }
def ParseNotesUptoCardSaid : Prop := Claim7.holds Tryd.pinned (.plain (OpenSpec.upto parseNotesSpec)) parseNotesUptoCard
end Rows
end Go.Proofs.YtfhjdfimkeogaaaDoor
