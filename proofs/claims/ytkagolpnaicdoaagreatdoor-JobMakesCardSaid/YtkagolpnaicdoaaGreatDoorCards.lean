/-
  DERIVED. GIVEN WITH THE SEED: THE CARDS: each row of YtkagolpnaicdoaaGreatDoorRows.lean that lists a variable, with what it lists TIED to the program's text (the seventh form; the later family's looks); each row that meets fmt, with fmt's text TOLD by the authors' own Lean function (tested against real Go, not proved from fmt's source: count such statements apart). THE CARD IS WHAT COUNTS. Prove the row's statement (the work); the ties are given (YtkagolpnaicdoaaGreatDoorTie.lean); close each card by the builder's one call (the guide's Derived/Test/ToyasCard.lean, 'card_holds'). Laid BY PROGRAM, IN A SANDBOX (cutbox-door.mjs). By AI agents, Wed Nov 11 2026. No macro, syntax, notation, axiom, sorry.
-/
import Derived.Test.YtkagolpnaicdoaaGreatDoorRows
import GoSem.ClaimSeven
namespace Go.Proofs.YtkagolpnaicdoaaGreatDoor
namespace Rows

/-- THE TIED CARD OF 'rickyardlaw20.JobMakes'. -/
def jobMakesCard : Claim7 := { stood := { row := jobMakesRow, standIns := [], harness := (true, "8e2a76292aa8715114b209829b4b1351a16cd957e7b4d53d5c8902254ba66590"), looks := true }, kinds := [], alts := [], laidByText := true, laidKinds := [.data, .data, .data, .data, .data, .sentinel, .sentinel, .pinned], laidTests := true, laidLooks := .later }
def JobMakesCardSaid : Prop := Claim7.holds Tryz.pinned (.plain (OpenSpec.ofChange jobMakesSpec)) jobMakesCard

/-- THE TIED CARD OF 'rickyardlaw20.JobBytes'. -/
def jobBytesCard : Claim7 := { stood := { row := jobBytesRow, standIns := [], harness := (true, "8e2a76292aa8715114b209829b4b1351a16cd957e7b4d53d5c8902254ba66590"), looks := true }, kinds := [], alts := [], laidByText := true, laidKinds := [.data, .data, .data, .data, .data, .sentinel, .sentinel, .pinned], laidTests := true, laidLooks := .later }
def JobBytesCardSaid : Prop := Claim7.holds Tryz.pinned (.plain (OpenSpec.ofChange jobBytesSpec)) jobBytesCard

/-- THE TIED CARD OF 'rickyardlaw20.JobOver'. -/
def jobOverCard : Claim7 := { stood := { row := jobOverRow, standIns := [], harness := (true, "8e2a76292aa8715114b209829b4b1351a16cd957e7b4d53d5c8902254ba66590"), looks := true }, kinds := [], alts := [], laidByText := true, laidKinds := [.data, .data, .data, .data, .data, .sentinel, .sentinel, .pinned], laidTests := true, laidLooks := .later }
def JobOverCardSaid : Prop := Claim7.holds Tryz.pinned (.plain (OpenSpec.ofChange jobOverSpec)) jobOverCard

/-- THE TIED CARD OF 'rickyardlaw20.JobNames'. -/
def jobNamesCard : Claim7 := { stood := { row := jobNamesRow, standIns := [], harness := (true, "8e2a76292aa8715114b209829b4b1351a16cd957e7b4d53d5c8902254ba66590"), looks := true }, kinds := [], alts := [], laidByText := true, laidKinds := [.data, .data, .data, .data, .data, .sentinel, .sentinel, .pinned], laidTests := true, laidLooks := .later }
def JobNamesCardSaid : Prop := Claim7.holds Tryz.pinned (.plain (OpenSpec.ofChange jobNamesSpec)) jobNamesCard

/-- THE TIED CARD OF 'rickyardlaw20.JobActs'. -/
def jobActsCard : Claim7 := { stood := { row := jobActsRow, standIns := [], harness := (true, "8e2a76292aa8715114b209829b4b1351a16cd957e7b4d53d5c8902254ba66590"), looks := true }, kinds := [], alts := [], laidByText := true, laidKinds := [.data, .data, .data, .data, .data, .sentinel, .sentinel, .pinned], laidTests := true, laidLooks := .later }
def JobActsCardSaid : Prop := Claim7.holds Tryz.pinned (.plain (OpenSpec.ofChange jobActsSpec)) jobActsCard

/-- THE TIED CARD OF 'rickyardlaw20.JobWhole'. -/
def jobWholeCard : Claim7 := { stood := { row := jobWholeRow, standIns := [], harness := (true, "8e2a76292aa8715114b209829b4b1351a16cd957e7b4d53d5c8902254ba66590"), looks := true }, kinds := [], alts := [], laidByText := true, laidKinds := [.data, .data, .data, .data, .data, .sentinel, .sentinel, .pinned], laidTests := true, laidLooks := .later }
def JobWholeCardSaid : Prop := Claim7.holds Tryz.pinned (.plain (OpenSpec.ofChange jobWholeSpec)) jobWholeCard

/-- THE SECOND FORM's CARD OF 'rickyardlaw20.JobMakes'. -/
def jobMakesUptoCard : Claim7 := { stood := { row := jobMakesUptoRow, standIns := [], harness := (true, "8e2a76292aa8715114b209829b4b1351a16cd957e7b4d53d5c8902254ba66590"), looks := true }, kinds := [], alts := [], laidByText := true, laidKinds := [.data, .data, .data, .data, .data, .sentinel, .sentinel, .pinned], laidTests := true, laidLooks := .later }
def JobMakesUptoCardSaid : Prop := Claim7.holds Tryz.pinned (.plain (OpenSpec.upto jobMakesSpec)) jobMakesUptoCard

/-- THE SECOND FORM's CARD OF 'rickyardlaw20.JobBytes'. -/
def jobBytesUptoCard : Claim7 := { stood := { row := jobBytesUptoRow, standIns := [], harness := (true, "8e2a76292aa8715114b209829b4b1351a16cd957e7b4d53d5c8902254ba66590"), looks := true }, kinds := [], alts := [], laidByText := true, laidKinds := [.data, .data, .data, .data, .data, .sentinel, .sentinel, .pinned], laidTests := true, laidLooks := .later }
def JobBytesUptoCardSaid : Prop := Claim7.holds Tryz.pinned (.plain (OpenSpec.upto jobBytesSpec)) jobBytesUptoCard

/-- THE SECOND FORM's CARD OF 'rickyardlaw20.JobOver'. -/
def jobOverUptoCard : Claim7 := { stood := { row := jobOverUptoRow, standIns := [], harness := (true, "8e2a76292aa8715114b209829b4b1351a16cd957e7b4d53d5c8902254ba66590"), looks := true }, kinds := [], alts := [], laidByText := true, laidKinds := [.data, .data, .data, .data, .data, .sentinel, .sentinel, .pinned], laidTests := true, laidLooks := .later }
def JobOverUptoCardSaid : Prop := Claim7.holds Tryz.pinned (.plain (OpenSpec.upto jobOverSpec)) jobOverUptoCard

/-- THE SECOND FORM's CARD OF 'rickyardlaw20.JobNames'. -/
def jobNamesUptoCard : Claim7 := { stood := { row := jobNamesUptoRow, standIns := [], harness := (true, "8e2a76292aa8715114b209829b4b1351a16cd957e7b4d53d5c8902254ba66590"), looks := true }, kinds := [], alts := [], laidByText := true, laidKinds := [.data, .data, .data, .data, .data, .sentinel, .sentinel, .pinned], laidTests := true, laidLooks := .later }
def JobNamesUptoCardSaid : Prop := Claim7.holds Tryz.pinned (.plain (OpenSpec.upto jobNamesSpec)) jobNamesUptoCard

/-- THE SECOND FORM's CARD OF 'rickyardlaw20.JobActs'. -/
def jobActsUptoCard : Claim7 := { stood := { row := jobActsUptoRow, standIns := [], harness := (true, "8e2a76292aa8715114b209829b4b1351a16cd957e7b4d53d5c8902254ba66590"), looks := true }, kinds := [], alts := [], laidByText := true, laidKinds := [.data, .data, .data, .data, .data, .sentinel, .sentinel, .pinned], laidTests := true, laidLooks := .later }
def JobActsUptoCardSaid : Prop := Claim7.holds Tryz.pinned (.plain (OpenSpec.upto jobActsSpec)) jobActsUptoCard

/-- THE SECOND FORM's CARD OF 'rickyardlaw20.JobWhole'. -/
def jobWholeUptoCard : Claim7 := { stood := { row := jobWholeUptoRow, standIns := [], harness := (true, "8e2a76292aa8715114b209829b4b1351a16cd957e7b4d53d5c8902254ba66590"), looks := true }, kinds := [], alts := [], laidByText := true, laidKinds := [.data, .data, .data, .data, .data, .sentinel, .sentinel, .pinned], laidTests := true, laidLooks := .later }
def JobWholeUptoCardSaid : Prop := Claim7.holds Tryz.pinned (.plain (OpenSpec.upto jobWholeSpec)) jobWholeUptoCard
end Rows
end Go.Proofs.YtkagolpnaicdoaaGreatDoor
