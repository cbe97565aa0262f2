/-
  DERIVED. GIVEN WITH THE SEED: THE CARDS: each row of YtjnapcfclejknaaDoorRows.lean that lists a variable, with what it lists TIED to the program's text (the seventh form; the later family's looks); each row that meets fmt, with fmt's text TOLD by the authors' own Lean function (tested against real Go, not proved from fmt's source: count such statements apart). THE CARD IS WHAT COUNTS. Prove the row's statement (the work); the ties are given (YtjnapcfclejknaaDoorTie.lean); close each card by the builder's one call (the guide's Derived/Test/ToyasCard.lean, 'card_holds'). Laid BY PROGRAM, IN A SANDBOX (cutbox-door.mjs). By AI agents, Wed Nov 11 2026. No macro, syntax, notation, axiom, sorry.
-/
import Derived.Test.YtjnapcfclejknaaDoorRows
import GoSem.ClaimSeven
namespace Go.Proofs.YtjnapcfclejknaaDoor
namespace Rows

/-- THE TIED CARD OF 'rickyardlaw05.TableCut'. -/
def tableCutCard : Claim7 := { stood := { row := tableCutRow, standIns := [], harness := (true, "14a64b85632fa7742dc5c0a30ca62e90afdd33b19e0cadb5f1f4efa43e50a0ac"), looks := false }, kinds := [], alts := [], laidByText := true, laidKinds := [.data, .data, .pinned], laidTests := true, laidLooks := .later }
def TableCutCardSaid : Prop := Claim7.holds Tryd.pinned (.plain (OpenSpec.ofChange tableCutSpec)) tableCutCard

/-- THE TIED CARD OF 'rickyardlaw05.TableApart'. -/
def tableApartCard : Claim7 := { stood := { row := tableApartRow, standIns := [], harness := (true, "14a64b85632fa7742dc5c0a30ca62e90afdd33b19e0cadb5f1f4efa43e50a0ac"), looks := false }, kinds := [], alts := [], laidByText := true, laidKinds := [.data, .data, .pinned], laidTests := true, laidLooks := .later }
def TableApartCardSaid : Prop := Claim7.holds Tryd.pinned (.plain (OpenSpec.ofChange tableApartSpec)) tableApartCard

/-- THE TIED CARD OF 'rickyardlaw05.TableRows'. -/
def tableRowsCard : Claim7 := { stood := { row := tableRowsRow, standIns := [], harness := (true, "14a64b85632fa7742dc5c0a30ca62e90afdd33b19e0cadb5f1f4efa43e50a0ac"), looks := false }, kinds := [], alts := [], laidByText := true, laidKinds := [.data, .data, .pinned], laidTests := true, laidLooks := .later }
def TableRowsCardSaid : Prop := Claim7.holds Tryd.pinned (.plain (OpenSpec.ofChange tableRowsSpec)) tableRowsCard

/-- THE TIED CARD OF 'rickyardlaw05.TableBlocks'. -/
def tableBlocksCard : Claim7 := { stood := { row := tableBlocksRow, standIns := [], harness := (true, "14a64b85632fa7742dc5c0a30ca62e90afdd33b19e0cadb5f1f4efa43e50a0ac"), looks := false }, kinds := [], alts := [], laidByText := true, laidKinds := [.data, .data, .pinned], laidTests := true, laidLooks := .later }
def TableBlocksCardSaid : Prop := Claim7.holds Tryd.pinned (.plain (OpenSpec.ofChange tableBlocksSpec)) tableBlocksCard

/-- THE TIED CARD OF 'rickyardlaw05.TableStamps'. -/
def tableStampsCard : Claim7 := { stood := { row := tableStampsRow, standIns := [], harness := (true, "14a64b85632fa7742dc5c0a30ca62e90afdd33b19e0cadb5f1f4efa43e50a0ac"), looks := false }, kinds := [], alts := [], laidByText := true, laidKinds := [.data, .data, .pinned], laidTests := true, laidLooks := .later }
def TableStampsCardSaid : Prop := Claim7.holds Tryd.pinned (.plain (OpenSpec.ofChange tableStampsSpec)) tableStampsCard

/-- THE SECOND FORM's CARD OF 'rickyardlaw05.TableCut'. -/
def tableCutUptoCard : Claim7 := { stood := { row := tableCutUptoRow, standIns := [], harness := (true, "14a64b85632fa7742dc5c0a30ca62e90afdd33b19e0cadb5f1f4efa43e50a0ac"), looks := false }, kinds := [], alts := [], laidByText := true, laidKinds := [.data, .data, .pinned], laidTests := true, laidLooks := .later }
def TableCutUptoCardSaid : Prop := Claim7.holds Tryd.pinned (.plain (OpenSpec.upto tableCutSpec)) tableCutUptoCard

/-- THE SECOND FORM's CARD OF 'rickyardlaw05.TableApart'. -/
def tableApartUptoCard : Claim7 := { stood := { row := tableApartUptoRow, standIns := [], harness := (true, "14a64b85632fa7742dc5c0a30ca62e90afdd33b19e0cadb5f1f4efa43e50a0ac"), looks := false }, kinds := [], alts := [], laidByText := true, laidKinds := [.data, .data, .pinned], laidTests := true, laidLooks := .later }
def TableApartUptoCardSaid : Prop := Claim7.holds Tryd.pinned (.plain (OpenSpec.upto tableApartSpec)) tableApartUptoCard

/-- THE SECOND FORM's CARD OF 'rickyardlaw05.TableRows'. -/
def tableRowsUptoCard : Claim7 := { stood := { row := tableRowsUptoRow, standIns := [], harness := (true, "14a64b85632fa7742dc5c0a30ca62e90afdd33b19e0cadb5f1f4efa43e50a0ac"), looks := false }, kinds := [], alts := [], laidByText := true, laidKinds := [.data, .data, .pinned], laidTests := true, laidLooks := .later }
def TableRowsUptoCardSaid : Prop := Claim7.holds Tryd.pinned (.plain (OpenSpec.upto tableRowsSpec)) tableRowsUptoCard

/-- THE SECOND FORM's CARD OF 'rickyardlaw05.TableBlocks'. -/
def tableBlocksUptoCard : Claim7 := { stood := { row := tableBlocksUptoRow, standIns := [], harness := (true, "14a64b85632fa7742dc5c0a30ca62e90afdd33b19e0cadb5f1f4efa43e50a0ac"), looks := false }, kinds := [], alts := [], laidByText := true, laidKinds := [.data, .data, .pinned], laidTests := true, laidLooks := .later }
def TableBlocksUptoCardSaid : Prop := Claim7.holds Tryd.pinned (.plain (OpenSpec.upto tableBlocksSpec)) tableBlocksUptoCard

/-- THE SECOND FORM's CARD OF 'rickyardlaw05.TableStamps'. -/
def tableStampsUptoCard : Claim7 := { stood := { row := tableStampsUptoRow, standIns := [], harness := (true, "14a64b85632fa7742dc5c0a30ca62e90afdd33b19e0cadb5f1f4efa43e50a0ac"), looks := false }, kinds := [], alts := [], laidByText := true, laidKinds := [.data, .data, .pinned], laidTests := true, laidLooks := .later }
def TableStampsUptoCardSaid : Prop := Claim7.holds Tryd.pinned (.plain (OpenSpec.upto tableStampsSpec)) tableStampsUptoCard
end Rows
end Go.Proofs.YtjnapcfclejknaaDoor
