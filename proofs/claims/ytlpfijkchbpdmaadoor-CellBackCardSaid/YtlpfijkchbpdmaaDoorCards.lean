/-
  DERIVED. GIVEN WITH THE SEED: THE CARDS: each row of YtlpfijkchbpdmaaDoorRows.lean that lists a variable, with what it lists TIED to the program's text (the seventh form; the later family's looks); each row that meets fmt, with fmt's text TOLD by the authors' own Lean function (tested against real Go, not proved from fmt's source: count such statements apart). THE CARD IS WHAT COUNTS. Prove the row's statement (the work); the ties are given (YtlpfijkchbpdmaaDoorTie.lean); close each card by the builder's one call (the guide's Derived/Test/ToyasCard.lean, 'card_holds'). Laid BY PROGRAM, IN A SANDBOX (cutbox-door.mjs). By AI agents, Wed Nov 11 2026. No macro, syntax, notation, axiom, sorry.
-/
import Derived.Test.YtlpfijkchbpdmaaDoorRows
import GoSem.ClaimSeven
namespace Go.Proofs.YtlpfijkchbpdmaaDoor
namespace Rows

/-- THE TIED CARD OF 'rickyardlaw01.CellBytes'. -/
def cellBytesCard : Claim7 := { stood := { row := cellBytesRow, standIns := [], harness := (true, "754fda82f134cba151d071019377c3f02aab12ef7c9d5c861766e0ae8d7fc71b"), looks := false }, kinds := [], alts := [], laidByText := true, laidKinds := [.data, .pinned], laidTests := true, laidLooks := .later }
def CellBytesCardSaid : Prop := Claim7.holds Tryd.pinned (.plain (OpenSpec.ofChange cellBytesSpec)) cellBytesCard

/-- THE TIED CARD OF 'rickyardlaw01.CellOrder'. -/
def cellOrderCard : Claim7 := { stood := { row := cellOrderRow, standIns := [], harness := (true, "754fda82f134cba151d071019377c3f02aab12ef7c9d5c861766e0ae8d7fc71b"), looks := false }, kinds := [], alts := [], laidByText := true, laidKinds := [.data, .pinned], laidTests := true, laidLooks := .later }
def CellOrderCardSaid : Prop := Claim7.holds Tryd.pinned (.plain (OpenSpec.ofChange cellOrderSpec)) cellOrderCard

/-- THE TIED CARD OF 'rickyardlaw01.CellTotal'. -/
def cellTotalCard : Claim7 := { stood := { row := cellTotalRow, standIns := [], harness := (true, "754fda82f134cba151d071019377c3f02aab12ef7c9d5c861766e0ae8d7fc71b"), looks := false }, kinds := [], alts := [], laidByText := true, laidKinds := [.data, .pinned], laidTests := true, laidLooks := .later }
def CellTotalCardSaid : Prop := Claim7.holds Tryd.pinned (.plain (OpenSpec.ofChange cellTotalSpec)) cellTotalCard

/-- THE TIED CARD OF 'rickyardlaw01.CellShort'. -/
def cellShortCard : Claim7 := { stood := { row := cellShortRow, standIns := [], harness := (true, "754fda82f134cba151d071019377c3f02aab12ef7c9d5c861766e0ae8d7fc71b"), looks := false }, kinds := [], alts := [], laidByText := true, laidKinds := [.data, .pinned], laidTests := true, laidLooks := .later }
def CellShortCardSaid : Prop := Claim7.holds Tryd.pinned (.plain (OpenSpec.ofChange cellShortSpec)) cellShortCard

/-- THE TIED CARD OF 'rickyardlaw01.CellApart'. -/
def cellApartCard : Claim7 := { stood := { row := cellApartRow, standIns := [], harness := (true, "754fda82f134cba151d071019377c3f02aab12ef7c9d5c861766e0ae8d7fc71b"), looks := false }, kinds := [], alts := [], laidByText := true, laidKinds := [.data, .pinned], laidTests := true, laidLooks := .later }
def CellApartCardSaid : Prop := Claim7.holds Tryd.pinned (.plain (OpenSpec.ofChange cellApartSpec)) cellApartCard

/-- THE TIED CARD OF 'rickyardlaw01.CellTells'. -/
def cellTellsCard : Claim7 := { stood := { row := cellTellsRow, standIns := [], harness := (true, "754fda82f134cba151d071019377c3f02aab12ef7c9d5c861766e0ae8d7fc71b"), looks := false }, kinds := [], alts := [], laidByText := true, laidKinds := [.data, .pinned], laidTests := true, laidLooks := .later }
def CellTellsCardSaid : Prop := Claim7.holds Tryd.pinned (.plain (OpenSpec.ofChange cellTellsSpec)) cellTellsCard

/-- THE TIED CARD OF 'rickyardlaw01.CellKeys'. -/
def cellKeysCard : Claim7 := { stood := { row := cellKeysRow, standIns := [], harness := (true, "754fda82f134cba151d071019377c3f02aab12ef7c9d5c861766e0ae8d7fc71b"), looks := false }, kinds := [], alts := [], laidByText := true, laidKinds := [.data, .pinned], laidTests := true, laidLooks := .later }
def CellKeysCardSaid : Prop := Claim7.holds Tryd.pinned (.plain (OpenSpec.ofChange cellKeysSpec)) cellKeysCard

/-- THE TIED CARD OF 'rickyardlaw01.CellBack'. -/
def cellBackCard : Claim7 := { stood := { row := cellBackRow, standIns := [], harness := (true, "754fda82f134cba151d071019377c3f02aab12ef7c9d5c861766e0ae8d7fc71b"), looks := false }, kinds := [], alts := [], laidByText := true, laidKinds := [.data, .pinned], laidTests := true, laidLooks := .later }
def CellBackCardSaid : Prop := Claim7.holds Tryd.pinned (.plain (OpenSpec.ofChange cellBackSpec)) cellBackCard

/-- THE SECOND FORM's CARD OF 'rickyardlaw01.CellBytes'. -/
def cellBytesUptoCard : Claim7 := { stood := { row := cellBytesUptoRow, standIns := [], harness := (true, "754fda82f134cba151d071019377c3f02aab12ef7c9d5c861766e0ae8d7fc71b"), looks := false }, kinds := [], alts := [], laidByText := true, laidKinds := [.data, .pinned], laidTests := true, laidLooks := .later }
def CellBytesUptoCardSaid : Prop := Claim7.holds Tryd.pinned (.plain (OpenSpec.upto cellBytesSpec)) cellBytesUptoCard

/-- THE SECOND FORM's CARD OF 'rickyardlaw01.CellOrder'. -/
def cellOrderUptoCard : Claim7 := { stood := { row := cellOrderUptoRow, standIns := [], harness := (true, "754fda82f134cba151d071019377c3f02aab12ef7c9d5c861766e0ae8d7fc71b"), looks := false }, kinds := [], alts := [], laidByText := true, laidKinds := [.data, .pinned], laidTests := true, laidLooks := .later }
def CellOrderUptoCardSaid : Prop := Claim7.holds Tryd.pinned (.plain (OpenSpec.upto cellOrderSpec)) cellOrderUptoCard

/-- THE SECOND FORM's CARD OF 'rickyardlaw01.CellTotal'. -/
def cellTotalUptoCard : Claim7 := { stood := { row := cellTotalUptoRow, standIns := [], harness := (true, "754fda82f134cba151d071019377c3f02aab12ef7c9d5c861766e0ae8d7fc71b"), looks := false }, kinds := [], alts := [], laidByText := true, laidKinds := [.data, .pinned], laidTests := true, laidLooks := .later }
def CellTotalUptoCardSaid : Prop := Claim7.holds Tryd.pinned (.plain (OpenSpec.upto cellTotalSpec)) cellTotalUptoCard

/-- THE SECOND FORM's CARD OF 'rickyardlaw01.CellShort'. -/
def cellShortUptoCard : Claim7 := { stood := { row := cellShortUptoRow, standIns := [], harness := (true, "754fda82f134cba151d071019377c3f02aab12ef7c9d5c861766e0ae8d7fc71b"), looks := false }, kinds := [], alts := [], laidByText := true, laidKinds := [.data, .pinned], laidTests := true, laidLooks := .later }
def CellShortUptoCardSaid : Prop := Claim7.holds Tryd.pinned (.plain (OpenSpec.upto cellShortSpec)) cellShortUptoCard

/-- THE SECOND FORM's CARD OF 'rickyardlaw01.CellApart'. -/
def cellApartUptoCard : Claim7 := { stood := { row := cellApartUptoRow, standIns := [], harness := (true, "754fda82f134cba151d071019377c3f02aab12ef7c9d5c861766e0ae8d7fc71b"), looks := false }, kinds := [], alts := [], laidByText := true, laidKinds := [.data, .pinned], laidTests := true, laidLooks := .later }
def CellApartUptoCardSaid : Prop := Claim7.holds Tryd.pinned (.plain (OpenSpec.upto cellApartSpec)) cellApartUptoCard

/-- THE SECOND FORM's CARD OF 'rickyardlaw01.CellTells'. -/
def cellTellsUptoCard : Claim7 := { stood := { row := cellTellsUptoRow, standIns := [], harness := (true, "754fda82f134cba151d071019377c3f02aab12ef7c9d5c861766e0ae8d7fc71b"), looks := false }, kinds := [], alts := [], laidByText := true, laidKinds := [.data, .pinned], laidTests := true, laidLooks := .later }
def CellTellsUptoCardSaid : Prop := Claim7.holds Tryd.pinned (.plain (OpenSpec.upto cellTellsSpec)) cellTellsUptoCard

/-- THE SECOND FORM's CARD OF 'rickyardlaw01.CellKeys'. -/
def cellKeysUptoCard : Claim7 := { stood := { row := cellKeysUptoRow, standIns := [], harness := (true, "754fda82f134cba151d071019377c3f02aab12ef7c9d5c861766e0ae8d7fc71b"), looks := false }, kinds := [], alts := [], laidByText := true, laidKinds := [.data, .pinned], laidTests := true, laidLooks := .later }
def CellKeysUptoCardSaid : Prop := Claim7.holds Tryd.pinned (.plain (OpenSpec.upto cellKeysSpec)) cellKeysUptoCard

/-- THE SECOND FORM's CARD OF 'rickyardlaw01.CellBack'. -/
def cellBackUptoCard : Claim7 := { stood := { row := cellBackUptoRow, standIns := [], harness := (true, "754fda82f134cba151d071019377c3f02aab12ef7c9d5c861766e0ae8d7fc71b"), looks := false }, kinds := [], alts := [], laidByText := true, laidKinds := [.data, .pinned], laidTests := true, laidLooks := .later }
def CellBackUptoCardSaid : Prop := Claim7.holds Tryd.pinned (.plain (OpenSpec.upto cellBackSpec)) cellBackUptoCard
end Rows
end Go.Proofs.YtlpfijkchbpdmaaDoor
