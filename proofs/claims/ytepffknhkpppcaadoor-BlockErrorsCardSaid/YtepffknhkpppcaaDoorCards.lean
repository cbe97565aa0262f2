/-
  DERIVED. GIVEN WITH THE SEED: THE CARDS: each row of YtepffknhkpppcaaDoorRows.lean that lists a variable, with what it lists TIED to the program's text (the seventh form; the later family's looks); each row that meets fmt, with fmt's text TOLD by the authors' own Lean function (tested against real Go, not proved from fmt's source: count such statements apart). THE CARD IS WHAT COUNTS. Prove the row's statement (the work); the ties are given (YtepffknhkpppcaaDoorTie.lean); close each card by the builder's one call (the guide's Derived/Test/ToyasCard.lean, 'card_holds'). Laid BY PROGRAM, IN A SANDBOX (cutbox-door.mjs). By AI agents, Wed Nov 11 2026. No macro, syntax, notation, axiom, sorry.
-/
import Derived.Test.YtepffknhkpppcaaDoorRows
import GoSem.ClaimSeven
namespace Go.Proofs.YtepffknhkpppcaaDoor
namespace Rows

/-- THE TIED CARD OF 'rickyardlaw04.BlockBuilds'. -/
def blockBuildsCard : Claim7 := { stood := { row := blockBuildsRow, standIns := [], harness := (true, "da5ae2725df4ece07f37dcfaf68d2a7be69dd28e61eb925ff5914ed01ec35ffd"), looks := false }, kinds := [], alts := [], laidByText := true, laidKinds := [.data, .pinned], laidTests := true, laidLooks := .later }
def BlockBuildsCardSaid : Prop := Claim7.holds Tryd.pinned (.plain (OpenSpec.ofChange blockBuildsSpec)) blockBuildsCard

/-- THE TIED CARD OF 'rickyardlaw04.BlockOnce'. -/
def blockOnceCard : Claim7 := { stood := { row := blockOnceRow, standIns := [], harness := (true, "da5ae2725df4ece07f37dcfaf68d2a7be69dd28e61eb925ff5914ed01ec35ffd"), looks := false }, kinds := [], alts := [], laidByText := true, laidKinds := [.data, .pinned], laidTests := true, laidLooks := .later }
def BlockOnceCardSaid : Prop := Claim7.holds Tryd.pinned (.plain (OpenSpec.ofChange blockOnceSpec)) blockOnceCard

/-- THE TIED CARD OF 'rickyardlaw04.BlockShares'. -/
def blockSharesCard : Claim7 := { stood := { row := blockSharesRow, standIns := [], harness := (true, "da5ae2725df4ece07f37dcfaf68d2a7be69dd28e61eb925ff5914ed01ec35ffd"), looks := false }, kinds := [], alts := [], laidByText := true, laidKinds := [.data, .pinned], laidTests := true, laidLooks := .later }
def BlockSharesCardSaid : Prop := Claim7.holds Tryd.pinned (.plain (OpenSpec.ofChange blockSharesSpec)) blockSharesCard

/-- THE TIED CARD OF 'rickyardlaw04.BlockErrors'. -/
def blockErrorsCard : Claim7 := { stood := { row := blockErrorsRow, standIns := [], harness := (true, "da5ae2725df4ece07f37dcfaf68d2a7be69dd28e61eb925ff5914ed01ec35ffd"), looks := false }, kinds := [], alts := [], laidByText := true, laidKinds := [.data, .pinned], laidTests := true, laidLooks := .later }
def BlockErrorsCardSaid : Prop := Claim7.holds Tryd.pinned (.plain (OpenSpec.ofChange blockErrorsSpec)) blockErrorsCard

/-- THE TIED CARD OF 'rickyardlaw04.BlockParses'. -/
def blockParsesCard : Claim7 := { stood := { row := blockParsesRow, standIns := [], harness := (true, "da5ae2725df4ece07f37dcfaf68d2a7be69dd28e61eb925ff5914ed01ec35ffd"), looks := false }, kinds := [], alts := [], laidByText := true, laidKinds := [.data, .pinned], laidTests := true, laidLooks := .later }
def BlockParsesCardSaid : Prop := Claim7.holds Tryd.pinned (.plain (OpenSpec.ofChange blockParsesSpec)) blockParsesCard

/-- THE TIED CARD OF 'rickyardlaw04.BlockSeeks'. -/
def blockSeeksCard : Claim7 := { stood := { row := blockSeeksRow, standIns := [], harness := (true, "da5ae2725df4ece07f37dcfaf68d2a7be69dd28e61eb925ff5914ed01ec35ffd"), looks := false }, kinds := [], alts := [], laidByText := true, laidKinds := [.data, .pinned], laidTests := true, laidLooks := .later }
def BlockSeeksCardSaid : Prop := Claim7.holds Tryd.pinned (.plain (OpenSpec.ofChange blockSeeksSpec)) blockSeeksCard

/-- THE SECOND FORM's CARD OF 'rickyardlaw04.BlockBuilds'. -/
def blockBuildsUptoCard : Claim7 := { stood := { row := blockBuildsUptoRow, standIns := [], harness := (true, "da5ae2725df4ece07f37dcfaf68d2a7be69dd28e61eb925ff5914ed01ec35ffd"), looks := false }, kinds := [], alts := [], laidByText := true, laidKinds := [.data, .pinned], laidTests := true, laidLooks := .later }
def BlockBuildsUptoCardSaid : Prop := Claim7.holds Tryd.pinned (.plain (OpenSpec.upto blockBuildsSpec)) blockBuildsUptoCard

/-- THE SECOND FORM's CARD OF 'rickyardlaw04.BlockOnce'. -/
def blockOnceUptoCard : Claim7 := { stood := { row := blockOnceUptoRow, standIns := [], harness := (true, "da5ae2725df4ece07f37dcfaf68d2a7be69dd28e61eb925ff5914ed01ec35ffd"), looks := false }, kinds := [], alts := [], laidByText := true, laidKinds := [.data, .pinned], laidTests := true, laidLooks := .later }
def BlockOnceUptoCardSaid : Prop := Claim7.holds Tryd.pinned (.plain (OpenSpec.upto blockOnceSpec)) blockOnceUptoCard

/-- THE SECOND FORM's CARD OF 'rickyardlaw04.BlockShares'. -/
def blockSharesUptoCard : Claim7 := { stood := { row := blockSharesUptoRow, standIns := [], harness := (true, "da5ae2725df4ece07f37dcfaf68d2a7be69dd28e61eb925ff5914ed01ec35ffd"), looks := false }, kinds := [], alts := [], laidByText := true, laidKinds := [.data, .pinned], laidTests := true, laidLooks := .later }
def BlockSharesUptoCardSaid : Prop := Claim7.holds Tryd.pinned (.plain (OpenSpec.upto blockSharesSpec)) blockSharesUptoCard

/-- THE SECOND FORM's CARD OF 'rickyardlaw04.BlockErrors'. -/
def blockErrorsUptoCard : Claim7 := { stood := { row := blockErrorsUptoRow, standIns := [], harness := (true, "da5ae2725df4ece07f37dcfaf68d2a7be69dd28e61eb925ff5914ed01ec35ffd"), looks := false }, kinds := [], alts := [], laidByText := true, laidKinds := [.data, .pinned], laidTests := true, laidLooks := .later }
def BlockErrorsUptoCardSaid : Prop := Claim7.holds Tryd.pinned (.plain (OpenSpec.upto blockErrorsSpec)) blockErrorsUptoCard

/-- THE SECOND FORM's CARD OF 'rickyardlaw04.BlockParses'. -/
def blockParsesUptoCard : Claim7 := { stood := { row := blockParsesUptoRow, standIns := [], harness := (true, "da5ae2725df4ece07f37dcfaf68d2a7be69dd28e61eb925ff5914ed01ec35ffd"), looks := false }, kinds := [], alts := [], laidByText := true, laidKinds := [.data, .pinned], laidTests := true, laidLooks := .later }
def BlockParsesUptoCardSaid : Prop := Claim7.holds Tryd.pinned (.plain (OpenSpec.upto blockParsesSpec)) blockParsesUptoCard

/-- THE SECOND FORM's CARD OF 'rickyardlaw04.BlockSeeks'. -/
def blockSeeksUptoCard : Claim7 := { stood := { row := blockSeeksUptoRow, standIns := [], harness := (true, "da5ae2725df4ece07f37dcfaf68d2a7be69dd28e61eb925ff5914ed01ec35ffd"), looks := false }, kinds := [], alts := [], laidByText := true, laidKinds := [.data, .pinned], laidTests := true, laidLooks := .later }
def BlockSeeksUptoCardSaid : Prop := Claim7.holds Tryd.pinned (.plain (OpenSpec.upto blockSeeksSpec)) blockSeeksUptoCard
end Rows
end Go.Proofs.YtepffknhkpppcaaDoor
