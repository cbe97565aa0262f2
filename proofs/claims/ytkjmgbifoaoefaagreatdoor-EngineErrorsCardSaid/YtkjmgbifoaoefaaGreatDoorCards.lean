/-
  DERIVED. GIVEN WITH THE SEED: THE CARDS: each row of YtkjmgbifoaoefaaGreatDoorRows.lean that lists a variable, with what it lists TIED to the program's text (the seventh form; the later family's looks); each row that meets fmt, with fmt's text TOLD by the authors' own Lean function (tested against real Go, not proved from fmt's source: count such statements apart). THE CARD IS WHAT COUNTS. Prove the row's statement (the work); the ties are given (YtkjmgbifoaoefaaGreatDoorTie.lean); close each card by the builder's one call (the guide's Derived/Test/ToyasCard.lean, 'card_holds'). Laid BY PROGRAM, IN A SANDBOX (cutbox-door.mjs). By AI agents, Wed Nov 11 2026. No macro, syntax, notation, axiom, sorry.
-/
import Derived.Test.YtkjmgbifoaoefaaGreatDoorRows
import GoSem.ClaimSeven
namespace Go.Proofs.YtkjmgbifoaoefaaGreatDoor
namespace Rows

/-- THE TIED CARD OF 'rickyardlaw15.EngineErrors'. -/
def engineErrorsCard : Claim7 := { stood := { row := engineErrorsRow, standIns := [], harness := (true, "92cbe86ec5330a390acffbc081e58762959ced3ff10c59c5c9e6440217418a18"), looks := false }, kinds := [], alts := [], laidByText := true, laidKinds := [.data, .data, .data, .data, .data, .pinned], laidTests := true, laidLooks := .later }
def EngineErrorsCardSaid : Prop := Claim7.holds Tryz.pinned (.plain (OpenSpec.ofChange engineErrorsSpec)) engineErrorsCard

/-- THE SECOND FORM's CARD OF 'rickyardlaw15.EngineErrors'. -/
def engineErrorsUptoCard : Claim7 := { stood := { row := engineErrorsUptoRow, standIns := [], harness := (true, "92cbe86ec5330a390acffbc081e58762959ced3ff10c59c5c9e6440217418a18"), looks := false }, kinds := [], alts := [], laidByText := true, laidKinds := [.data, .data, .data, .data, .data, .pinned], laidTests := true, laidLooks := .later }
def EngineErrorsUptoCardSaid : Prop := Claim7.holds Tryz.pinned (.plain (OpenSpec.upto engineErrorsSpec)) engineErrorsUptoCard
end Rows
end Go.Proofs.YtkjmgbifoaoefaaGreatDoor
