/-
 Closed facts of the card of ScriptWords.
-/
import Derived.Test.YtigajcabgaddgaaGreatDoorRows
import Derived.Test.YtigajcabgaddgaaGreatDoorCards
import Derived.Test.YtigajcabgaddgaaGreatDoorChecked
import Derived.SevenTiedAt
set_option maxRecDepth 100000
set_option maxHeartbeats 8000000
namespace Go.Proofs.YtigajcabgaddgaaGreatDoor
open Go
theorem scriptWords_c2 : Tryz.pinned.checked.prog.mainIs = some (Rows.scriptWordsCard.stood.harness.1, Rows.scriptWordsCard.stood.harness.2.toList) := by kernel_rfl
theorem scriptWords_c4 : Tryz.prog.funcNamed "rickyard/rickyardlaw22.ScriptWords" = some 3 := by kernel_rfl
end Go.Proofs.YtigajcabgaddgaaGreatDoor
