/-
 Closed facts of the card of ScriptWords.
-/
import Derived.Test.YtigajcabgaddgaaGreatDoorRows
import Derived.Test.YtigajcabgaddgaaGreatDoorCards
import Derived.Test.YtigajcabgaddgaaGreatDoorChecked
import Derived.SevenTiedAt
set_option maxRecDepth 100000
set_option maxHeartbeats 8000000
namespace Go.Proofs.YtigajcabgaddgaaGreatDoor
open Go
theorem scriptWords_c1 : Rows.scriptWordsRow.wfByText (OpenSpec.ofChange Rows.scriptWordsSpec) = true := by kernel_rfl
end Go.Proofs.YtigajcabgaddgaaGreatDoor
