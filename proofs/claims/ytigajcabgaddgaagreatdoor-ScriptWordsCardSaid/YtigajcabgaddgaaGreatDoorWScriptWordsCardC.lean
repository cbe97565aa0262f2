/-
 Closed facts of the card of ScriptWords.
-/
import Derived.Test.YtigajcabgaddgaaGreatDoorRows
import Derived.Test.YtigajcabgaddgaaGreatDoorCards
import Derived.Test.YtigajcabgaddgaaGreatDoorChecked
import Derived.SevenTiedAt
set_option maxRecDepth 100000
set_option maxHeartbeats 8000000
namespace Go.Proofs.YtigajcabgaddgaaGreatDoor
open Go
theorem scriptWords_c3 : Rows.scriptWordsCard.stood.looks = Tryz.pinned.checked.prog.looks [] := by kernel_rfl
theorem scriptWords_c6 : ([9].all fun u => !Tryz.prog.wantsStandIn u) = true := by kernel_rfl
end Go.Proofs.YtigajcabgaddgaaGreatDoor
