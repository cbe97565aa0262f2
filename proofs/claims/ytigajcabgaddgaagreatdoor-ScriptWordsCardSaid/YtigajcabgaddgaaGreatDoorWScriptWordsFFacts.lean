/-
 Closed facts of the row of ScriptWords.
-/
import Derived.Test.YtigajcabgaddgaaGreatDoorRows
import Derived.Test.YtigajcabgaddgaaGreatDoorChecked
import Derived.JoinedOf
set_option maxRecDepth 100000
set_option maxHeartbeats 8000000
namespace Go.Proofs.YtigajcabgaddgaaGreatDoor
open Go
theorem scriptWords_k6 : ((Rows.scriptWordsRow.stops == [])) = true := by kernel_rfl
theorem scriptWords_k12 : ((Rows.scriptWordsRow.recurses == Tryz.pinned.checked.prog.recurses 3)) = true := by kernel_rfl
theorem scriptWords_k17b : ((Rows.scriptWordsRow.wideKeys == (Tryz.f3.params.toList ++ Rows.scriptWordsSpec.plain.varTypes Tryz.pinned.checked.prog ++ Tryz.f3.resultTypes.toList).any (Tryz.pinned.checked.prog.wideKeysFrom ·))) = true := by kernel_rfl
theorem scriptWords_k23 : (Rows.scriptWordsRow.shortTexts.isNone) = true := by kernel_rfl
theorem scriptWords_k26 : ((Rows.scriptWordsRow.pinned == Rows.scriptWordsRow.pinnedBy)) = true := by kernel_rfl
end Go.Proofs.YtigajcabgaddgaaGreatDoor
