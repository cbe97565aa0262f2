/-
 Closed facts of the row of ScriptWords.
-/
import Derived.Test.YtigajcabgaddgaaGreatDoorRows
import Derived.Test.YtigajcabgaddgaaGreatDoorChecked
import Derived.JoinedOf
set_option maxRecDepth 100000
set_option maxHeartbeats 8000000
namespace Go.Proofs.YtigajcabgaddgaaGreatDoor
open Go
theorem scriptWords_k4 : (Tryz.f3.params.all (Tryz.pinned.checked.prog.readableRec ·)) = true := by kernel_rfl
theorem scriptWords_k10 : ((Rows.scriptWordsRow.inPlace == Tryz.pinned.checked.prog.inPlace 3)) = true := by kernel_rfl
theorem scriptWords_k16 : ((Rows.scriptWordsRow.mapsOut == Tryz.pinned.checked.prog.mapsAmong Tryz.f3.resultTypes.toList)) = true := by kernel_rfl
theorem scriptWords_k21 : ((Rows.scriptWordsRow.loopsOut == Tryz.f3.resultTypes.toList.any (Tryz.pinned.checked.prog.loopsFrom ·))) = true := by kernel_rfl
theorem scriptWords_k24c : ((Tryz.pinned.checked.prog.make == some Rows.scriptWordsRow.make)) = true := by kernel_rfl
end Go.Proofs.YtigajcabgaddgaaGreatDoor
