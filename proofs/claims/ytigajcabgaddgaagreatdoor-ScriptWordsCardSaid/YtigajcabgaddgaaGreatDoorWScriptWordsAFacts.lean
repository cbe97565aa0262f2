/-
 Closed facts of the row of ScriptWords.
-/
import Derived.Test.YtigajcabgaddgaaGreatDoorRows
import Derived.Test.YtigajcabgaddgaaGreatDoorChecked
import Derived.JoinedOf
set_option maxRecDepth 100000
set_option maxHeartbeats 8000000
namespace Go.Proofs.YtigajcabgaddgaaGreatDoor
open Go
theorem scriptWords_k1 : (Rows.scriptWordsRow.wf (OpenSpec.ofChange Rows.scriptWordsSpec)) = true := by kernel_rfl
theorem scriptWords_k7 : ((Tryz.pinned.checked.prog.stops == [])) = true := by kernel_rfl
theorem scriptWords_k13 : ((Rows.scriptWordsRow.named == Tryz.pinned.checked.prog.varsNamed 3)) = true := by kernel_rfl
theorem scriptWords_k18 : (Rows.scriptWordsSpec.vars.all (Tryz.pinned.checked.prog.varReadable ·)) = true := by kernel_rfl
theorem scriptWords_k23b : (Tryz.pinned.checked.prog.stopsHeard) = true := by kernel_rfl
theorem scriptWords_k27 : ((Rows.scriptWordsRow.veiled == (Tryz.f3.params.toList ++ Rows.scriptWordsSpec.plain.varTypes Tryz.pinned.checked.prog ++ Tryz.f3.resultTypes.toList).any (Tryz.pinned.checked.prog.veiledRec ·))) = true := by kernel_rfl
end Go.Proofs.YtigajcabgaddgaaGreatDoor
