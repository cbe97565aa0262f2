/-
 Closed facts of the row of ScriptWords.
-/
import Derived.Test.YtigajcabgaddgaaGreatDoorRows
import Derived.Test.YtigajcabgaddgaaGreatDoorChecked
import Derived.JoinedOf
set_option maxRecDepth 100000
set_option maxHeartbeats 8000000
namespace Go.Proofs.YtigajcabgaddgaaGreatDoor
open Go
theorem scriptWords_k5 : (namedTie Tryz.pinned.checked.prog Rows.scriptWordsRow.named Rows.scriptWordsSpec.vars) = true := by kernel_rfl
theorem scriptWords_k11 : ((Rows.scriptWordsRow.unfollowed == Tryz.pinned.checked.prog.unfollowed 3)) = true := by kernel_rfl
theorem scriptWords_k17 : ((Rows.scriptWordsRow.loops == (Tryz.f3.params.toList ++ Rows.scriptWordsSpec.plain.varTypes Tryz.pinned.checked.prog).any (Tryz.pinned.checked.prog.loopsFrom ·))) = true := by kernel_rfl
theorem scriptWords_k22 : ((Rows.scriptWordsRow.plainKeys == Tryz.pinned.checked.prog.plainKeys)) = true := by kernel_rfl
theorem scriptWords_k25 : ((Rows.scriptWordsRow.kinds == (if Rows.scriptWordsRow.domain.isEmpty then [] else Tryz.f3.params.toList.map fun t => match Tryz.pinned.checked.prog.underlying t with | some (.int k) => some k | _ => none))) = true := by kernel_rfl
end Go.Proofs.YtigajcabgaddgaaGreatDoor
