/-
 The closed facts of the row of ScriptWords, each a theorem of its own.
-/
import Derived.Test.YtigajcabgaddgaaGreatDoorRows
import Derived.Test.YtigajcabgaddgaaGreatDoorChecked
import Derived.JoinedOf
import Derived.Test.YtigajcabgaddgaaGreatDoorWScriptWordsAFacts
import Derived.Test.YtigajcabgaddgaaGreatDoorWScriptWordsBFacts
import Derived.Test.YtigajcabgaddgaaGreatDoorWScriptWordsCFacts
import Derived.Test.YtigajcabgaddgaaGreatDoorWScriptWordsDFacts
import Derived.Test.YtigajcabgaddgaaGreatDoorWScriptWordsEFacts
import Derived.Test.YtigajcabgaddgaaGreatDoorWScriptWordsFFacts
set_option maxRecDepth 100000
set_option maxHeartbeats 8000000
namespace Go.Proofs.YtigajcabgaddgaaGreatDoor
open Go
theorem scriptWords_and {a b : Bool} (ha : a = true) (hb : b = true) : (a && b) = true := by rw [ha, hb]; rfl
theorem scriptWords_closed : joinedFacts Tryz.pinned.checked.prog 3 Tryz.f3 Rows.scriptWordsSpec Rows.scriptWordsRow = true := by unfold joinedFacts; exact (scriptWords_and (scriptWords_and (scriptWords_and (scriptWords_and (scriptWords_and (scriptWords_and (scriptWords_and (scriptWords_and (scriptWords_and (scriptWords_and (scriptWords_and (scriptWords_and (scriptWords_and (scriptWords_and (scriptWords_and (scriptWords_and (scriptWords_and (scriptWords_and (scriptWords_and (scriptWords_and (scriptWords_and (scriptWords_and (scriptWords_and (scriptWords_and (scriptWords_and (scriptWords_and (scriptWords_and (scriptWords_and (scriptWords_and (scriptWords_and (scriptWords_and scriptWords_k1 scriptWords_k2) scriptWords_k3) scriptWords_k4) scriptWords_k5) scriptWords_k6) scriptWords_k7) scriptWords_k8) scriptWords_k9) scriptWords_k10) scriptWords_k11) scriptWords_k12) scriptWords_k13) scriptWords_k14) scriptWords_k15) scriptWords_k16) scriptWords_k17) scriptWords_k17b) scriptWords_k18) scriptWords_k19) scriptWords_k20) scriptWords_k21) scriptWords_k22) scriptWords_k23) scriptWords_k23b) scriptWords_k24) scriptWords_k24b) scriptWords_k24c) scriptWords_k25) scriptWords_k26) scriptWords_k27) scriptWords_k28)
end Go.Proofs.YtigajcabgaddgaaGreatDoor
