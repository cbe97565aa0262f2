/-
 The law ScriptWords holds of the program: for every input the call returns true, and nothing that was there before the call is changed. Conditions: none but those of the statement itself (the listed variables start as the program's text lays them: the card ties them).
-/
import Derived.Test.YtigajcabgaddgaaGreatDoorWScriptWordsLaw
import Derived.Test.YtigajcabgaddgaaGreatDoorWScriptWordsCardA
import Derived.Test.YtigajcabgaddgaaGreatDoorWScriptWordsCardB
import Derived.Test.YtigajcabgaddgaaGreatDoorWScriptWordsCardC
import Derived.Test.YtigajcabgaddgaaGreatDoorWScriptWordsCardD
set_option maxRecDepth 100000
set_option maxHeartbeats 8000000
namespace Go.Proofs.YtigajcabgaddgaaGreatDoor
open Go.ChangeShapes Go.WideShapes Go.ChangeAt Go.RowKit
open Go.ChangeMaps (open_string shut_string)
theorem scriptWords_holds : Rows.ScriptWordsCardSaid :=
 Claim7.holds_tied_plain_at .later [] _ true Rows.scriptWordsCard.stood.harness Rows.scriptWordsCard.stood.looks scriptWords_plain (fun _ h => by cases h) scriptWords_c1 (fun _ h => by cases h) scriptWords_row_tie rfl ⟨rfl, rfl⟩ scriptWords_c2 rfl
  (fun f fn hf hfn => by
   obtain rfl : f = 3 := Option.some.inj (scriptWords_c4.symm.trans hf) |>.symm
   obtain rfl : fn = Tryz.f3 := (Option.some.inj (Tryz.func3.symm.trans hfn)).symm
   exact ⟨scriptWords_c3, fun j t ht => by
    rw [Tryz.params3] at ht
    have hm : t ∈ [9] := by simpa using Array.mem_of_getElem? ht
    exact (show Tryz.prog.wantsStandIn t = false by simpa using List.all_eq_true.1 scriptWords_c6 t hm)⟩)
  scriptWords_c5
end Go.Proofs.YtigajcabgaddgaaGreatDoor
