/-
 The law JobWhole holds of the program: for every input the call returns true, and nothing that was there before the call is changed. Conditions: none but those of the statement itself (the listed variables start as the program's text lays them: the card ties them).
-/
import Derived.Test.YtkagolpnaicdoaaGreatDoorPJobWholeLaw
set_option maxRecDepth 100000
set_option maxHeartbeats 8000000
namespace Go.Proofs.YtkagolpnaicdoaaGreatDoor
open Go.ChangeShapes Go.WideShapes Go.ChangeAt Go.RowKit
open Go.ChangeMaps (open_string shut_string)
theorem jobWhole_holds : Rows.JobWholeCardSaid :=
 Claim7.holds_tied_plain_at .later [] _ true _ _ jobWhole_plain (fun _ h => by cases h) (by kernel_rfl) (fun _ h => by cases h) jobWhole_row_tie rfl ⟨rfl, rfl⟩ (by kernel_rfl) rfl
  (fun f fn hf hfn => by
   obtain rfl : f = 8 := Option.some.inj ((show Tryz.prog.funcNamed "rickyard/rickyardlaw20.JobWhole" = some 8 by kernel_rfl).symm.trans hf) |>.symm
   obtain rfl : fn = Tryz.f8 := (Option.some.inj (Tryz.func8.symm.trans hfn)).symm
   exact ⟨by kernel_rfl, fun j t ht => by
    rw [Tryz.params8] at ht
    have hm : t ∈ [78, 22, 5, 5, 5] := by simpa using Array.mem_of_getElem? ht
    have hall : ([78, 22, 5, 5, 5].all fun u => !Tryz.prog.wantsStandIn u) = true := by kernel_rfl
    exact (show Tryz.prog.wantsStandIn t = false by simpa using List.all_eq_true.1 hall t hm)⟩)
  (by kernel_rfl)
end Go.Proofs.YtkagolpnaicdoaaGreatDoor
