/-
 The law JobBytes holds of the program: for every input the call returns true, and nothing that was there before the call is changed. Conditions: none but those of the statement itself (the listed variables start as the program's text lays them: the card ties them).
-/
import Derived.Test.YtkagolpnaicdoaaGreatDoorPJobBytesLaw
set_option maxRecDepth 100000
set_option maxHeartbeats 8000000
namespace Go.Proofs.YtkagolpnaicdoaaGreatDoor
open Go.ChangeShapes Go.WideShapes Go.ChangeAt Go.RowKit
open Go.ChangeMaps (open_string shut_string)
theorem jobBytes_holds : Rows.JobBytesCardSaid :=
 Claim7.holds_tied_plain_at .later [] _ true _ _ jobBytes_plain (fun _ h => by cases h) (by kernel_rfl) (fun _ h => by cases h) jobBytes_row_tie rfl ⟨rfl, rfl⟩ (by kernel_rfl) rfl
  (fun f fn hf hfn => by
   obtain rfl : f = 4 := Option.some.inj ((show Tryz.prog.funcNamed "rickyard/rickyardlaw20.JobBytes" = some 4 by kernel_rfl).symm.trans hf) |>.symm
   obtain rfl : fn = Tryz.f4 := (Option.some.inj (Tryz.func4.symm.trans hfn)).symm
   exact ⟨by kernel_rfl, fun j t ht => by
    rw [Tryz.params4] at ht
    have hm : t ∈ [42, 9] := by simpa using Array.mem_of_getElem? ht
    have hall : ([42, 9].all fun u => !Tryz.prog.wantsStandIn u) = true := by kernel_rfl
    exact (show Tryz.prog.wantsStandIn t = false by simpa using List.all_eq_true.1 hall t hm)⟩)
  (by kernel_rfl)
end Go.Proofs.YtkagolpnaicdoaaGreatDoor
