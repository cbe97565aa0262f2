/- The law JobMakes. -/
import Derived.Test.YtkagolpnaicdoaaGreatDoorQJobMakesLaw
set_option maxRecDepth 100000
set_option maxHeartbeats 8000000
namespace Go.Proofs.YtkagolpnaicdoaaGreatDoor
open Go.ChangeShapes Go.WideShapes Go.ChangeAt Go.RowKit
open Go.ChangeMaps (open_string shut_string)
theorem jobMakes_holds : Rows.JobMakesCardSaid :=
 Claim7.holds_tied_plain_at .later [] _ true _ _ jobMakes_plain (fun _ h => by cases h) (by kernel_rfl) (fun _ h => by cases h) jobMakes_row_tie rfl ⟨rfl, rfl⟩ (by kernel_rfl) rfl
  (fun f fn hf hfn => by
   obtain rfl : f = 3 := Option.some.inj ((show Tryz.prog.funcNamed "rickyard/rickyardlaw20.JobMakes" = some 3 by kernel_rfl).symm.trans hf) |>.symm
   obtain rfl : fn = Tryz.f3 := (Option.some.inj (Tryz.func3.symm.trans hfn)).symm
   exact ⟨by kernel_rfl, fun j t ht => by
    rw [Tryz.params3] at ht
    have hm : t ∈ [9, 22, 23, 3, 3, 3] := by simpa using Array.mem_of_getElem? ht
    have hall : ([9, 22, 23, 3, 3, 3].all fun u => !Tryz.prog.wantsStandIn u) = true := by kernel_rfl
    exact (show Tryz.prog.wantsStandIn t = false by simpa using List.all_eq_true.1 hall t hm)⟩)
  (by kernel_rfl)
end Go.Proofs.YtkagolpnaicdoaaGreatDoor
