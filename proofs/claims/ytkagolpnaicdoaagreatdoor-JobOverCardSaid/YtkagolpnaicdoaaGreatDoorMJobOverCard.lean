import Derived.Test.YtkagolpnaicdoaaGreatDoorMJobOverLaw
namespace Go.Proofs.YtkagolpnaicdoaaGreatDoor
open Go.ChangeShapes Go.WideShapes Go.ChangeAt Go.RowKit
open Go.ChangeMaps (open_string shut_string)

theorem jobOver_holds : Rows.JobOverCardSaid :=
  Claim7.holds_tied_plain_at .later [] _ true _ _ jobOver_plain (fun _ h => by cases h) (by kernel_rfl) (fun _ h => by cases h) jobOver_row_tie rfl ⟨rfl, rfl⟩ (by kernel_rfl) rfl
    (fun f fn hf hfn => by
      obtain rfl : f = 5 := Option.some.inj ((show Tryz.prog.funcNamed "rickyard/rickyardlaw20.JobOver" = some 5 by kernel_rfl).symm.trans hf) |>.symm
      obtain rfl : fn = Tryz.f5 := (Option.some.inj (Tryz.func5.symm.trans hfn)).symm
      exact ⟨by kernel_rfl, fun j t ht => by
        rw [Tryz.params5] at ht
        have hm : t ∈ [23, 9, 3, 3, 30] := by simpa using Array.mem_of_getElem? ht
        have hall : ([23, 9, 3, 3, 30].all fun u => !Tryz.prog.wantsStandIn u) = true := by kernel_rfl
        exact (show Tryz.prog.wantsStandIn t = false by simpa using List.all_eq_true.1 hall t hm)⟩)
    (by kernel_rfl)
end Go.Proofs.YtkagolpnaicdoaaGreatDoor
