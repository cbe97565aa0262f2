/-
  Same: one coordinate.
-/
import Derived.Test.YtlpfijkchbpdmaaDoorCellB
namespace Go.Proofs.YtlpfijkchbpdmaaDoor
open Go.RowKit

def sameC (a b : Cel) : Bool := (a.row.toList == b.row.toList) && ((a.col.toList == b.col.toList) && (a.ts == b.ts))

set_option maxRecDepth 100000 in
set_option maxHeartbeats 1000000 in
theorem same_any (a b : Cel) (w : World) : Calls Tryd.prog 20 #[cellV a, cellV b] w fun e w' => e = .returned (.bool (sameC a b)) ∧ Fp [] w w' := by
  unfold cellV
  go_enter Tryd.func20, Tryd.ntmps20
  go_wp2_with (fail)
  go_region
  go_wp2_with (fail)
  all_goals
    go_ret
    refine ⟨ret_bool (by simp [sameC, *] <;> omega), ?_⟩
    exact ((Fp.alloc _ _).alloc' _).drew'
end Go.Proofs.YtlpfijkchbpdmaaDoor
