/-
  The cell of internal/bytealg.MaxLen holds a number.
-/
import Derived.Test.YtepffknhkpppcaaDoorMem
namespace Go.Proofs.YtepffknhkpppcaaDoor
open Go.RowKit

def MaxAt (w : World) : Prop := ∃ m, w.cell? ⟨0, 0, none⟩ = some (.int .i64 m)
theorem MaxAt.fp {w w' : World} {S : List Nat} (h : MaxAt w) (hf : Fp S w w') (hs : 0 ∉ S) : MaxAt w' := by
  obtain ⟨m, hm⟩ := h
  exact ⟨m, by rw [hf.cell (World.block_lt_of_cell? _ _ hm) hs]; exact hm⟩

end Go.Proofs.YtepffknhkpppcaaDoor
