/-
  The reference of layer 1: Encode.
-/
import Derived.Test.YtepffknhkpppcaaDoorRefB
import Derived.Test.YtepffknhkpppcaaDoorBytesStep
namespace Go.Proofs.YtepffknhkpppcaaDoor
open Go.RowKit

theorem conv1 {w : World} {g n : Nat} (hg : w.heap[g]? = some (.cells #[.int .u8 n] 5 (0, 0))) (h : n < 256) : (convert 46 9 (.slice (some ⟨g, 0, none⟩) 1 1)).run Tryd.prog w = .ok (.string (bl [UInt8.ofNat n])) w := by
  refine str_of_brow (cap := 1) (n := 1) (f := fun _ => UInt8.ofNat n) ⟨heap_lt hg, fun j hj => ?_, fun j _ => frozen_of_block hg j⟩
  obtain rfl : j = 0 := by omega
  rw [cell_of_block hg, byteV_ofNat h]
  rfl
theorem conv2 {w : World} {g n m : Nat} (hg : w.heap[g]? = some (.cells #[.int .u8 n, .int .u8 m] 5 (0, 0))) (h : n < 256) (h2 : m < 256) : (convert 46 9 (.slice (some ⟨g, 0, none⟩) 2 2)).run Tryd.prog w = .ok (.string (bl [UInt8.ofNat n, UInt8.ofNat m])) w := by
  refine str_of_brow (cap := 2) (n := 2) (f := fun j => if j = 0 then UInt8.ofNat n else UInt8.ofNat m) ⟨heap_lt hg, fun j hj => ?_, fun j _ => frozen_of_block hg j⟩
  have h3 : j = 0 ∨ j = 1 := by omega
  rcases h3 with rfl | rfl
  · rw [cell_of_block hg, if_pos rfl, byteV_ofNat h]; rfl
  · rw [cell_of_block hg, if_neg (by decide), byteV_ofNat h2]; rfl
theorem bl_append (a b : List UInt8) : bl a ++ bl b = bl (a ++ b) := by
  rw [← Lib.mk_data (bl a ++ bl b)]
  unfold bl
  simp

end Go.Proofs.YtepffknhkpppcaaDoor
