/-
  The reference of layer 1: Decode.
-/
import Derived.Test.YtepffknhkpppcaaDoorRefC
namespace Go.Proofs.YtepffknhkpppcaaDoor
open Go.RowKit

def zr : Cel × ByteArray × Int → Prop := fun _ => True
def decR3 (row col s2 : ByteArray) : Cel × ByteArray × Int :=
  if 1 < (atB s2 16).toNat then (zeroC, ⟨#[]⟩, 1)
  else if (shortR (s2.extract 17 s2.size)).2.2 = true then
    (if mayB ⟨row, col, valV s2 false 8, valV (s2.extract 8 s2.size) false 8, atB s2 16 == 1, (shortR (s2.extract 17 s2.size)).1⟩ = true
     then (⟨row, col, valV s2 false 8, valV (s2.extract 8 s2.size) false 8, atB s2 16 == 1, (shortR (s2.extract 17 s2.size)).1⟩, (shortR (s2.extract 17 s2.size)).2.1, 0) else (zeroC, ⟨#[]⟩, 1))
  else (zeroC, ⟨#[]⟩, 10)
def decR2 (row s1 : ByteArray) : Cel × ByteArray × Int :=
  if (shortR s1).2.2 = true ∧ 17 ≤ (shortR s1).2.1.size then decR3 row (shortR s1).1 (shortR s1).2.1 else (zeroC, ⟨#[]⟩, 10)
def decR (s : ByteArray) : Cel × ByteArray × Int :=
  if (shortR s).2.2 = true then decR2 (shortR s).1 (shortR s).2.1 else (zeroC, ⟨#[]⟩, 10)

theorem shortR_sizes (s : ByteArray) : (shortR s).1.size ≤ 255 ∧ (shortR s).2.1.size ≤ s.size := by
  unfold shortR
  have : (atB s 0).toNat < 256 := (atB s 0).toNat_lt
  split
  · exact ⟨Nat.zero_le _, Nat.zero_le _⟩
  · exact ⟨by simp; omega, by simp⟩

/-- the blocks of the result and of the cell in the making -/
structure Two (w W : World) (l : Array Value) : Prop where
  a : W.heap[w.heap.size]? = some (.cells #[.string ⟨#[]⟩, .string ⟨#[]⟩, .int .u64 0, .int .u64 0, .bool false, .string ⟨#[]⟩] 36 (0, 0))
  b : W.heap[w.heap.size + 1]? = some (.cells l 36 (0, 0))
  f : Fp [] w W
theorem Two.fp {w W W' : World} {l : Array Value} (h : Two w W l) (hf : Fp [] W W') : Two w W' l :=
  ⟨(hf.block _ (heap_lt h.a) (by simp)).trans h.a, (hf.block _ (heap_lt h.b) (by simp)).trans h.b, h.f.trans hf (by simp)⟩
theorem Two.set {w W : World} {l : Array Value} (h : Two w W l) (o : Nat) (v : Value) : Two w (W.setCell ⟨w.heap.size + 1, o, none⟩ v) (l.setIfInBounds o v) :=
  ⟨(heap_setCell_other (by omega) v).trans h.a, heap_setCell_same h.b v, h.f.setCell' (Or.inr (by simp)) _⟩
theorem two_start (w : World) : Two w ((w.alloc (.cells #[.string ⟨#[]⟩, .string ⟨#[]⟩, .int .u64 0, .int .u64 0, .bool false, .string ⟨#[]⟩] 36)).alloc (.cells #[.string ⟨#[]⟩, .string ⟨#[]⟩, .int .u64 0, .int .u64 0, .bool false, .string ⟨#[]⟩] 36)) #[.string ⟨#[]⟩, .string ⟨#[]⟩, .int .u64 0, .int .u64 0, .bool false, .string ⟨#[]⟩] :=
  ⟨heap_alloc_old (heap_alloc_at rfl _), heap_alloc_at (by simp) _, (Fp.alloc _ _).alloc' _⟩
theorem Two.cellA {w W : World} {l : Array Value} (h : Two w W l) : (W.cell? ⟨w.heap.size, 0, none⟩ = some (.string ⟨#[]⟩) ∧ W.cell? ⟨w.heap.size, 1, none⟩ = some (.string ⟨#[]⟩) ∧ W.cell? ⟨w.heap.size, 2, none⟩ = some (.int .u64 0) ∧ W.cell? ⟨w.heap.size, 3, none⟩ = some (.int .u64 0) ∧ W.cell? ⟨w.heap.size, 4, none⟩ = some (.bool false) ∧ W.cell? ⟨w.heap.size, 5, none⟩ = some (.string ⟨#[]⟩)) ∧
    (W.frozen? ⟨w.heap.size, 0, none⟩ = false ∧ W.frozen? ⟨w.heap.size, 1, none⟩ = false ∧ W.frozen? ⟨w.heap.size, 2, none⟩ = false ∧ W.frozen? ⟨w.heap.size, 3, none⟩ = false ∧ W.frozen? ⟨w.heap.size, 4, none⟩ = false ∧ W.frozen? ⟨w.heap.size, 5, none⟩ = false) :=
  ⟨⟨cell_of_block h.a 0, cell_of_block h.a 1, cell_of_block h.a 2, cell_of_block h.a 3, cell_of_block h.a 4, cell_of_block h.a 5⟩, ⟨frozen_of_block h.a 0, frozen_of_block h.a 1, frozen_of_block h.a 2, frozen_of_block h.a 3, frozen_of_block h.a 4, frozen_of_block h.a 5⟩⟩
theorem Two.cellB {w W : World} {v0 v1 v2 v3 v4 v5 : Value} (h : Two w W #[v0, v1, v2, v3, v4, v5]) : (W.cell? ⟨w.heap.size + 1, 0, none⟩ = some v0 ∧ W.cell? ⟨w.heap.size + 1, 1, none⟩ = some v1 ∧ W.cell? ⟨w.heap.size + 1, 2, none⟩ = some v2 ∧ W.cell? ⟨w.heap.size + 1, 3, none⟩ = some v3 ∧ W.cell? ⟨w.heap.size + 1, 4, none⟩ = some v4 ∧ W.cell? ⟨w.heap.size + 1, 5, none⟩ = some v5) ∧
    (W.frozen? ⟨w.heap.size + 1, 0, none⟩ = false ∧ W.frozen? ⟨w.heap.size + 1, 1, none⟩ = false ∧ W.frozen? ⟨w.heap.size + 1, 2, none⟩ = false ∧ W.frozen? ⟨w.heap.size + 1, 3, none⟩ = false ∧ W.frozen? ⟨w.heap.size + 1, 4, none⟩ = false ∧ W.frozen? ⟨w.heap.size + 1, 5, none⟩ = false) :=
  ⟨⟨cell_of_block h.b 0, cell_of_block h.b 1, cell_of_block h.b 2, cell_of_block h.b 3, cell_of_block h.b 4, cell_of_block h.b 5⟩, ⟨frozen_of_block h.b 0, frozen_of_block h.b 1, frozen_of_block h.b 2, frozen_of_block h.b 3, frozen_of_block h.b 4, frozen_of_block h.b 5⟩⟩

end Go.Proofs.YtepffknhkpppcaaDoor
