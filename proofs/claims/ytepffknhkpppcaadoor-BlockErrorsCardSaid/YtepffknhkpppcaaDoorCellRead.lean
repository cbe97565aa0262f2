/-
  The reader of bytes.
-/
import Derived.Test.YtepffknhkpppcaaDoorCellNum
namespace Go.Proofs.YtepffknhkpppcaaDoor
open Go.RowKit

structure Rd where
  rest : ByteArray
  e : Int

def zeros (n : Nat) : ByteArray := ⟨(List.replicate n 0).toArray⟩
def Rd.take (r : Rd) (n : Nat) : ByteArray × Rd :=
  if r.e = 0 then (if n ≤ r.rest.size then (r.rest.extract 0 n, ⟨r.rest.extract n r.rest.size, 0⟩) else (zeros n, ⟨r.rest, 10⟩)) else (zeros n, r)

/-- make([]byte, n), and a string of it -/
theorem make_zeros (w : World) (n : Nat) (hn : n ≤ 1000) : ∃ W, (Instr.makeSlice 46 (.int .i64 n) (.int .i64 n)).run Tryd.prog w = .ok (.slice (some ⟨w.heap.size, 0, none⟩) n n) W ∧
    (convert 46 9 (.slice (some ⟨w.heap.size, 0, none⟩) n n)).run Tryd.prog W = .ok (.string (zeros n)) W ∧ Fp [] w W := by
  have h := run_makeSlice (P := Tryd.prog) w 46 5 Tryd.t5 (.int .u8 0) Tryd.underlying46 (by kernel_rfl) (by kernel_rfl) .i64 .i64 n n (by omega) (Int.le_refl _) (by show (n : Int).toNat * 1 ≤ _; omega) (by show ((1 : Nat) : Int) * n ≤ _; omega) (by omega)
  change _ = Result.ok _ (w.alloc (.cells (madeCells (Value.int .u8 0).cells ((n : Int).toNat * 1)) 5)) at h
  simp only [Int.toNat_natCast, Nat.mul_one] at h
  refine ⟨_, h, ?_, Fp.alloc _ _⟩
  have hb := heap_alloc_at (w := w) (n := w.heap.size) rfl (.cells (madeCells (Value.int .u8 0).cells n) 5 (0, 0))
  have hc := run_convert_bytes_back (P := Tryd.prog) (w.alloc (.cells (madeCells (Value.int .u8 0).cells n) 5)) 46 9 5 ⟨w.heap.size, 0, none⟩ n (List.replicate n 0) Tryd.underlying46 Tryd.underlying5 Tryd.underlying9 (by
    intro j hj
    have hj' : j < n := by simpa using hj
    have e1 : (⟨w.heap.size, 0, none⟩ : Addr).add j = ⟨w.heap.size, j, none⟩ := by unfold Addr.add; split <;> simp_all
    rw [e1, cell_of_block hb j]
    simp [madeCells, Value.cells, hj', Nat.mod_one])
  simpa [zeros] using hc

theorem zeros_size (n : Nat) : (zeros n).size = n := by
  show (List.replicate n (0 : UInt8)).toArray.size = n
  simp

theorem take_size (r : Rd) (n : Nat) : (r.take n).1.size = n := by
  unfold Rd.take
  split
  · split
    · rename_i h; simp; omega
    · exact zeros_size n
  · exact zeros_size n

theorem take_rest (r : Rd) (n : Nat) : (r.take n).2.rest.size ≤ r.rest.size := by
  unfold Rd.take
  split
  · split
    · simp
    · exact Nat.le_refl _
  · exact Nat.le_refl _

theorem at_index {s : ByteArray} (h : 0 < s.size) : s[0] = atB s 0 := by
  unfold atB
  rw [List.getD_eq_getElem?_getD, List.getElem?_eq_getElem (by simpa using h)]
  simp
  rfl

def Rd.text (r : Rd) : ByteArray × Rd := (r.take 1).2.take (atB (r.take 1).1 0).toNat
def Rd.number (r : Rd) : Nat × Rd := (leN (r.take 8).1 8, (r.take 8).2)

end Go.Proofs.YtepffknhkpppcaaDoor
