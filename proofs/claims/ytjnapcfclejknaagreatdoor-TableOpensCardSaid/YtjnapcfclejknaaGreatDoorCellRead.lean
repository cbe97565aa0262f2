/-
  A number of eight bytes, the lowest one first. The reader of bytes. The reader of bytes: numbers and flags.
-/
import Derived.Test.YtjnapcfclejknaaGreatDoorBytes
import Derived.Laws.Bits64b
namespace Go.Proofs.YtjnapcfclejknaaGreatDoor
section
open Go.RowKit

/-- the number of the first k bytes of s -/
def leN (s : ByteArray) : Nat → Nat
  | 0 => 0
  | k + 1 => leN s k + (atB s k).toNat * 256 ^ k

theorem leN_lt (s : ByteArray) : ∀ k, leN s k < 256 ^ k
  | 0 => Nat.one_pos
  | k + 1 => by
    have h1 := leN_lt s k
    have h2 := (atB s k).toNat_lt
    show leN s k + (atB s k).toNat * 256 ^ k < 256 ^ (k + 1)
    have h3 : (atB s k).toNat * 256 ^ k ≤ 255 * 256 ^ k := Nat.mul_le_mul_right _ (by omega)
    rw [Nat.pow_succ]
    omega

theorem leN_or (s : ByteArray) (k : Nat) : leN s k ||| ((atB s k).toNat * 256 ^ k) = leN s (k + 1) := by
  have h1 := leN_lt s k
  have h2 : (256 : Nat) ^ k = 2 ^ (8 * k) := by rw [Nat.pow_mul]
  rw [h2] at h1 ⊢
  have h3 := Nat.two_pow_add_eq_or_of_lt h1 (atB s k).toNat
  show _ = leN s k + (atB s k).toNat * 256 ^ k
  rw [h2, Nat.or_comm, Nat.mul_comm, ← h3]
  omega

theorem index_at {s : ByteArray} {k : Nat} (h : k < s.size) : s.data.toList[k]? = some (atB s k) := by
  unfold atB
  have hlen : s.data.toList.length = s.size := rfl
  rw [List.getD_eq_getElem?_getD, List.getElem?_eq_getElem (by omega)]
  rfl

theorem or_step {s : ByteArray} {k : Nat} (hks : k < s.size) (hk : k < 8) :
    bits .or .u64 (leN s k : Int) (IntKind.u64.wrap (IntKind.u64.wrap (s[k].toNat : Int) * 2 ^ (8 * k))) = (leN s (k + 1) : Int) := by
  have h0 : s[k].toNat < 256 := s[k].toNat_lt
  have e1 : atB s k = s[k] := by
    unfold atB
    rw [List.getD_eq_getElem?_getD, List.getElem?_eq_getElem (by simpa using hks)]
    simp
    rfl
  have h1 := leN_lt s k
  have h2 := leN_lt s (k + 1)
  have h3 := leN_or s k
  rw [e1] at h3
  have h4 : (256 : Nat) ^ k = 2 ^ (8 * k) := by rw [Nat.pow_mul]
  have h5 : (256 : Nat) ^ (k + 1) ≤ 256 ^ 8 := Nat.pow_le_pow_right (by decide) (by omega)
  have h6 : (256 : Nat) ^ 8 = 18446744073709551616 := by decide
  have h7 : s[k].toNat * 256 ^ k < 18446744073709551616 := by
    have : leN s (k + 1) = leN s k + s[k].toNat * 256 ^ k := by rw [← e1]; rfl
    omega
  have w1 : IntKind.u64.wrap (s[k].toNat : Int) = (s[k].toNat : Int) := by rw [IntKind.wrap_u64]; omega
  have w2 : ((s[k].toNat : Int) * 2 ^ (8 * k)) = ((s[k].toNat * 256 ^ k : Nat) : Int) := by
    rw [h4]; push_cast; rfl
  rw [w1, w2, IntKind.wrap_u64, show ((s[k].toNat * 256 ^ k : Nat) : Int) % 18446744073709551616 = ((s[k].toNat * 256 ^ k : Nat) : Int) by omega]
  have h8 : (256 : Nat) ^ k ≤ 256 ^ 8 := Nat.pow_le_pow_right (by decide) (by omega)
  rw [bits_or_u64_nat _ _ (by omega) h7, h3]

set_option maxRecDepth 100000 in
set_option maxHeartbeats 1000000 in
theorem number_any (w : World) (s : ByteArray) (hs : 8 ≤ s.size) (hs2 : s.size ≤ 9223372036854775807) :
    Calls Tryz.prog 103 #[.string s] w fun e w' => e = .returned (.int .u64 (leN s 8)) ∧ Fp [] w w' := by
  go_enter Tryz.func103, Tryz.ntmps103
  go_wp2
  go_loopg [2, 4] 8 (fun g n i wr => ∃ k : Nat, g + k = 8 ∧ n = .int .u64 (leN s k) ∧ i = .int .i64 k ∧ Fp [] w wr)
  case atStart => exact ⟨0, rfl, rfl, rfl, Fp.refl _ _⟩
  case round =>
    obtain ⟨k, hg, rfl, rfl, hf⟩ := hrel
    have HF := Lib.hid hf
    clear hf
    by_cases hk : k < 8
    · have hks : k < s.size := by omega
      go_wp2_with (fail)
      go_roundg (gk - 1)
      case measure => omega
      case rel => exact ⟨k + 1, by omega, by rw [or_step hks hk], by go_num, HF.out⟩
    · obtain rfl : k = 8 := by omega
      go_wp2_with (fail)
      go_ret
      exact ⟨rfl, HF.out⟩
end

section
open Go.RowKit

structure Rd where
  rest : ByteArray
  e : Int

def zeros (n : Nat) : ByteArray := ⟨(List.replicate n 0).toArray⟩
def Rd.take (r : Rd) (n : Nat) : ByteArray × Rd :=
  if r.e = 0 then (if n ≤ r.rest.size then (r.rest.extract 0 n, ⟨r.rest.extract n r.rest.size, 0⟩) else (zeros n, ⟨r.rest, 10⟩)) else (zeros n, r)

/-- make([]byte, n), and a string of it -/
theorem make_zeros (w : World) (n : Nat) (hn : n ≤ 1000) : ∃ W, (Instr.makeSlice 52 (.int .i64 n) (.int .i64 n)).run Tryz.prog w = .ok (.slice (some ⟨w.heap.size, 0, none⟩) n n) W ∧
    (convert 52 9 (.slice (some ⟨w.heap.size, 0, none⟩) n n)).run Tryz.prog W = .ok (.string (zeros n)) W ∧ Fp [] w W := by
  have h := run_makeSlice (P := Tryz.prog) w 52 5 Tryz.t5 (.int .u8 0) Tryz.underlying52 (by kernel_rfl) (by kernel_rfl) .i64 .i64 n n (by omega) (Int.le_refl _) (by show (n : Int).toNat * 1 ≤ _; omega) (by show ((1 : Nat) : Int) * n ≤ _; omega) (by omega)
  change _ = Result.ok _ (w.alloc (.cells (madeCells (Value.int .u8 0).cells ((n : Int).toNat * 1)) 5)) at h
  simp only [Int.toNat_natCast, Nat.mul_one] at h
  refine ⟨_, h, ?_, Fp.alloc _ _⟩
  have hb := heap_alloc_at (w := w) (n := w.heap.size) rfl (.cells (madeCells (Value.int .u8 0).cells n) 5 (0, 0))
  have hc := run_convert_bytes_back (P := Tryz.prog) (w.alloc (.cells (madeCells (Value.int .u8 0).cells n) 5)) 52 9 5 ⟨w.heap.size, 0, none⟩ n (List.replicate n 0) Tryz.underlying52 Tryz.underlying5 Tryz.underlying9 (by
    intro j hj
    have hj' : j < n := by simpa using hj
    have e1 : (⟨w.heap.size, 0, none⟩ : Addr).add j = ⟨w.heap.size, j, none⟩ := by unfold Addr.add; split <;> simp_all
    rw [e1, cell_of_block hb j]
    simp [madeCells, Value.cells, hj', Nat.mod_one])
  simpa [zeros] using hc

theorem zeros_size (n : Nat) : (zeros n).size = n := by
  show (List.replicate n (0 : UInt8)).toArray.size = n
  simp

theorem take_size (r : Rd) (n : Nat) : (r.take n).1.size = n := by
  unfold Rd.take
  split
  · split
    · rename_i h; simp; omega
    · exact zeros_size n
  · exact zeros_size n

theorem take_rest (r : Rd) (n : Nat) : (r.take n).2.rest.size ≤ r.rest.size := by
  unfold Rd.take
  split
  · split
    · simp
    · exact Nat.le_refl _
  · exact Nat.le_refl _

theorem at_index {s : ByteArray} (h : 0 < s.size) : s[0] = atB s 0 := by
  unfold atB
  rw [List.getD_eq_getElem?_getD, List.getElem?_eq_getElem (by simpa using h)]
  simp
  rfl

def Rd.text (r : Rd) : ByteArray × Rd := (r.take 1).2.take (atB (r.take 1).1 0).toNat
def Rd.number (r : Rd) : Nat × Rd := (leN (r.take 8).1 8, (r.take 8).2)

end

section
open Go.RowKit

def Rd.flag (r : Rd) : Bool × Rd := (atB (r.take 1).1 0 == 1, if (r.take 1).2.e = 0 ∧ 1 < (atB (r.take 1).1 0).toNat then ⟨(r.take 1).2.rest, 1⟩ else (r.take 1).2)

end
end Go.Proofs.YtjnapcfclejknaaGreatDoor
