/-
  The reader of bytes.
-/
import Derived.Test.YtlpfijkchbpdmaaDoorCellNum
namespace Go.Proofs.YtlpfijkchbpdmaaDoor
open Go.RowKit

structure Rd where
  rest : ByteArray
  e : Int

def zeros (n : Nat) : ByteArray := ⟨(List.replicate n 0).toArray⟩
def Rd.take (r : Rd) (n : Nat) : ByteArray × Rd :=
  if r.e = 0 then (if n ≤ r.rest.size then (r.rest.extract 0 n, ⟨r.rest.extract n r.rest.size, 0⟩) else (zeros n, ⟨r.rest, 10⟩)) else (zeros n, r)

def RdAt (w : World) (b : Nat) (r : Rd) : Prop := w.heap[b]? = some (.cells #[.string r.rest, .int .i64 r.e] 50 (0, 0))

/-- make([]byte, n), and a string of it -/
theorem make_zeros (w : World) (n : Nat) (hn : n ≤ 1000) : ∃ W, (Instr.makeSlice 44 (.int .i64 n) (.int .i64 n)).run Tryd.prog w = .ok (.slice (some ⟨w.heap.size, 0, none⟩) n n) W ∧
    (convert 44 9 (.slice (some ⟨w.heap.size, 0, none⟩) n n)).run Tryd.prog W = .ok (.string (zeros n)) W ∧ Fp [] w W := by
  have h := run_makeSlice (P := Tryd.prog) w 44 5 Tryd.t5 (.int .u8 0) Tryd.underlying44 (by kernel_rfl) (by kernel_rfl) .i64 .i64 n n (by omega) (Int.le_refl _) (by show (n : Int).toNat * 1 ≤ _; omega) (by show ((1 : Nat) : Int) * n ≤ _; omega) (by omega)
  change _ = Result.ok _ (w.alloc (.cells (madeCells (Value.int .u8 0).cells ((n : Int).toNat * 1)) 5)) at h
  simp only [Int.toNat_natCast, Nat.mul_one] at h
  refine ⟨_, h, ?_, Fp.alloc _ _⟩
  have hb := heap_alloc_at (w := w) (n := w.heap.size) rfl (.cells (madeCells (Value.int .u8 0).cells n) 5 (0, 0))
  have hc := run_convert_bytes_back (P := Tryd.prog) (w.alloc (.cells (madeCells (Value.int .u8 0).cells n) 5)) 44 9 5 ⟨w.heap.size, 0, none⟩ n (List.replicate n 0) Tryd.underlying44 Tryd.underlying5 Tryd.underlying9 (by
    intro j hj
    have hj' : j < n := by simpa using hj
    have e1 : (⟨w.heap.size, 0, none⟩ : Addr).add j = ⟨w.heap.size, j, none⟩ := by unfold Addr.add; split <;> simp_all
    rw [e1, cell_of_block hb j]
    simp [madeCells, Value.cells, hj', Nat.mod_one])
  simpa [zeros] using hc

set_option maxRecDepth 100000 in
set_option maxHeartbeats 1000000 in
theorem take_any (w : World) (b n : Nat) (r : Rd) (hr : RdAt w b r) (hn : n ≤ 1000) (hs : r.rest.size ≤ 9223372036854775807) :
    Calls Tryd.prog 50 #[.pointer (some ⟨b, 0, none⟩), .int .i64 n] w fun e w' => e = .returned (.string (r.take n).1) ∧ RdAt w' b (r.take n).2 ∧ Fp [b] w w' := by
  have c0 : w.cell? ⟨b, 0, none⟩ = some (.string r.rest) := cell_of_block hr 0
  have c1 : w.cell? ⟨b, 1, none⟩ = some (.int .i64 r.e) := cell_of_block hr 1
  have f0 : w.frozen? ⟨b, 0, none⟩ = false := frozen_of_block hr 0
  have f1 : w.frozen? ⟨b, 1, none⟩ = false := frozen_of_block hr 1
  have hlt := heap_lt hr
  have HR := Lib.hid hr
  obtain ⟨rest, e⟩ := r
  simp only at c0 c1 hs
  clear hr
  by_cases he : e = 0
  · subst he
    by_cases hl : n ≤ rest.size
    · have t1 : ¬ (rest.size : Int) < (n : Int) := by omega
      have HT : Hid ((⟨rest, 0⟩ : Rd).take n = (rest.extract 0 n, ⟨rest.extract n rest.size, 0⟩)) := by unfold Hid Rd.take; rw [if_pos rfl, if_pos hl]
      go_enter Tryd.func50, Tryd.ntmps50
      go_wp2_with (fail)
      go_ret
      rw [HT.out]
      refine ⟨rfl, ?_, ?_⟩
      · unfold RdAt
        first
          | (rw [heap_setCell_same HR.out]; rfl)
          | (show (w.setCell _ _).heap[b]? = _; rw [heap_setCell_same HR.out]; rfl)
      · exact Fp.setCell w ⟨b, 0, none⟩ _
    · have t1 : (rest.size : Int) < (n : Int) := by omega
      have HT : Hid ((⟨rest, 0⟩ : Rd).take n = (zeros n, ⟨rest, 10⟩)) := by unfold Hid Rd.take; rw [if_pos rfl, if_neg hl]
      obtain ⟨W, z1, z2, z3⟩ := make_zeros (w.setCell ⟨b, 1, none⟩ (.int .i64 10)) n hn
      have hsz : (w.setCell ⟨b, 1, none⟩ (.int .i64 10)).heap.size = w.heap.size := by simp [World.setCell]
      have HZ := Lib.hid z3
      rw [hsz] at z1 z2
      clear z3
      go_enter Tryd.func50, Tryd.ntmps50
      go_wp2_with (fail)
      go_ret
      rw [HT.out]
      refine ⟨rfl, ?_, (Fp.setCell w ⟨b, 1, none⟩ (.int .i64 10)).trans HZ.out (by simp)⟩
      unfold RdAt
      rw [HZ.out.block b (by rw [hsz]; exact hlt) (by simp), heap_setCell_same HR.out]
      rfl
  · have t1 : (e == 0) = false := by simpa using he
    have HT : Hid ((⟨rest, e⟩ : Rd).take n = (zeros n, ⟨rest, e⟩)) := by unfold Hid Rd.take; rw [if_neg he]
    obtain ⟨W, z1, z2, z3⟩ := make_zeros w n hn
    have HZ := Lib.hid z3
    clear z3
    go_enter Tryd.func50, Tryd.ntmps50
    go_wp2_with (fail)
    go_ret
    rw [HT.out]
    refine ⟨rfl, ?_, HZ.out.mono (by simp)⟩
    unfold RdAt
    rw [HZ.out.block b hlt (by simp)]
    exact HR.out
theorem zeros_size (n : Nat) : (zeros n).size = n := by
  show (List.replicate n (0 : UInt8)).toArray.size = n
  simp

theorem take_size (r : Rd) (n : Nat) : (r.take n).1.size = n := by
  unfold Rd.take
  split
  · split
    · rename_i h; simp; omega
    · exact zeros_size n
  · exact zeros_size n

theorem take_rest (r : Rd) (n : Nat) : (r.take n).2.rest.size ≤ r.rest.size := by
  unfold Rd.take
  split
  · split
    · simp
    · exact Nat.le_refl _
  · exact Nat.le_refl _

theorem at_index {s : ByteArray} (h : 0 < s.size) : s[0] = atB s 0 := by
  unfold atB
  rw [List.getD_eq_getElem?_getD, List.getElem?_eq_getElem (by simpa using h)]
  simp
  rfl

def Rd.text (r : Rd) : ByteArray × Rd := (r.take 1).2.take (atB (r.take 1).1 0).toNat
def Rd.number (r : Rd) : Nat × Rd := (leN (r.take 8).1 8, (r.take 8).2)

set_option maxHeartbeats 1000000 in
theorem text_any (w : World) (b : Nat) (r : Rd) (hr : RdAt w b r) (hs : r.rest.size ≤ 9223372036854775807) :
    Calls Tryd.prog 32 #[.pointer (some ⟨b, 0, none⟩)] w fun e w' => e = .returned (.string r.text.1) ∧ RdAt w' b r.text.2 ∧ Fp [b] w w' := by
  have h1 := take_any w b 1 r hr (by omega) hs
  have HT : Hid (r.text = (r.take 1).2.take (atB (r.take 1).1 0).toNat) := rfl
  have hsz := take_size r 1
  have hrs := take_rest r 1
  obtain ⟨q, hp⟩ : ∃ q, r.take 1 = q := ⟨_, rfl⟩
  rw [hp] at h1 HT hsz hrs
  obtain ⟨s1, r1⟩ := q
  simp only at h1 HT hsz hrs
  have H1 := Lib.hid h1
  have hpos : 0 < s1.size := by omega
  have hat := at_index hpos
  have hb8 : (atB s1 0).toNat < 256 := (atB s1 0).toNat_lt
  clear h1 hp hr
  go_enter Tryd.func32, Tryd.ntmps32
  go_wp2_with (fail)
  refine H1.out.mono ?_
  rintro e w1 ⟨rfl, hr1, hf1⟩
  have h2 := take_any w1 b (atB s1 0).toNat r1 hr1 (by omega) (by omega)
  have H2 := Lib.hid h2
  have HF1 := Lib.hid hf1
  clear h2 hr1 hf1
  go_wp2_with (fail)
  refine H2.out.mono ?_
  rintro e w2 ⟨rfl, hr2, hf2⟩
  have HR2 := Lib.hid hr2
  have HF2 := Lib.hid hf2
  clear hr2 hf2
  go_wp2_with (fail)
  go_ret
  rw [HT.out]
  exact ⟨rfl, HR2.out, HF1.out.trans HF2.out (by simp)⟩
end Go.Proofs.YtlpfijkchbpdmaaDoor
