/-
  The reference of layer 1: name, Key, part. The reference of layer 1: Key, part. The reference of layer 1: Decode. The reference of layer 1: FromKey.
-/
import Derived.Test.YtjnapcfclejknaaDoorRefC
namespace Go.Proofs.YtjnapcfclejknaaDoor
section
open Go.RowKit

theorem esc_append (a b : List UInt8) : esc (a ++ b) = esc a ++ esc b := by
  induction a with
  | nil => rfl
  | cons x a ih =>
    by_cases h : x = 0
    · subst h; rw [List.cons_append, esc_zero, esc_zero, ih]; rfl
    · rw [List.cons_append, esc_one h, esc_one h, ih]; rfl
theorem take_at {s : ByteArray} {k : Nat} (h : k < s.size) : s.data.toList.take (k + 1) = s.data.toList.take k ++ [atB s k] := by
  have hl : k < s.data.toList.length := by rw [← Lib.size_eq]; exact h
  rw [List.take_succ_eq_append_getElem hl]
  congr 2
  unfold atB
  rw [List.getD_eq_getElem?_getD, List.getElem?_eq_getElem hl]
  rfl
theorem esc_take {s : ByteArray} {k : Nat} (h : k < s.size) : esc (s.data.toList.take (k + 1)) = esc (s.data.toList.take k) ++ esc [atB s k] := by
  rw [take_at h, esc_append]
theorem esc_take_length (s : ByteArray) (k : Nat) : (esc (s.data.toList.take k)).length ≤ 2 * s.size := by
  have h := esc_length (s.data.toList.take k)
  have h2 := List.length_take_le k s.data.toList
  have h3 : (s.data.toList.take k).length ≤ s.data.toList.length := by rw [List.length_take]; omega
  rw [← Lib.size_eq] at h3
  omega
theorem ofNat_toNat (y : UInt8) : UInt8.ofNat y.toNat = y := by simp

end

section
open Go.RowKit

theorem keyL_names (c : Cel) : bl (esc c.row.data.toList ++ [0, 1]) ++ bl (esc c.col.data.toList ++ [0, 1]) ++ bl (be8 (M64 - c.ts)) ++ bl (be8 (M64 - c.seq)) = bl (keyL c) := by
  simp only [bl_append]
  unfold keyL
  simp
theorem wrap_most {a : Nat} (h : a < 18446744073709551616) : IntKind.u64.wrap (18446744073709551615 - (a : Int)) = ((M64 - a : Nat) : Int) := by
  rw [IntKind.wrap_u64]; unfold M64; omega

/-! ### part -/
def partL : List UInt8 → List UInt8 → Nat → List UInt8 × Nat
  | [], _, _ => ([], 0)
  | [_], _, _ => ([], 0)
  | x :: y :: l, acc, i => if x = 0 then (if y = 1 then (acc, i + 2) else if y = 255 then partL l (acc ++ [0]) (i + 2) else ([], 0)) else partL (y :: l) (acc ++ [x]) (i + 1)
theorem partL_step {x : UInt8} (h : x ≠ 0) (l acc : List UInt8) (i : Nat) : partL (x :: l) acc i = partL l (acc ++ [x]) (i + 1) := by
  cases l with
  | nil => rfl
  | cons y l =>
    conv => lhs; unfold partL
    rw [if_neg h]
theorem partL_zero (y : UInt8) (l acc : List UInt8) (i : Nat) : partL (0 :: y :: l) acc i = if y = 1 then (acc, i + 2) else if y = 255 then partL l (acc ++ [0]) (i + 2) else ([], 0) := by
  conv => lhs; unfold partL
  rw [if_pos rfl]
theorem drop_at {s : ByteArray} {k : Nat} (h : k < s.size) : s.data.toList.drop k = atB s k :: s.data.toList.drop (k + 1) := by
  have hl : k < s.data.toList.length := by rw [← Lib.size_eq]; exact h
  rw [List.drop_eq_getElem_cons hl]
  congr 1
  unfold atB
  rw [List.getD_eq_getElem?_getD, List.getElem?_eq_getElem hl]
  rfl

end

section
open Go.RowKit

def zr : Cel × ByteArray × Int → Prop := fun _ => True
def decR3 (row col s2 : ByteArray) : Cel × ByteArray × Int :=
  if 1 < (atB s2 16).toNat then (zeroC, ⟨#[]⟩, 1)
  else if (shortR (s2.extract 17 s2.size)).2.2 = true then
    (if mayB ⟨row, col, valV s2 false 8, valV (s2.extract 8 s2.size) false 8, atB s2 16 == 1, (shortR (s2.extract 17 s2.size)).1⟩ = true
     then (⟨row, col, valV s2 false 8, valV (s2.extract 8 s2.size) false 8, atB s2 16 == 1, (shortR (s2.extract 17 s2.size)).1⟩, (shortR (s2.extract 17 s2.size)).2.1, 0) else (zeroC, ⟨#[]⟩, 1))
  else (zeroC, ⟨#[]⟩, 10)
def decR2 (row s1 : ByteArray) : Cel × ByteArray × Int :=
  if (shortR s1).2.2 = true ∧ 17 ≤ (shortR s1).2.1.size then decR3 row (shortR s1).1 (shortR s1).2.1 else (zeroC, ⟨#[]⟩, 10)
def decR (s : ByteArray) : Cel × ByteArray × Int :=
  if (shortR s).2.2 = true then decR2 (shortR s).1 (shortR s).2.1 else (zeroC, ⟨#[]⟩, 10)

theorem shortR_sizes (s : ByteArray) : (shortR s).1.size ≤ 255 ∧ (shortR s).2.1.size ≤ s.size := by
  unfold shortR
  have : (atB s 0).toNat < 256 := (atB s 0).toNat_lt
  split
  · exact ⟨Nat.zero_le _, Nat.zero_le _⟩
  · exact ⟨by simp; omega, by simp⟩

/-- the blocks of the result and of the cell in the making -/
structure Two (w W : World) (l : Array Value) : Prop where
  a : W.heap[w.heap.size]? = some (.cells #[.string ⟨#[]⟩, .string ⟨#[]⟩, .int .u64 0, .int .u64 0, .bool false, .string ⟨#[]⟩] 45 (0, 0))
  b : W.heap[w.heap.size + 1]? = some (.cells l 45 (0, 0))
  f : Fp [] w W
theorem Two.fp {w W W' : World} {l : Array Value} (h : Two w W l) (hf : Fp [] W W') : Two w W' l :=
  ⟨(hf.block _ (heap_lt h.a) (by simp)).trans h.a, (hf.block _ (heap_lt h.b) (by simp)).trans h.b, h.f.trans hf (by simp)⟩
theorem Two.set {w W : World} {l : Array Value} (h : Two w W l) (o : Nat) (v : Value) : Two w (W.setCell ⟨w.heap.size + 1, o, none⟩ v) (l.setIfInBounds o v) :=
  ⟨(heap_setCell_other (by omega) v).trans h.a, heap_setCell_same h.b v, h.f.setCell' (Or.inr (by simp)) _⟩
theorem two_start (w : World) : Two w ((w.alloc (.cells #[.string ⟨#[]⟩, .string ⟨#[]⟩, .int .u64 0, .int .u64 0, .bool false, .string ⟨#[]⟩] 45)).alloc (.cells #[.string ⟨#[]⟩, .string ⟨#[]⟩, .int .u64 0, .int .u64 0, .bool false, .string ⟨#[]⟩] 45)) #[.string ⟨#[]⟩, .string ⟨#[]⟩, .int .u64 0, .int .u64 0, .bool false, .string ⟨#[]⟩] :=
  ⟨heap_alloc_old (heap_alloc_at rfl _), heap_alloc_at (by simp) _, (Fp.alloc _ _).alloc' _⟩
theorem Two.cellA {w W : World} {l : Array Value} (h : Two w W l) : (W.cell? ⟨w.heap.size, 0, none⟩ = some (.string ⟨#[]⟩) ∧ W.cell? ⟨w.heap.size, 1, none⟩ = some (.string ⟨#[]⟩) ∧ W.cell? ⟨w.heap.size, 2, none⟩ = some (.int .u64 0) ∧ W.cell? ⟨w.heap.size, 3, none⟩ = some (.int .u64 0) ∧ W.cell? ⟨w.heap.size, 4, none⟩ = some (.bool false) ∧ W.cell? ⟨w.heap.size, 5, none⟩ = some (.string ⟨#[]⟩)) ∧
    (W.frozen? ⟨w.heap.size, 0, none⟩ = false ∧ W.frozen? ⟨w.heap.size, 1, none⟩ = false ∧ W.frozen? ⟨w.heap.size, 2, none⟩ = false ∧ W.frozen? ⟨w.heap.size, 3, none⟩ = false ∧ W.frozen? ⟨w.heap.size, 4, none⟩ = false ∧ W.frozen? ⟨w.heap.size, 5, none⟩ = false) :=
  ⟨⟨cell_of_block h.a 0, cell_of_block h.a 1, cell_of_block h.a 2, cell_of_block h.a 3, cell_of_block h.a 4, cell_of_block h.a 5⟩, ⟨frozen_of_block h.a 0, frozen_of_block h.a 1, frozen_of_block h.a 2, frozen_of_block h.a 3, frozen_of_block h.a 4, frozen_of_block h.a 5⟩⟩
theorem Two.cellB {w W : World} {v0 v1 v2 v3 v4 v5 : Value} (h : Two w W #[v0, v1, v2, v3, v4, v5]) : (W.cell? ⟨w.heap.size + 1, 0, none⟩ = some v0 ∧ W.cell? ⟨w.heap.size + 1, 1, none⟩ = some v1 ∧ W.cell? ⟨w.heap.size + 1, 2, none⟩ = some v2 ∧ W.cell? ⟨w.heap.size + 1, 3, none⟩ = some v3 ∧ W.cell? ⟨w.heap.size + 1, 4, none⟩ = some v4 ∧ W.cell? ⟨w.heap.size + 1, 5, none⟩ = some v5) ∧
    (W.frozen? ⟨w.heap.size + 1, 0, none⟩ = false ∧ W.frozen? ⟨w.heap.size + 1, 1, none⟩ = false ∧ W.frozen? ⟨w.heap.size + 1, 2, none⟩ = false ∧ W.frozen? ⟨w.heap.size + 1, 3, none⟩ = false ∧ W.frozen? ⟨w.heap.size + 1, 4, none⟩ = false ∧ W.frozen? ⟨w.heap.size + 1, 5, none⟩ = false) :=
  ⟨⟨cell_of_block h.b 0, cell_of_block h.b 1, cell_of_block h.b 2, cell_of_block h.b 3, cell_of_block h.b 4, cell_of_block h.b 5⟩, ⟨frozen_of_block h.b 0, frozen_of_block h.b 1, frozen_of_block h.b 2, frozen_of_block h.b 3, frozen_of_block h.b 4, frozen_of_block h.b 5⟩⟩

end

section
open Go.RowKit

theorem toList_inj' {a b : ByteArray} (h : a.toList = b.toList) : a = b := by
  rw [ByteArray.toList_eq, ByteArray.toList_eq] at h
  rw [← Lib.mk_data a, ← Lib.mk_data b, h]
def coordC (row col : ByteArray) (ts seq : Nat) : Cel := ⟨row, col, ts, seq, false, ⟨#[]⟩⟩
def endK (s : ByteArray) (c : Cel) : Cel × Int := if keyB c = s then (c, 0) else (zeroC, 1)
def fkR2 (s row : ByteArray) (n : Nat) (Q : List UInt8 × Nat) : Cel × Int :=
  if Q.2 = 0 ∨ s.size ≠ n + Q.2 + 16 then (zeroC, 1) else endK s (coordC row (bl Q.1) (M64 - valV (s.extract (n + Q.2) s.size) true 8) (M64 - valV (s.extract (n + Q.2 + 8) s.size) true 8))
def fkR1 (s : ByteArray) (P : List UInt8 × Nat) : Cel × Int :=
  if P.2 = 0 then (zeroC, 1) else fkR2 s (bl P.1) P.2 (partL (s.extract P.2 s.size).data.toList [] 0)
def fkR (s : ByteArray) : Cel × Int := fkR1 s (partL s.data.toList [] 0)

theorem partL_le : ∀ (l acc : List UInt8) (i : Nat), (partL l acc i).2 ≤ i + l.length ∧ (partL l acc i).1.length ≤ acc.length + l.length
  | [], acc, i => by simp [partL]
  | [x], acc, i => by simp [partL]
  | x :: y :: l, acc, i => by
    by_cases h : x = 0
    · subst h
      rw [partL_zero]
      by_cases h1 : y = 1
      · rw [if_pos h1]; simp
      · by_cases h2 : y = 255
        · rw [if_neg h1, if_pos h2]
          have := partL_le l (acc ++ [0]) (i + 2)
          simp only [List.length_append, List.length_cons, List.length_nil] at *
          omega
        · rw [if_neg h1, if_neg h2]; simp
    · rw [partL_step h]
      have := partL_le (y :: l) (acc ++ [x]) (i + 1)
      simp only [List.length_append, List.length_cons, List.length_nil] at *
      omega

end
end Go.Proofs.YtjnapcfclejknaaDoor
