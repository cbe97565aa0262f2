/-
  slices.Grow and slices.Concat of bytes.
-/
import Derived.Test.YtepffknhkpppcaaDoorBytes2
import Derived.Lib.AppendZeros
import Derived.Laws.AppendOwnNone
import Derived.Outline
namespace Go.Proofs.YtepffknhkpppcaaDoor
open Go.RowKit

/-- a slice of just these bytes, wherever it lies -/
def Reads (w : World) (v : Value) (l : List UInt8) : Prop :=
  (v = .slice none 0 0 ∧ l = []) ∨ ∃ b off cap, v = .slice (some ⟨b, off, none⟩) l.length cap ∧ b < w.heap.size ∧ ∀ j (h : j < l.length), w.cell? ⟨b, off + j, none⟩ = some (byteV l[j])

theorem Reads.fp {w w' : World} {v : Value} {l : List UInt8} (h : Reads w v l) (hf : Fp [] w w') : Reads w' v l := by
  rcases h with h | ⟨b, off, cap, h1, h2, h3⟩
  · exact Or.inl h
  · exact Or.inr ⟨b, off, cap, h1, Nat.lt_of_lt_of_le h2 hf.size, fun j hj => by rw [hf.cell h2 (by simp)]; exact h3 j hj⟩
theorem Owned.reads {w : World} {base : Nat} {v : Value} {l : List UInt8} (h : Owned w base v l) : Reads w v l := by
  obtain ⟨h1, h2⟩ := h
  rcases h2 with ⟨rfl, h0⟩ | ⟨g, cap, cur, rfl, hg, hh, hn, hm, hs, ht⟩
  · exact Or.inl ⟨rfl, List.eq_nil_of_length_eq_zero h0⟩
  · refine Or.inr ⟨g, 0, cap, rfl, heap_lt hh, fun j hj => ?_⟩
    rw [Nat.zero_add, cell_of_block hh]
    have h3 : (cur.toList.take (l.length * 1))[j]? = (l.map byteV)[j]? := by rw [ht]
    rw [List.getElem?_take, if_pos (by omega), List.getElem?_map, List.getElem?_eq_getElem hj] at h3
    simpa using h3

/-- append of whatever reads -/
theorem wpList_append_reads {w : World} {ops : Array Oper} {rest : List Oper} {o : Oper} {a : Act} {Q : Exit → Act → World → Prop} (hgd : o.guard = none) (s x : Operand)
    (ho : o.op = .call { callee := .builtin .append, args := #[s, x], argTypes := #[46, 46] }) (base : Nat) (v : Value) (l : List UInt8) (hs : a.eval s = v) (hown : Owned w base v l)
    (vx : Value) (bs : List UInt8) (hx : a.eval x = vx) (hr : Reads w vx bs) (hlen : l.length + bs.length ≤ 1000000000) (hbase : base ≤ w.heap.size)
    (h : ∀ v' w', Owned w' base v' (l ++ bs) → Below base w w' → wpList Tryd.prog ops Q rest (a.put o.dst v') w') : wpList Tryd.prog ops Q (o :: rest) a w := by
  obtain ⟨i0, hi, hz0, hz1, hz2⟩ := info_parts Tryd.info5
  rcases hr with ⟨rfl, rfl⟩ | ⟨b, off, cap, rfl, _, hn⟩
  · refine wpList_append_own_none hgd s x 46 ho base 5 i0 1 Tryd.underlying46 hi v l.length (l.map byteV) hs hown hx ?_
    exact h v w (by rw [List.append_nil]; exact hown) (Below.refl _ _)
  · exact wpList_append_bytes hgd s x ho base v l hs hown b off bs.length cap bs hx rfl hn hlen hbase h

/-- a block of slices, and their bytes -/
structure RowsAt (w : World) (sb : Nat) (vs : List Value) (ls : List (List UInt8)) : Prop where
  blk : w.heap[sb]? = some (.cells vs.toArray 46 (0, 0))
  len : vs.length = ls.length
  row : ∀ i (h : i < vs.length), Reads w vs[i] (ls.getD i [])
theorem RowsAt.fp {w w' : World} {sb : Nat} {vs : List Value} {ls : List (List UInt8)} (h : RowsAt w sb vs ls) (hf : Fp [] w w') : RowsAt w' sb vs ls :=
  ⟨(hf.block sb (heap_lt h.blk) (by simp)).trans h.blk, h.len, fun i hi => (h.row i hi).fp hf⟩

def lenV (v : Value) : Nat := match v with | .slice _ n _ => n | _ => 0
theorem Reads.form {w : World} {v : Value} {l : List UInt8} (h : Reads w v l) : ∃ a cap, v = .slice a l.length cap := by
  rcases h with ⟨rfl, rfl⟩ | ⟨b, off, cap, rfl, _⟩
  · exact ⟨_, _, rfl⟩
  · exact ⟨_, _, rfl⟩

def totL (ls : List (List UInt8)) (k : Nat) : Nat := (ls.take k).flatten.length
theorem totL_succ (ls : List (List UInt8)) (k : Nat) (h : k < ls.length) : totL ls (k + 1) = totL ls k + (ls.getD k []).length := by
  unfold totL
  rw [List.take_succ_eq_append_getElem h, List.flatten_append, List.length_append]
  simp [List.getD_eq_getElem?_getD, List.getElem?_eq_getElem h]
theorem totL_le (ls : List (List UInt8)) (k : Nat) : totL ls k ≤ ls.flatten.length := by
  unfold totL
  conv => rhs; rw [← List.take_append_drop k ls, List.flatten_append, List.length_append]
  omega
theorem flat_succ (ls : List (List UInt8)) (k : Nat) (h : k < ls.length) : (ls.take (k + 1)).flatten = (ls.take k).flatten ++ ls.getD k [] := by
  rw [List.take_succ_eq_append_getElem h, List.flatten_append]
  simp [List.getD_eq_getElem?_getD, List.getElem?_eq_getElem h]

end Go.Proofs.YtepffknhkpppcaaDoor
