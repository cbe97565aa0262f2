/-
  Slices of cells as they lie.
-/
import Derived.Test.YtjnapcfclejknaaGreatDoorCellPure
namespace Go.Proofs.YtjnapcfclejknaaGreatDoor
open Go.RowKit

/-- the six cells of a cell -/
structure CelCells (w : World) (b o : Nat) (c : Cel) : Prop where
  c0 : w.cell? ⟨b, o, none⟩ = some (.string c.row)
  c1 : w.cell? ⟨b, o + 1, none⟩ = some (.string c.col)
  c2 : w.cell? ⟨b, o + 2, none⟩ = some (.int .u64 c.ts)
  c3 : w.cell? ⟨b, o + 3, none⟩ = some (.int .u64 c.seq)
  c4 : w.cell? ⟨b, o + 4, none⟩ = some (.bool c.del)
  c5 : w.cell? ⟨b, o + 5, none⟩ = some (.string c.val)
theorem CelCells.fp {w w' : World} {b o : Nat} {c : Cel} {S : List Nat} (h : CelCells w b o c) (hf : Fp S w w') (hb : b < w.heap.size) (hS : b ∉ S) : CelCells w' b o c :=
  ⟨(hf.cell (by exact hb) hS).trans h.c0, (hf.cell (by exact hb) hS).trans h.c1, (hf.cell (by exact hb) hS).trans h.c2, (hf.cell (by exact hb) hS).trans h.c3, (hf.cell (by exact hb) hS).trans h.c4, (hf.cell (by exact hb) hS).trans h.c5⟩
/-- a slice of cells as it lies -/
structure CelsAt (w : World) (a : Option Addr) (len : Nat) (l : List Cel) : Prop where
  len : len = l.length
  cells : l = [] ∨ ∃ b o, a = some ⟨b, o, none⟩ ∧ b < w.heap.size ∧ ∀ i (h : i < l.length), CelCells w b (o + i * 6) l[i]
  ok : ∀ c ∈ l, CelOK c
theorem CelsAt.fp {w w' : World} {a : Option Addr} {len : Nat} {l : List Cel} (h : CelsAt w a len l) (hf : Fp [] w w') : CelsAt w' a len l := by
  refine ⟨h.len, ?_, h.ok⟩
  rcases h.cells with h0 | ⟨b, o, rfl, hb, hc⟩
  · exact Or.inl h0
  · exact Or.inr ⟨b, o, rfl, Nat.lt_of_lt_of_le hb hf.size, fun i hi => (hc i hi).fp hf hb (by simp)⟩
theorem cels_get {w : World} {a : Option Addr} {len k : Nat} {l : List Cel} (h : CelsAt w a len l) (hk : k < l.length) : ∃ b1 o1, a = some ⟨b1, o1, none⟩ ∧ b1 < w.heap.size ∧ ∀ w2, Fp [] w w2 → CelCells w2 b1 (o1 + k * 6) l[k] := by
  rcases h.cells with h0 | ⟨b1, o1, h1, h2, h3⟩
  · subst h0; exact absurd hk (Nat.not_lt_zero _)
  · exact ⟨b1, o1, h1, h2, fun w2 hf => (h3 k hk).fp hf h2 (by simp)⟩
end Go.Proofs.YtjnapcfclejknaaGreatDoor
