/-
  The acts that are done to a disk, as they lie in memory.
-/
import Derived.Test.YtmadkoebopfhoaaVdDefs
namespace Go.Proofs.Ytmadkoebopfhoaa
open Go.RowKit

structure ActV where
  kind : Int
  n : Int
  keep : Int
  a : ByteArray
  b : ByteArray
  s : ByteArray

/-- the cells of an act -/
structure ActCells (w : World) (b o : Nat) (x : ActV) : Prop where
  c0 : w.cell? ⟨b, o, none⟩ = some (.int .i64 x.kind)
  c1 : w.cell? ⟨b, o + 1, none⟩ = some (.int .i64 x.n)
  c2 : w.cell? ⟨b, o + 2, none⟩ = some (.int .i64 x.keep)
  c3 : w.cell? ⟨b, o + 3, none⟩ = some (.string x.a)
  c4 : w.cell? ⟨b, o + 4, none⟩ = some (.string x.b)
  c5 : w.cell? ⟨b, o + 5, none⟩ = some (.string x.s)

structure ActsAt (w : World) (a : Option Addr) (len : Nat) (l : List ActV) : Prop where
  len : len = l.length
  cells : l = [] ∨ ∃ b o, a = some ⟨b, o, none⟩ ∧ b < w.heap.size ∧ ∀ i (h : i < l.length), ActCells w b (o + i * 6) l[i]

theorem ActCells.fp {w w' : World} {b o : Nat} {x : ActV} {S : List Nat} (h : ActCells w b o x) (hf : Fp S w w') (hb : b < w.heap.size) (hS : b ∉ S) : ActCells w' b o x :=
  ⟨(hf.cell (by exact hb) hS).trans h.c0, (hf.cell (by exact hb) hS).trans h.c1, (hf.cell (by exact hb) hS).trans h.c2, (hf.cell (by exact hb) hS).trans h.c3, (hf.cell (by exact hb) hS).trans h.c4, (hf.cell (by exact hb) hS).trans h.c5⟩

end Go.Proofs.Ytmadkoebopfhoaa
