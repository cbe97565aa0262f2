/-
 Frames and blocks of memory, over any program. The cell of internal/bytealg.MaxLen holds a number.
-/
import Derived.WalkKit
import Derived.Lib.Hide
import Derived.Deep.QuietTactic
import Derived.BigQuiet
import Derived.Deep.LoopGhost
import Derived.Deep.RegionLaw
import Derived.Maps.RangeWalk
set_option maxRecDepth 100000
set_option maxHeartbeats 8000000
namespace Go.Proofs.YtigajcabgaddgaaGreatDoor
section
open Go.RowKit Go.Maps Go.MapKept Go.ChangeMaps
structure Fp (S : List Nat) (w w' : World) : Prop where
 os : w'.os = w.os
 tape : w'.tape = w.tape
 output : w'.output = w.output
 size : w.heap.size ≤ w'.heap.size
 block : ∀ k, k < w.heap.size → k ∉ S → w'.heap[k]? = w.heap[k]?
theorem Fp.refl (S : List Nat) (w : World) : Fp S w w := ⟨rfl, rfl, rfl, Nat.le_refl _, fun _ _ _ => rfl⟩
theorem Fp.trans {S S' : List Nat} {a b c : World} (h : Fp S a b) (k : Fp S' b c) (hs : ∀ i ∈ S', i ∈ S ∨ a.heap.size ≤ i) : Fp S a c :=
 ⟨k.os.trans h.os, k.tape.trans h.tape, k.output.trans h.output, Nat.le_trans h.size k.size, fun i hi hn =>
  (k.block i (Nat.lt_of_lt_of_le hi h.size) (fun hm => by rcases hs i hm with h1 | h1; exact hn h1; omega)).trans (h.block i hi hn)⟩
theorem Fp.mono {S S' : List Nat} {a b : World} (h : Fp S a b) (hs : ∀ i ∈ S, i ∈ S') : Fp S' a b :=
 ⟨h.os, h.tape, h.output, h.size, fun i hi hn => h.block i hi (fun hm => hn (hs i hm))⟩
theorem Fp.alloc (w : World) (o : Obj) : Fp [] w (w.alloc o) := ⟨rfl, rfl, rfl, by simp, fun k hk _ => Below.heap_alloc _ _ _ hk⟩
theorem Fp.setCell (w : World) (p : Addr) (u : Value) : Fp [p.block] w (w.setCell p u) :=
 ⟨rfl, rfl, rfl, by simp [World.setCell], fun k _ hn => Below.heap_setCell _ _ _ _ (by simpa using hn)⟩
theorem Fp.setBlock (w : World) (b : Nat) (o : Obj) : Fp [b] w (setBlock w b o) :=
 ⟨rfl, rfl, rfl, by simp [ChangeMaps.setBlock], fun k _ hn => by
  have : b ≠ k := fun e => hn (by simp [e])
  simp [ChangeMaps.setBlock, this]⟩
theorem Fp.drew (w : World) : Fp [] w w.drew := ⟨rfl, rfl, rfl, Nat.le_refl _, fun _ _ _ => rfl⟩
theorem Fp.alloc' {S : List Nat} {a w : World} (h : Fp S a w) (o : Obj) : Fp S a (w.alloc o) := h.trans (Fp.alloc w o) (by simp)
theorem Fp.drew' {S : List Nat} {a w : World} (h : Fp S a w) : Fp S a w.drew := h.trans (Fp.drew w) (by simp)
theorem Fp.cell {S : List Nat} {w w' : World} (h : Fp S w w') {p : Addr} (hp : p.block < w.heap.size) (hn : p.block ∉ S) : w'.cell? p = w.cell? p := World.cell?_of_block (w := w) (h.block p.block hp hn)
theorem Fp.below {w w' : World} {S : List Nat} (h : Fp S w w') {B : Nat} (hB : B ≤ w.heap.size) (hs : ∀ i ∈ S, B ≤ i) : Below B w w' :=
 ⟨h.os, h.tape, h.output, h.size, fun k hk => h.block k (by omega) (fun hm => by have := hs k hm; omega)⟩
theorem Below.toFp {w w' : World} (h : Below w.heap.size w w') : Fp [] w w' := ⟨h.os, h.tape, h.output, h.size, fun k hk _ => h.block k hk⟩
theorem heap_setCell_same {w : World} {b o : Nat} {c : Array Value} {T : TypeId} {fr : Nat × Nat} (h : w.heap[b]? = some (.cells c T fr)) (v : Value) :
  (w.setCell ⟨b, o, none⟩ v).heap[b]? = some (.cells (c.setIfInBounds o v) T fr) := by
 simp [World.setCell, Array.getElem?_modify, h]
theorem heap_alloc_old {w : World} {b : Nat} {o o' : Obj} (h : w.heap[b]? = some o) : (w.alloc o').heap[b]? = some o := by
 rw [Below.heap_alloc _ _ _ (Array.getElem?_eq_some_iff.1 h).1]; exact h
theorem heap_alloc_at {w : World} {n : Nat} (h : n = w.heap.size) (o : Obj) : (w.alloc o).heap[n]? = some o := by
 subst h; exact (MapKept.heap_alloc w o).1
theorem heap_lt {w : World} {b : Nat} {o : Obj} (h : w.heap[b]? = some o) : b < w.heap.size := (Array.getElem?_eq_some_iff.1 h).1
theorem cell_of_block {w : World} {b : Nat} {c : Array Value} {T : TypeId} {fr : Nat × Nat} (h : w.heap[b]? = some (.cells c T fr)) (o : Nat) : w.cell? ⟨b, o, none⟩ = c[o]? := by
 simp [World.cell?, h]
end
section
open Go.RowKit
def MaxAt (w : World) : Prop := ∃ m, w.cell? ⟨4, 0, none⟩ = some (.int .i64 m)
theorem MaxAt.fp {w w' : World} {S : List Nat} (h : MaxAt w) (hf : Fp S w w') (hs : 4 ∉ S) : MaxAt w' := by
 obtain ⟨m, hm⟩ := h
 exact ⟨m, by rw [hf.cell (World.block_lt_of_cell? _ _ hm) hs]; exact hm⟩
end
end Go.Proofs.YtigajcabgaddgaaGreatDoor
