/-
  The disk as data, and where it lies in memory.
-/
import Derived.Test.YtmadkoebopfhoaaRows
import Derived.Test.YtmadkoebopfhoaaMaps
import Derived.Test.YtmadkoebopfhoaaMem
namespace Go.Proofs.Ytmadkoebopfhoaa
open Go.RowKit Go.Maps Go.MapKept Go.ChangeMaps

/-! ### the disk -/
structure File where
  s : ByteArray
  synced : Nat

structure Dk where
  cap : Int
  size : Int
  files : List (ByteArray × File)
  off : Bool
  left : Int
  keep : Int

def fileV (f : File) : Value := .agg #[.string f.s, .int .i64 f.synced]

noncomputable def fileTy : MTy Try.prog 47 9 52 ByteArray File where
  K := string_keyed Try.underlying9
  ht := Try.underlying47
  kv := .string
  mv := fileV
  ok := fun s => s.size ≤ maxLen
  inj := fun h => by cases h; rfl
  key := fun h => ⟨_, Go.WideMaps.keyOf_string_mk Try.underlying9 h⟩
  zero := ⟨⟨#[]⟩, 0⟩
  hz := fun w => by kernel_rfl

def dkCells (d : Dk) (bm : Nat) : Array Value := #[.int .i64 d.cap, .int .i64 d.size, .map (some bm), .bool d.off, .int .i64 d.left, .int .i64 d.keep]

structure DiskAt (w : World) (b bm : Nat) (d : Dk) : Prop where
  cells : w.heap[b]? = some (.cells (dkCells d bm) 49 (0, 0))
  files : MapAt fileTy w bm d.files

theorem DiskAt.ne {w : World} {b bm : Nat} {d : Dk} (h : DiskAt w b bm d) : b ≠ bm := by
  rintro rfl
  obtain ⟨es, clock, h1, _⟩ := h.files
  rw [h.cells] at h1
  cases h1

theorem DiskAt.of_fp {w w' : World} {S : List Nat} {b bm : Nat} {d : Dk} (h : DiskAt w b bm d) (hf : Fp S w w') (h1 : b ∉ S) (h2 : bm ∉ S) : DiskAt w' b bm d :=
  ⟨(hf.block b (heap_lt h.cells) h1).trans h.cells, h.files.of_block (hf.block bm h.files.lt h2)⟩

def zeroFile : File := ⟨⟨#[]⟩, 0⟩
def fget (d : Dk) (name : ByteArray) : File := (mget d.files name).getD zeroFile
def Dk.set (d : Dk) (name : ByteArray) (f : File) (gone : Bool) : Dk :=
  { d with size := d.size + (f.s.size - (fget d name).s.size), files := if gone then mdel (mput d.files name f) name else mput d.files name f }

end Go.Proofs.Ytmadkoebopfhoaa
