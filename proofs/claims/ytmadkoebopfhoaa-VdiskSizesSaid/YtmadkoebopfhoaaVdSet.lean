/-
  The disk's inner functions: set.
-/
import Derived.Test.YtmadkoebopfhoaaVdDefs
import Derived.Deep.RegionLaw
import Derived.Outline

namespace Go.Proofs.Ytmadkoebopfhoaa
open Go.RowKit Go.Maps Go.MapKept Go.ChangeMaps

theorem file_field0 (w : World) (s : ByteArray) (n : Int) : (Instr.field 52 (.agg #[.string s, .int .i64 n]) 0).run Try.prog w = .ok (.string s) w := by kernel_rfl

theorem dk_setSize {w : World} {b bm : Nat} {d : Dk} (h : DiskAt w b bm d) (n : Int) : DiskAt (w.setCell ⟨b, 1, none⟩ (.int .i64 n)) b bm { d with size := n } :=
  ⟨by rw [heap_setCell_same h.cells]; rfl, h.files.of_block (heap_setCell_other (Ne.symm h.ne) _)⟩
theorem dk_alloc {w : World} {b bm : Nat} {d : Dk} (h : DiskAt w b bm d) (o : Obj) : DiskAt (w.alloc o) b bm d := h.of_fp (Fp.alloc w o) (by simp) (by simp)
theorem dk_drew {w : World} {b bm : Nat} {d : Dk} (h : DiskAt w b bm d) : DiskAt w.drew b bm d := h.of_fp (Fp.drew w) (by simp) (by simp)

theorem dk_map {w : World} {b bm : Nat} {d : Dk} (h : DiskAt w b bm d) {o : Obj} {F : List (ByteArray × File)} (hm : MapAt fileTy (setBlock w bm o) bm F) : DiskAt (setBlock w bm o) b bm { d with files := F } :=
  ⟨by rw [(Fp.setBlock w bm o).block b (heap_lt h.cells) (by simp [h.ne])]; exact h.cells, hm⟩

/-- a range over the disk's map goes on behind a store at a key that is there -/
def RangeOn (w w' : World) (bm b : Nat) (d : Dk) (name : ByteArray) (f : File) (gone : Bool) : Prop :=
  gone = false → (mget d.files name).isSome = true → ∀ r done, r ≠ b → r ≠ bm → RangeAt fileTy w bm r d.files done → RangeAt fileTy w' bm r (mput d.files name f) done

theorem rangeAt_lt {w : World} {b r : Nat} {F : List (ByteArray × File)} {done : List ByteArray} (h : RangeAt fileTy w b r F done) : r < w.heap.size := by
  obtain ⟨es, clock, since, seen, c0, h1, h2, h3, h4, h5, _⟩ := h
  exact heap_lt h5

set_option maxHeartbeats 400000 in
theorem set_any (w : World) (b bm : Nat) (d : Dk) (name : ByteArray) (f : File) (gone : Bool) (hd : DiskAt w b bm d) (hname : name.size ≤ maxLen)
    (h1 : 0 ≤ d.size) (h2 : d.size ≤ 1000000000) (h3 : f.s.size ≤ 1000000000) (h4 : (fget d name).s.size ≤ 1000000000) :
    Calls Try.prog 25 #[.pointer (some ⟨b, 0, none⟩), .string name, fileV f, .bool gone] w fun e w' => e = .returned (.tuple #[]) ∧ DiskAt w' b bm (d.set name f gone) ∧ Fp [b, bm] w w' ∧ RangeOn w w' bm b d name f gone := by
  have c1 : w.cell? ⟨b, 1, none⟩ = some (.int .i64 d.size) := cell_of_block hd.cells 1
  have c2 : w.cell? ⟨b, 2, none⟩ = some (.map (some bm)) := cell_of_block hd.cells 2
  have f1 : w.frozen? ⟨b, 1, none⟩ = false := frozen_of_block hd.cells 1
  have hlt := heap_lt hd.cells
  have hl : (Instr.lookup 47 (.map (some bm)) (.string name) false).run Try.prog ((w.alloc (.cells #[.string f.s, .int .i64 f.synced] 52)).drew) = .ok (.agg #[.string (fget d name).s, .int .i64 (fget d name).synced]) ((w.alloc (.cells #[.string f.s, .int .i64 f.synced] 52)).drew) :=
    (dk_drew (dk_alloc hd _)).files.lookup false hname
  have hd1 := dk_drew (dk_drew (dk_alloc (dk_setSize hd (d.size + (↑f.s.size - ↑(fget d name).s.size))) (.cells #[.string f.s, .int .i64 f.synced] 52)))
  obtain ⟨es, clock, hu, hm, hborn⟩ := hd1.files.update (x := name) hname f
  have hd2 := dk_map hd1 hm
  change (Instr.mapUpdate 47 (.map (some bm)) (.string name) (.agg #[.string f.s, .int .i64 f.synced])).run Try.prog _ = _ at hu
  have hp : Fp [b, bm] w (setBlock ((w.setCell ⟨b, 1, none⟩ (.int .i64 (d.size + (↑f.s.size - ↑(fget d name).s.size)))).alloc (.cells #[.string f.s, .int .i64 f.synced] 52)).drew.drew bm (.map es clock)) :=
    (((Fp.setCell w ⟨b, 1, none⟩ _).mono (by simp)).trans ((Fp.alloc _ _).trans ((Fp.drew _).trans (Fp.drew _) (by simp)) (by simp)) (by simp)).trans (Fp.setBlock _ _ _) (by simp)
  have hro : RangeOn w (setBlock ((w.setCell ⟨b, 1, none⟩ (.int .i64 (d.size + (↑f.s.size - ↑(fget d name).s.size)))).alloc (.cells #[.string f.s, .int .i64 f.synced] 52)).drew.drew bm (.map es clock)) bm b d name f false := by
    intro _ hin r done h1 h2 hr
    have hbm : ((w.setCell ⟨b, 1, none⟩ (.int .i64 (d.size + (↑f.s.size - ↑(fget d name).s.size)))).alloc (.cells #[.string f.s, .int .i64 f.synced] 52)).drew.drew.heap[bm]? = w.heap[bm]? := by
      show ((w.setCell _ _).alloc _).heap[bm]? = _
      rw [Below.heap_alloc _ _ _ (by simpa [World.setCell] using hd.files.lt), heap_setCell_other (Ne.symm hd.ne)]
    have hr' := rangeAt_lt hr
    refine hr.put hin (heap_setBlock_same (hbm.trans (hr.map).choose_spec.choose_spec.1) _) ?_ hm (fun es0 clock0 h0 => hborn es0 clock0 (hbm.trans h0))
    rw [(Fp.setBlock _ _ _).block r (by simpa [World.setCell] using Nat.lt_succ_of_lt hr') (by simpa using h2)]
    show ((w.setCell _ _).alloc _).heap[r]? = _
    rw [Below.heap_alloc _ _ _ (by simpa [World.setCell] using hr'), heap_setCell_other h1]
  have hfd := file_field0
  obtain ⟨w2, hw2⟩ : ∃ w2, w2 = setBlock ((w.setCell ⟨b, 1, none⟩ (.int .i64 (d.size + (↑f.s.size - ↑(fget d name).s.size)))).alloc (.cells #[.string f.s, .int .i64 f.synced] 52)).drew.drew bm (.map es clock) := ⟨_, rfl⟩
  rw [← hw2] at hu hd2 hp hro
  clear hw2 hm hborn
  have c2' : w2.cell? ⟨b, 2, none⟩ = some (.map (some bm)) := cell_of_block hd2.cells 2
  have HD2 := Lib.hid hd2
  have HP := Lib.hid hp
  have HRO := Lib.hid hro
  obtain ⟨es3, clock3, hu3, hm3⟩ := hd2.files.delete (x := name) hname 0
  have HD3 := Lib.hid (dk_map hd2 hm3)
  clear hd2 hp hd1 hm3 hro
  change (Builtin.delete_ #[47, 9] 0 #[.map (some bm), .string name]).run Try.prog _ = _ at hu3
  unfold fileV
  cases gone
  all_goals
    go_enter Try.func25, Try.ntmps25
    go_wp2
    go_region
    go_wp2
    go_region
    go_wp2
    go_end0
  · exact ⟨rfl, HD2.out, HP.out, HRO.out⟩
  · exact ⟨rfl, HD3.out, HP.out.trans (Fp.setBlock _ _ _) (by simp), fun h => by cases h⟩
end Go.Proofs.Ytmadkoebopfhoaa
