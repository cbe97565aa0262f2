/-
  The disk's small methods: New, On, Up, Size, Fuse, Synced, Read.
-/
import Derived.Test.YtmadkoebopfhoaaVdNamed
namespace Go.Proofs.Ytmadkoebopfhoaa
open Go.RowKit Go.Maps Go.MapKept Go.ChangeMaps

theorem file_field1 (w : World) (s : ByteArray) (n : Int) : (Instr.field 52 (.agg #[.string s, .int .i64 n]) 1).run Try.prog w = .ok (.int .i64 n) w := by kernel_rfl

def Dk.new (cap : Int) : Dk := { cap := max cap 0, size := 0, files := [], off := false, left := 0, keep := 0 }
def Dk.on (d : Dk) : Dk := { d with off := false, left := 0 }
def Dk.fuse (d : Dk) (n keep : Int) : Dk := { d with left := max n 0, keep := keep }
def Dk.read (d : Dk) (name : ByteArray) : ByteArray × Int :=
  if d.named [name] ≠ 0 then (⟨#[]⟩, d.named [name]) else match mget d.files name with
    | none => (⟨#[]⟩, 3)
    | some f => (f.s, 0)

theorem new_any (cap : Int) (w : World) :
    Calls Try.prog 9 #[.int .i64 cap] w fun e w' => e = .returned (.pointer (some ⟨w.heap.size + 1, 0, none⟩)) ∧ DiskAt w' (w.heap.size + 1) w.heap.size (Dk.new cap) ∧ Fp [] w w' := by
  have hmm := @run_makeMap Try.prog
  have hm := MapAt.made fileTy w
  have hd : ∀ cp : Int, cp = max cap 0 → DiskAt ((w.alloc (.map #[] 0)).alloc (.cells #[.int .i64 cp, .int .i64 0, .map (some w.heap.size), .bool false, .int .i64 0, .int .i64 0] 49 (0, 0))) (w.heap.size + 1) w.heap.size (Dk.new cap) := fun cp hc => by
    subst hc
    refine ⟨?_, hm.of_block (Below.heap_alloc _ _ _ (by simp))⟩
    exact heap_alloc_at (by simp) _
  have HD := Lib.hid hd
  clear hd hm
  by_cases h0 : 0 ≤ cap
  all_goals
    go_enter Try.func9, Try.ntmps9
    go_wp2
    go_ret
    exact ⟨rfl, HD.out _ (by omega), (Fp.alloc _ _).trans (Fp.alloc _ _) (by simp)⟩

theorem size_any (w : World) (b bm : Nat) (d : Dk) (hd : DiskAt w b bm d) :
    Calls Try.prog 19 #[.pointer (some ⟨b, 0, none⟩)] w fun e w' => e = .returned (.int .i64 d.size) ∧ w = w' := by
  have c1 : w.cell? ⟨b, 1, none⟩ = some (.int .i64 d.size) := cell_of_block hd.cells 1
  clear hd
  go_enter Try.func19, Try.ntmps19
  go_wp2
  go_ret
  exact ⟨rfl, rfl⟩

theorem on_any (w : World) (b bm : Nat) (d : Dk) (hd : DiskAt w b bm d) :
    Calls Try.prog 14 #[.pointer (some ⟨b, 0, none⟩)] w fun e w' => e = .returned (.tuple #[]) ∧ DiskAt w' b bm d.on ∧ Fp [b] w w' := by
  have c3 : w.cell? ⟨b, 3, none⟩ = some (.bool d.off) := cell_of_block hd.cells 3
  have c4 : w.cell? ⟨b, 4, none⟩ = some (.int .i64 d.left) := cell_of_block hd.cells 4
  have f3 : w.frozen? ⟨b, 3, none⟩ = false := frozen_of_block hd.cells 3
  have f4 : w.frozen? ⟨b, 4, none⟩ = false := frozen_of_block hd.cells 4
  have HD := Lib.hid hd
  clear hd
  go_enter Try.func14, Try.ntmps14
  go_wp2
  go_end0
  refine ⟨rfl, ⟨?_, HD.out.files.of_block ?_⟩, ((Fp.setCell _ _ _).trans (Fp.setCell _ _ _) (by simp)).mono (by simp)⟩
  · rw [heap_setCell_same (heap_setCell_same HD.out.cells _)]; rfl
  · rw [heap_setCell_other (Ne.symm HD.out.ne), heap_setCell_other (Ne.symm HD.out.ne)]

theorem fuse_any (w : World) (b bm : Nat) (d : Dk) (n keep : Int) (hd : DiskAt w b bm d) :
    Calls Try.prog 17 #[.pointer (some ⟨b, 0, none⟩), .int .i64 n, .int .i64 keep] w fun e w' => e = .returned (.tuple #[]) ∧ DiskAt w' b bm (d.fuse n keep) ∧ Fp [b] w w' := by
  have c3 : w.cell? ⟨b, 4, none⟩ = some (.int .i64 d.left) := cell_of_block hd.cells 4
  have c4 : w.cell? ⟨b, 5, none⟩ = some (.int .i64 d.keep) := cell_of_block hd.cells 5
  have f3 : w.frozen? ⟨b, 4, none⟩ = false := frozen_of_block hd.cells 4
  have f4 : w.frozen? ⟨b, 5, none⟩ = false := frozen_of_block hd.cells 5
  have HD := Lib.hid hd
  clear hd
  have hmax : ∀ m : Int, m = max n 0 → DiskAt ((w.setCell ⟨b, 4, none⟩ (.int .i64 m)).setCell ⟨b, 5, none⟩ (.int .i64 keep)) b bm (d.fuse n keep) := by
    rintro m rfl
    refine ⟨?_, HD.out.files.of_block ?_⟩
    · rw [heap_setCell_same (heap_setCell_same HD.out.cells _)]; rfl
    · rw [heap_setCell_other (Ne.symm HD.out.ne), heap_setCell_other (Ne.symm HD.out.ne)]
  have HM := Lib.hid hmax
  clear hmax
  by_cases h0 : 0 ≤ n
  all_goals
    go_enter Try.func17, Try.ntmps17
    go_wp2
    go_end0
    exact ⟨rfl, HM.out _ (by omega), ((Fp.setCell _ _ _).trans (Fp.setCell _ _ _) (by simp)).mono (by simp)⟩

theorem synced_any (w : World) (b bm : Nat) (d : Dk) (name : ByteArray) (hd : DiskAt w b bm d) (hname : name.size ≤ maxLen) :
    Calls Try.prog 16 #[.pointer (some ⟨b, 0, none⟩), .string name] w fun e w' => e = .returned (.int .i64 (fget d name).synced) ∧ w = w' := by
  have c2 : w.cell? ⟨b, 2, none⟩ = some (.map (some bm)) := cell_of_block hd.cells 2
  have hl : (Instr.lookup 47 (.map (some bm)) (.string name) false).run Try.prog w = .ok (.agg #[.string (fget d name).s, .int .i64 (fget d name).synced]) w := hd.files.lookup false hname
  have hfd := file_field1
  clear hd
  go_enter Try.func16, Try.ntmps16
  go_wp2
  go_ret
  exact ⟨rfl, rfl⟩

set_option maxHeartbeats 400000 in
theorem read_any (w : World) (b bm : Nat) (d : Dk) (name : ByteArray) (hd : DiskAt w b bm d) (hname : name.size ≤ maxLen) :
    Calls Try.prog 15 #[.pointer (some ⟨b, 0, none⟩), .string name] w fun e w' => e = .returned (.tuple #[.string (d.read name).1, .int .i64 (d.read name).2]) ∧ Fp [] w w' := by
  have c2 : w.cell? ⟨b, 2, none⟩ = some (.map (some bm)) := cell_of_block hd.cells 2
  have hlt := heap_lt hd.cells
  have hd1 := hd.of_fp (Fp.alloc w (.cells #[.string name] 9)) (by simp) (by simp)
  have hl : (Instr.lookup 47 (.map (some bm)) (.string name) true).run Try.prog (w.alloc (.cells #[.string name] 9)) = .ok (.tuple #[.agg #[.string (fget d name).s, .int .i64 (fget d name).synced], .bool (mget d.files name).isSome]) (w.alloc (.cells #[.string name] 9)) := hd1.files.lookup true hname
  have HD1 := Lib.hid hd1
  clear hd hd1
  have hnm : Calls Try.prog 22 #[.pointer (some ⟨b, 0, none⟩), .slice (some ⟨w.heap.size, 0, none⟩) 1 1] (w.alloc (.cells #[.string name] 9)) fun e w' => e = .returned (.int .i64 (d.named [name])) ∧ (w.alloc (.cells #[.string name] 9)) = w' :=
    named_any (w.alloc (.cells #[.string name] 9)) b bm w.heap.size d [name] HD1.out (MapKept.heap_alloc w _).1 (by simp)
  have HN := Lib.hid hnm
  clear hnm
  have HF := Lib.hid ((Fp.alloc w (.cells #[.string name] 9)))
  obtain ⟨nm, hnm⟩ : ∃ nm, nm = d.named [name] := ⟨_, rfl⟩
  rw [← hnm] at HN
  by_cases h0 : nm = 0
  · subst h0
    cases hg : mget d.files name with
    | none =>
      rw [hg] at hl
      have HR : Hid (d.read name = (⟨#[]⟩, 3)) := by simp [Hid, Dk.read, ← hnm, hg]
      clear hg hnm
      go_enter Try.func15, Try.ntmps15
      go_wp2_with (go_at_call 22; refine HN.out.mono ?_; rintro e w' ⟨rfl, rfl⟩)
      go_ret2
      exact ⟨by rw [HR.out]; rfl, HF.out.alloc' _⟩
    | some f =>
      have hfg : fget d name = f := by simp [fget, hg]
      rw [hg, hfg] at hl
      have HR : Hid (d.read name = (f.s, 0)) := by simp [Hid, Dk.read, ← hnm, hg]
      clear hg hnm hfg
      go_enter Try.func15, Try.ntmps15
      go_wp2_with (go_at_call 22; refine HN.out.mono ?_; rintro e w' ⟨rfl, rfl⟩)
      go_ret2
      exact ⟨by rw [HR.out]; rfl, HF.out.alloc' _⟩
  · have HR : Hid (d.read name = (⟨#[]⟩, nm)) := by simp [Hid, Dk.read, ← hnm, h0]
    have hb : ((nm : Int) != 0) = true := by simpa using h0
    clear hnm hl h0
    go_enter Try.func15, Try.ntmps15
    go_wp2_with (go_at_call 22; refine HN.out.mono ?_; rintro e w' ⟨rfl, rfl⟩)
    go_ret2
    exact ⟨by rw [HR.out]; rfl, HF.out⟩
end Go.Proofs.Ytmadkoebopfhoaa
