/-
  The disk's calls that go through the gate: Sync, Delete, Rename, Create.
-/
import Derived.Test.YtmadkoebopfhoaaVdOps
namespace Go.Proofs.Ytmadkoebopfhoaa
open Go.RowKit Go.Maps Go.MapKept Go.ChangeMaps

theorem fget_tick {d : Dk} {name : ByteArray} {f : File} (h : mget d.files name = some f) : fget d.tick name = f := by
  show (mget d.files name).getD zeroFile = f
  rw [h]; rfl

/-! ### Sync -/
def synced (f : File) : File := ⟨f.s, f.s.size⟩
def Dk.syncG (d : Dk) (name : ByteArray) (f : File) : Dk := if d.does false then d.tick.set name (synced f) false else d.tick
def Dk.sync (d : Dk) (name : ByteArray) : Dk := d.thereD name (d.syncG name)

theorem sync1_enters (f pd pn : Value) : ∀ w, (callFunc 28 #[f, pd, pn]).run Try.prog w = .ok (.enter 28 #[f, pd, pn]) w := fun w => by kernel_rfl

set_option maxHeartbeats 400000 in
theorem sync1_any (w : World) (b bm qd qn : Nat) (d : Dk) (f : File) (name : ByteArray) (hd : DiskAt w b bm d) (hname : name.size ≤ maxLen)
    (h2 : w.cell? ⟨qd, 0, none⟩ = some (.pointer (some ⟨b, 0, none⟩))) (h3 : w.cell? ⟨qn, 0, none⟩ = some (.string name))
    (g0 : 0 ≤ d.size) (g1 : d.size ≤ 1000000000) (g2 : f.s.size ≤ 1000000000) (g3 : (fget d name).s.size ≤ 1000000000) :
    Calls Try.prog 28 #[.agg #[.string f.s, .int .i64 f.synced], .pointer (some ⟨qd, 0, none⟩), .pointer (some ⟨qn, 0, none⟩)] w fun e w' => e = .returned (.tuple #[]) ∧ DiskAt w' b bm (d.set name (synced f) false) ∧ Fp [b, bm] w w' := by
  have hfa := Fp.alloc w (.cells #[.string f.s, .int .i64 f.s.size] 52)
  have hset := set_any (w.alloc (.cells #[.string f.s, .int .i64 f.s.size] 52)) b bm d name (synced f) false (hd.of_fp hfa (by simp) (by simp)) hname g0 g1 g2 g3
  change Calls Try.prog _ #[_, _, .agg #[.string f.s, .int .i64 f.s.size], _] _ _ at hset
  have k2 : qd < w.heap.size := World.block_lt_of_cell? _ _ h2
  have k3 : qn < w.heap.size := World.block_lt_of_cell? _ _ h3
  have HS := Lib.hid hset
  have HFA := Lib.hid hfa
  clear hset hd hfa
  go_enter Try.func28, Try.ntmps28
  go_wp2_with (fail)
  refine HS.out.mono ?_
  rintro e w2 ⟨rfl, hd2, hf2, _⟩
  have HD2 := Lib.hid hd2
  clear hd2
  go_wp2_with (fail)
  go_end0
  exact ⟨rfl, HD2.out, (HFA.out.mono (by simp)).trans hf2 (by simp)⟩

theorem sync_gate (w : World) (b bm qd qn : Nat) (d : Dk) (name : ByteArray) (hok : DkOK d) (hname : name.size ≤ maxLen)
    (h2 : w.cell? ⟨qd, 0, none⟩ = some (.pointer (some ⟨b, 0, none⟩))) (h3 : w.cell? ⟨qn, 0, none⟩ = some (.string name)) (n2 : b ≠ qd) (n3 : b ≠ qn) :
    d.named [name] = 0 → ∀ f, mget d.files name = some f → DkOK (d.syncG name f) ∧ (d.does false = true → TurnsF w b bm d.tick f (d.syncG name f) 28 #[.pointer (some ⟨qd, 0, none⟩), .pointer (some ⟨qn, 0, none⟩)]) ∧ (d.does false = false → d.syncG name f = d.tick) := by
  intro _ f hf
  have hfile := hok.file hf
  have hle := hok.le
  have hz := hok.size
  have hfi := hok.fits
  unfold Dk.syncG
  cases hdo : d.does false
  · exact ⟨hok.tick, (fun h => by cases h), (fun _ => rfl)⟩
  · refine ⟨hok.tick.put name _ ?_ (Nat.le_refl _) (Or.inl (by show (mget d.files name).isSome = true; rw [hf]; rfl)), fun _ => ⟨sync1_enters _ _ _, fun w1 hd1 hf1 => ?_⟩, fun h => by cases h⟩
    · rw [fget_tick hf]
      show (total d.files : Int) + (f.s.size : Nat) - f.s.size ≤ d.cap
      omega
    · exact sync1_any w1 b bm qd qn d.tick f name hd1 hname (box_fp hf1 n2 h2) (box_fp hf1 n3 h3) (by show 0 ≤ d.size; omega) (by show d.size ≤ _; omega) (by omega) (hok.tick.fget_le name)

/-- the boxes that a call of a method makes of its arguments -/
theorem boxes2 {w : World} {b bm : Nat} {d : Dk} {name : ByteArray} (hd : DiskAt w b bm d) :
    ∃ W, W = (w.alloc (.cells #[.pointer (some ⟨b, 0, none⟩)] 24)).alloc (.cells #[.string name] 9) ∧ Fp [] w W ∧ DiskAt W b bm d ∧
      W.cell? ⟨w.heap.size, 0, none⟩ = some (.pointer (some ⟨b, 0, none⟩)) ∧ W.cell? ⟨w.heap.size + 1, 0, none⟩ = some (.string name) ∧ b < w.heap.size := by
  have hfp : Fp [] w ((w.alloc (.cells #[.pointer (some ⟨b, 0, none⟩)] 24)).alloc (.cells #[.string name] 9)) := (Fp.alloc _ _).alloc' _
  refine ⟨_, rfl, hfp, hd.of_fp hfp (by simp) (by simp), ?_, ?_, heap_lt hd.cells⟩
  · refine cell_of_block (c := #[.pointer (some ⟨b, 0, none⟩)]) (T := 24) (fr := (0, 0)) ?_ 0
    rw [Below.heap_alloc _ _ _ (by simp <;> omega)]
    exact heap_alloc_at rfl _
  · exact cell_of_block (heap_alloc_at (by simp) _) 0

set_option maxHeartbeats 400000 in
theorem sync_any (w : World) (b bm : Nat) (d : Dk) (name : ByteArray) (hd : DiskAt w b bm d) (hok : DkOK d) (hname : name.size ≤ maxLen) :
    Calls Try.prog 12 #[.pointer (some ⟨b, 0, none⟩), .string name] w fun e w' => e = .returned (.int .i64 (d.thereE name)) ∧ DiskAt w' b bm (d.sync name) ∧ Fp [b, bm] w w' := by
  obtain ⟨W, hW, hfp, hdW, k1, k2, hlt⟩ := boxes2 (name := name) hd
  have hth := there_any W b bm d name false 28 _ _ hdW hok hname (sync_gate W b bm w.heap.size (w.heap.size + 1) d name hok hname k1 k2 (by omega) (by omega))
  rw [hW] at hth hfp
  have HT := Lib.hid hth
  have HF := Lib.hid hfp
  clear hth hfp hd hdW k1 k2 hW
  go_enter Try.func12, Try.ntmps12
  go_wp2_with (fail)
  refine HT.out.mono ?_
  rintro e w2 ⟨rfl, hd2, hf2⟩
  have HD2 := Lib.hid hd2
  clear hd2
  go_wp2_with (fail)
  go_ret
  exact ⟨rfl, HD2.out, (HF.out.mono (by simp)).trans hf2 (by simp)⟩

/-! ### Delete -/
def Dk.deleteG (d : Dk) (name : ByteArray) : Dk := if d.does false then d.tick.set name zeroFile true else d.tick
def Dk.delete (d : Dk) (name : ByteArray) : Dk := d.thereD name (fun _ => d.deleteG name)

theorem delete1_enters (f pd pn : Value) : ∀ w, (callFunc 32 #[f, pd, pn]).run Try.prog w = .ok (.enter 32 #[f, pd, pn]) w := fun w => by kernel_rfl

set_option maxHeartbeats 400000 in
theorem delete1_any (w : World) (b bm qd qn : Nat) (d : Dk) (f : File) (name : ByteArray) (hd : DiskAt w b bm d) (hname : name.size ≤ maxLen)
    (h2 : w.cell? ⟨qd, 0, none⟩ = some (.pointer (some ⟨b, 0, none⟩))) (h3 : w.cell? ⟨qn, 0, none⟩ = some (.string name))
    (g0 : 0 ≤ d.size) (g1 : d.size ≤ 1000000000) (g3 : (fget d name).s.size ≤ 1000000000) :
    Calls Try.prog 32 #[.agg #[.string f.s, .int .i64 f.synced], .pointer (some ⟨qd, 0, none⟩), .pointer (some ⟨qn, 0, none⟩)] w fun e w' => e = .returned (.tuple #[]) ∧ DiskAt w' b bm (d.set name zeroFile true) ∧ Fp [b, bm] w w' := by
  have hfa := Fp.alloc w (.cells #[.string f.s, .int .i64 f.synced] 52)
  have hset := set_any (w.alloc (.cells #[.string f.s, .int .i64 f.synced] 52)) b bm d name zeroFile true (hd.of_fp hfa (by simp) (by simp)) hname g0 g1 (by decide) g3
  change Calls Try.prog _ #[_, _, .agg #[.string ⟨#[]⟩, .int .i64 0], _] _ _ at hset
  have k2 : qd < w.heap.size := World.block_lt_of_cell? _ _ h2
  have k3 : qn < w.heap.size := World.block_lt_of_cell? _ _ h3
  have HS := Lib.hid hset
  have HFA := Lib.hid hfa
  clear hset hd hfa
  go_enter Try.func32, Try.ntmps32
  go_wp2_with (fail)
  refine HS.out.mono ?_
  rintro e w2 ⟨rfl, hd2, hf2, _⟩
  have HD2 := Lib.hid hd2
  clear hd2
  go_wp2_with (fail)
  go_end0
  exact ⟨rfl, HD2.out, (HFA.out.mono (by simp)).trans hf2 (by simp)⟩

theorem delete_gate (w : World) (b bm qd qn : Nat) (d : Dk) (name : ByteArray) (hok : DkOK d) (hname : name.size ≤ maxLen)
    (h2 : w.cell? ⟨qd, 0, none⟩ = some (.pointer (some ⟨b, 0, none⟩))) (h3 : w.cell? ⟨qn, 0, none⟩ = some (.string name)) (n2 : b ≠ qd) (n3 : b ≠ qn) :
    d.named [name] = 0 → ∀ f, mget d.files name = some f → DkOK (d.deleteG name) ∧ (d.does false = true → TurnsF w b bm d.tick f (d.deleteG name) 32 #[.pointer (some ⟨qd, 0, none⟩), .pointer (some ⟨qn, 0, none⟩)]) ∧ (d.does false = false → d.deleteG name = d.tick) := by
  intro _ f hf
  have hle := hok.le
  have hz := hok.size
  unfold Dk.deleteG
  cases hdo : d.does false
  · exact ⟨hok.tick, (fun h => by cases h), (fun _ => rfl)⟩
  · refine ⟨hok.tick.gone name (by show (mget d.files name).isSome = true; rw [hf]; rfl), fun _ => ⟨delete1_enters _ _ _, fun w1 hd1 hf1 => ?_⟩, fun h => by cases h⟩
    exact delete1_any w1 b bm qd qn d.tick f name hd1 hname (box_fp hf1 n2 h2) (box_fp hf1 n3 h3) (by show 0 ≤ d.size; omega) (by show d.size ≤ _; omega) (hok.tick.fget_le name)

set_option maxHeartbeats 400000 in
theorem delete_any (w : World) (b bm : Nat) (d : Dk) (name : ByteArray) (hd : DiskAt w b bm d) (hok : DkOK d) (hname : name.size ≤ maxLen) :
    Calls Try.prog 21 #[.pointer (some ⟨b, 0, none⟩), .string name] w fun e w' => e = .returned (.int .i64 (d.thereE name)) ∧ DiskAt w' b bm (d.delete name) ∧ Fp [b, bm] w w' := by
  obtain ⟨W, hW, hfp, hdW, k1, k2, hlt⟩ := boxes2 (name := name) hd
  have hth := there_any W b bm d name false 32 _ _ hdW hok hname (delete_gate W b bm w.heap.size (w.heap.size + 1) d name hok hname k1 k2 (by omega) (by omega))
  rw [hW] at hth hfp
  have HT := Lib.hid hth
  have HF := Lib.hid hfp
  clear hth hfp hd hdW k1 k2 hW
  go_enter Try.func21, Try.ntmps21
  go_wp2_with (fail)
  refine HT.out.mono ?_
  rintro e w2 ⟨rfl, hd2, hf2⟩
  have HD2 := Lib.hid hd2
  clear hd2
  go_wp2_with (fail)
  go_ret
  exact ⟨rfl, HD2.out, (HF.out.mono (by simp)).trans hf2 (by simp)⟩

/-! ### Rename -/
def Dk.renameG (d : Dk) (frm to : ByteArray) (f : File) : Dk := if d.does false then (d.tick.set frm zeroFile true).set to f false else d.tick
def Dk.rename (d : Dk) (frm to : ByteArray) : Dk := if d.named [frm, to] ≠ 0 then d else d.thereD frm (d.renameG frm to)
def Dk.renameE (d : Dk) (frm to : ByteArray) : Int := if d.named [frm, to] ≠ 0 then d.named [frm, to] else d.thereE frm

theorem rename1_enters (f pd pn pt : Value) : ∀ w, (callFunc 29 #[f, pd, pn, pt]).run Try.prog w = .ok (.enter 29 #[f, pd, pn, pt]) w := fun w => by kernel_rfl

set_option maxHeartbeats 400000 in
theorem rename1_any (w : World) (b bm qd qn qt : Nat) (d : Dk) (f : File) (frm to : ByteArray) (hd : DiskAt w b bm d) (hname : frm.size ≤ maxLen) (hto : to.size ≤ maxLen)
    (h2 : w.cell? ⟨qd, 0, none⟩ = some (.pointer (some ⟨b, 0, none⟩))) (h3 : w.cell? ⟨qn, 0, none⟩ = some (.string frm)) (h4 : w.cell? ⟨qt, 0, none⟩ = some (.string to))
    (n2 : b ≠ qd) (n4 : b ≠ qt)
    (g0 : 0 ≤ d.size) (g1 : d.size ≤ 1000000000) (g2 : f.s.size ≤ 1000000000) (g3 : (fget d frm).s.size ≤ 1000000000) (g4 : (fget (d.set frm zeroFile true) to).s.size ≤ 1000000000) (g5 : 0 ≤ (d.set frm zeroFile true).size) (g6 : (d.set frm zeroFile true).size ≤ 1000000000) :
    Calls Try.prog 29 #[.agg #[.string f.s, .int .i64 f.synced], .pointer (some ⟨qd, 0, none⟩), .pointer (some ⟨qn, 0, none⟩), .pointer (some ⟨qt, 0, none⟩)] w fun e w' => e = .returned (.tuple #[]) ∧ DiskAt w' b bm ((d.set frm zeroFile true).set to f false) ∧ Fp [b, bm] w w' := by
  have hfa := Fp.alloc w (.cells #[.string f.s, .int .i64 f.synced] 52)
  have hset := set_any (w.alloc (.cells #[.string f.s, .int .i64 f.synced] 52)) b bm d frm zeroFile true (hd.of_fp hfa (by simp) (by simp)) hname g0 g1 (by decide) g3
  change Calls Try.prog _ #[_, _, .agg #[.string ⟨#[]⟩, .int .i64 0], _] _ _ at hset
  have k2 : qd < w.heap.size := World.block_lt_of_cell? _ _ h2
  have k3 : qn < w.heap.size := World.block_lt_of_cell? _ _ h3
  have k4 : qt < w.heap.size := World.block_lt_of_cell? _ _ h4
  have m2 : qd ≠ bm := fun e => by
    obtain ⟨es, clock, hx, _⟩ := hd.files
    subst e
    simp [World.cell?, hx] at h2
  have m4 : qt ≠ bm := fun e => by
    obtain ⟨es, clock, hx, _⟩ := hd.files
    subst e
    simp [World.cell?, hx] at h4
  have hbl := heap_lt hd.cells
  have hbm := hd.files.lt
  have HS := Lib.hid hset
  have HFA := Lib.hid hfa
  have H2 := Lib.hid h2
  have H4 := Lib.hid h4
  clear hset hd hfa
  go_enter Try.func29, Try.ntmps29
  go_wp2_with (fail)
  refine HS.out.mono ?_
  rintro e w2 ⟨rfl, hd2, hf2, _⟩
  have c2 : w2.cell? ⟨qd, 0, none⟩ = some (.pointer (some ⟨b, 0, none⟩)) := by
    rw [hf2.cell (by simp; omega) (by simp; omega), HFA.out.cell (by simp; omega) (by simp)]; exact H2.out
  have c4 : w2.cell? ⟨qt, 0, none⟩ = some (.string to) := by
    rw [hf2.cell (by simp; omega) (by simp; omega), HFA.out.cell (by simp; omega) (by simp)]; exact H4.out
  have c5 : w2.cell? ⟨w.heap.size, 0, none⟩ = some (.string f.s) := by
    rw [hf2.cell (by simp) (by simp; omega)]; exact cell_of_block (heap_alloc_at rfl _) 0
  have c6 : w2.cell? ⟨w.heap.size, 1, none⟩ = some (.int .i64 f.synced) := by
    rw [hf2.cell (by simp) (by simp; omega)]; exact cell_of_block (heap_alloc_at rfl _) 1
  have hset2 := set_any w2 b bm _ to f false hd2 hto g5 g6 g2 g4
  have HS2 := Lib.hid hset2
  clear hd2 hset2
  go_wp2_with (fail)
  refine HS2.out.mono ?_
  rintro e w3 ⟨rfl, hd3, hf3, _⟩
  have HD3 := Lib.hid hd3
  clear hd3
  go_wp2_with (fail)
  go_end0
  exact ⟨rfl, HD3.out, ((HFA.out.mono (by simp)).trans hf2 (by simp)).trans hf3 (by simp)⟩

theorem fget_gone (d : Dk) (frm to : ByteArray) (hok : DkOK d) : (fget (d.set frm zeroFile true) to).s.size ≤ 1000000000 := by
  unfold fget Dk.set
  simp only [if_true]
  by_cases h : frm = to
  · subst h; rw [mget_mdel_same]; exact Nat.zero_le _
  · rw [mget_mdel_other _ h, mget_mput_other _ h]; exact hok.fget_le to

theorem renameG_ok {d : Dk} {frm to : ByteArray} {f : File} (hok : DkOK d) (hf : mget d.files frm = some f) : DkOK (d.renameG frm to f) := by
  have hfile := hok.file hf
  unfold Dk.renameG
  cases d.does false
  · exact hok.tick
  · have h1 : (mget d.tick.files frm).isSome = true := by show (mget d.files frm).isSome = true; rw [hf]; rfl
    have hg := hok.tick.gone frm h1
    have ht := total_put hok.nodup frm zeroFile
    have ht2 := total_mdel (nodup_mput (x := frm) (v := zeroFile) hok.nodup) frm
    rw [mget_mput_same] at ht2
    simp only [hf, Option.getD_some] at ht ht2
    have hfi := hok.fits
    have hz : zeroFile.s.size = 0 := rfl
    refine hg.put to f ?_ hfile.1 (Or.inr ?_)
    · show ((total (mdel (mput d.files frm zeroFile) frm) : Nat) : Int) + f.s.size - _ ≤ d.cap
      omega
    · show (mdel (mput d.files frm zeroFile) frm).length < 200
      have hl := length_mdel (nodup_mput (x := frm) (v := zeroFile) hok.nodup) frm
      rw [mget_mput_same, length_mput, hf] at hl
      simp only [Option.isSome_some, if_true] at hl
      have := hok.many
      omega

theorem rename_gate (w : World) (b bm qd qn qt : Nat) (d : Dk) (frm to : ByteArray) (hok : DkOK d) (hname : frm.size ≤ maxLen) (hto : to.size ≤ maxLen)
    (h2 : w.cell? ⟨qd, 0, none⟩ = some (.pointer (some ⟨b, 0, none⟩))) (h3 : w.cell? ⟨qn, 0, none⟩ = some (.string frm)) (h4 : w.cell? ⟨qt, 0, none⟩ = some (.string to)) (n2 : b ≠ qd) (n3 : b ≠ qn) (n4 : b ≠ qt) :
    d.named [frm] = 0 → ∀ f, mget d.files frm = some f → DkOK (d.renameG frm to f) ∧ (d.does false = true → TurnsF w b bm d.tick f (d.renameG frm to f) 29 #[.pointer (some ⟨qd, 0, none⟩), .pointer (some ⟨qn, 0, none⟩), .pointer (some ⟨qt, 0, none⟩)]) ∧ (d.does false = false → d.renameG frm to f = d.tick) := by
  intro _ f hf
  have hle := hok.le
  have hz := hok.size
  have hfile := hok.file hf
  refine ⟨renameG_ok hok hf, fun hdo => ⟨rename1_enters _ _ _ _, fun w1 hd1 hf1 => ?_⟩, fun hdo => by unfold Dk.renameG; rw [hdo]; rfl⟩
  have hgo := hok.tick.gone frm (by show (mget d.files frm).isSome = true; rw [hf]; rfl)
  have hzz := hgo.size
  have hzl := hgo.le
  have h := rename1_any w1 b bm qd qn qt d.tick f frm to hd1 hname hto (box_fp hf1 n2 h2) (box_fp hf1 n3 h3) (box_fp hf1 n4 h4) n2 n4 (by show 0 ≤ d.size; omega) (by show d.size ≤ _; omega) (by omega) (hok.tick.fget_le frm) (fget_gone _ _ _ hok.tick) (by omega) (by omega)
  unfold Dk.renameG
  rw [hdo]
  exact h

set_option maxHeartbeats 1000000 in
theorem rename_any (w : World) (b bm : Nat) (d : Dk) (frm to : ByteArray) (hd : DiskAt w b bm d) (hok : DkOK d) (hname : frm.size ≤ maxLen) (hto : to.size ≤ maxLen) :
    Calls Try.prog 18 #[.pointer (some ⟨b, 0, none⟩), .string frm, .string to] w fun e w' => e = .returned (.int .i64 (d.renameE frm to)) ∧ DiskAt w' b bm (d.rename frm to) ∧ Fp [b, bm] w w' := by
  have hlt := heap_lt hd.cells
  obtain ⟨W, hW⟩ : ∃ W, W = ((((w.alloc (.cells #[.pointer (some ⟨b, 0, none⟩)] 24)).alloc (.cells #[.string frm] 9)).alloc (.cells #[.string to] 9)).alloc (.cells #[.string frm, .string to] 9)) := ⟨_, rfl⟩
  have hfW : Fp [] w W := by rw [hW]; exact (((Fp.alloc _ _).alloc' _).alloc' _).alloc' _
  have hb1 : W.heap[w.heap.size]? = some (.cells #[.pointer (some ⟨b, 0, none⟩)] 24 (0, 0)) := by
    rw [hW, Below.heap_alloc _ _ _ (by simp <;> omega), Below.heap_alloc _ _ _ (by simp <;> omega), Below.heap_alloc _ _ _ (by simp <;> omega)]
    exact heap_alloc_at rfl _
  have hb2 : W.heap[w.heap.size + 1]? = some (.cells #[.string frm] 9 (0, 0)) := by
    rw [hW, Below.heap_alloc _ _ _ (by simp <;> omega), Below.heap_alloc _ _ _ (by simp <;> omega)]
    exact heap_alloc_at (by simp) _
  have hb3 : W.heap[w.heap.size + 1 + 1]? = some (.cells #[.string to] 9 (0, 0)) := by
    rw [hW, Below.heap_alloc _ _ _ (by simp <;> omega)]
    exact heap_alloc_at (by simp) _
  have hb4 : W.heap[w.heap.size + 1 + 1 + 1]? = some (.cells #[.string frm, .string to] 9 (0, 0)) := by
    rw [hW]
    exact heap_alloc_at (by simp) _
  have hdW := hd.of_fp hfW (by simp) (by simp)
  have hnm : Calls Try.prog 22 #[.pointer (some ⟨b, 0, none⟩), .slice (some ⟨w.heap.size + 1 + 1 + 1, 0, none⟩) 2 2] W fun e w' => e = .returned (.int .i64 (d.named [frm, to])) ∧ W = w' :=
    named_any _ b bm (w.heap.size + 1 + 1 + 1) d [frm, to] hdW hb4 (by simp)
  have hth := there_any W b bm d frm false 29 _ _ hdW hok hname (rename_gate W b bm w.heap.size (w.heap.size + 1) (w.heap.size + 1 + 1) d frm to hok hname hto (cell_of_block hb1 0) (cell_of_block hb2 0) (cell_of_block hb3 0) (by omega) (by omega) (by omega))
  have HDW := Lib.hid hdW
  rw [hW] at hth hfW hnm HDW
  have HT := Lib.hid hth
  have HN := Lib.hid hnm
  have HF := Lib.hid hfW
  clear hth hfW hd hdW hb1 hb2 hb3 hb4 hW hnm
  obtain ⟨nm, hnm⟩ : ∃ nm, nm = d.named [frm, to] := ⟨_, rfl⟩
  rw [← hnm] at HN
  by_cases h0 : nm = 0
  · subst h0
    have HE : Hid (d.renameE frm to = d.thereE frm ∧ d.rename frm to = d.thereD frm (d.renameG frm to)) := by
      unfold Hid Dk.renameE Dk.rename; rw [← hnm]; exact ⟨rfl, rfl⟩
    clear hnm
    go_enter Try.func18, Try.ntmps18
    go_wp2_with (go_at_call 22; refine HN.out.mono ?_; rintro e w' ⟨rfl, rfl⟩)
    refine HT.out.mono ?_
    rintro e w2 ⟨rfl, hd2, hf2⟩
    have HD2 := Lib.hid hd2
    clear hd2
    go_wp2_with (fail)
    go_ret
    exact ⟨by rw [HE.out.1]; rfl, by rw [HE.out.2]; exact HD2.out, (HF.out.mono (by simp)).trans hf2 (by simp)⟩
  · have HE : Hid (d.renameE frm to = nm ∧ d.rename frm to = d) := by
      unfold Hid Dk.renameE Dk.rename; rw [← hnm, if_pos h0, if_pos h0]; exact ⟨rfl, rfl⟩
    have hb : ((nm : Int) != 0) = true := by simpa using h0
    clear hnm h0
    go_enter Try.func18, Try.ntmps18
    go_wp2_with (go_at_call 22; refine HN.out.mono ?_; rintro e w' ⟨rfl, rfl⟩)
    go_ret
    exact ⟨by rw [HE.out.1]; rfl, by rw [HE.out.2]; exact HDW.out, HF.out.mono (by simp)⟩

/-! ### Create -/
def Dk.createG (d : Dk) (name : ByteArray) : Dk := if d.does false then d.tick.set name zeroFile false else d.tick
def Dk.createE (d : Dk) (name : ByteArray) : Int := if d.named [name] ≠ 0 then d.named [name] else if (mget d.files name).isSome then 4 else if 200 ≤ d.files.length then 2 else d.told
def Dk.create (d : Dk) (name : ByteArray) : Dk := if d.named [name] ≠ 0 then d else if (mget d.files name).isSome then d else if 200 ≤ d.files.length then d else d.burnt (d.createG name)

theorem create1_enters (pd pn : Value) : ∀ w, (callFunc 24 #[pd, pn]).run Try.prog w = .ok (.enter 24 #[pd, pn]) w := fun w => by kernel_rfl

set_option maxHeartbeats 400000 in
theorem create1_any (w : World) (b bm qd qn : Nat) (d : Dk) (name : ByteArray) (hd : DiskAt w b bm d) (hname : name.size ≤ maxLen)
    (h2 : w.cell? ⟨qd, 0, none⟩ = some (.pointer (some ⟨b, 0, none⟩))) (h3 : w.cell? ⟨qn, 0, none⟩ = some (.string name))
    (g0 : 0 ≤ d.size) (g1 : d.size ≤ 1000000000) (g3 : (fget d name).s.size ≤ 1000000000) :
    Calls Try.prog 24 #[.pointer (some ⟨qd, 0, none⟩), .pointer (some ⟨qn, 0, none⟩)] w fun e w' => e = .returned (.tuple #[]) ∧ DiskAt w' b bm (d.set name zeroFile false) ∧ Fp [b, bm] w w' := by
  have hset := set_any w b bm d name zeroFile false hd hname g0 g1 (by decide) g3
  change Calls Try.prog _ #[_, _, .agg #[.string ⟨#[]⟩, .int .i64 0], _] _ _ at hset
  have HS := Lib.hid hset
  clear hset hd
  go_enter Try.func24, Try.ntmps24
  go_wp2_with (fail)
  refine HS.out.mono ?_
  rintro e w2 ⟨rfl, hd2, hf2, _⟩
  have HD2 := Lib.hid hd2
  clear hd2
  go_wp2_with (fail)
  go_end0
  exact ⟨rfl, HD2.out, hf2⟩

theorem createG_ok {d : Dk} {name : ByteArray} (hok : DkOK d) (hl : d.files.length < 200) : DkOK (d.createG name) := by
  unfold Dk.createG
  cases d.does false
  · exact hok.tick
  · refine hok.tick.put name zeroFile ?_ (Nat.le_refl _) (Or.inr hl)
    have := hok.fits
    have hz : zeroFile.s.size = 0 := rfl
    show (total d.files : Int) + _ - _ ≤ d.cap
    omega

theorem create_act (w : World) (b bm qd qn : Nat) (d : Dk) (name : ByteArray) (hd : DiskAt w b bm d) (hok : DkOK d) (hname : name.size ≤ maxLen) (hl : d.files.length < 200)
    (h2 : w.cell? ⟨qd, 0, none⟩ = some (.pointer (some ⟨b, 0, none⟩))) (h3 : w.cell? ⟨qn, 0, none⟩ = some (.string name)) (n2 : b ≠ qd) (n3 : b ≠ qn) :
    Calls Try.prog 23 #[.pointer (some ⟨b, 0, none⟩), .bool false, .func (.func 24) #[] #[.pointer (some ⟨qd, 0, none⟩), .pointer (some ⟨qn, 0, none⟩)]] w fun e w' => e = .returned (.int .i64 d.told) ∧ DiskAt w' b bm (d.burnt (d.createG name)) ∧ Fp [b, bm] w w' := by
  have hle := hok.le
  have hz := hok.size
  refine act_any w b bm d (d.createG name) false 24 _ hd hok (createG_ok hok hl) (fun hdo => ⟨create1_enters _ _, fun w1 hd1 hf1 => ?_⟩) (fun hdo => by unfold Dk.createG; rw [hdo]; rfl)
  have h := create1_any w1 b bm qd qn d.tick name hd1 hname (box_fp hf1 n2 h2) (box_fp hf1 n3 h3) (by show 0 ≤ d.size; omega) (by show d.size ≤ _; omega) (hok.tick.fget_le name)
  unfold Dk.createG
  rw [hdo]
  exact h

set_option maxRecDepth 100000 in
set_option maxHeartbeats 2000000 in
theorem create_any (w : World) (b bm : Nat) (d : Dk) (name : ByteArray) (hd : DiskAt w b bm d) (hok : DkOK d) (hname : name.size ≤ maxLen) :
    Calls Try.prog 10 #[.pointer (some ⟨b, 0, none⟩), .string name] w fun e w' => e = .returned (.int .i64 (d.createE name)) ∧ DiskAt w' b bm (d.create name) ∧ Fp [b, bm] w w' := by
  have hlt := heap_lt hd.cells
  have hlt1 : b < w.heap.size + 1 := by omega
  have hlt2 : b < w.heap.size + 1 + 1 := by omega
  have hlt3 : b < w.heap.size + 1 + 1 + 1 := by omega
  have hlt4 : b < w.heap.size + 1 + 1 + 1 + 1 := by omega
  have c2 : w.cell? ⟨b, 2, none⟩ = some (.map (some bm)) := cell_of_block hd.cells 2
  have hfp : Fp [] w (((w.alloc (.cells #[.pointer (some ⟨b, 0, none⟩)] 24)).alloc (.cells #[.string name] 9)).alloc (.cells #[.string name] 9)) := ((Fp.alloc _ _).alloc' _).alloc' _
  have hlg : ∀ W, Fp [] w W → (Instr.lookup 47 (.map (some bm)) (.string name) true).run Try.prog W = .ok (.tuple #[.agg #[.string (fget d name).s, .int .i64 (fget d name).synced], .bool (mget d.files name).isSome]) W := fun W hf => (hd.of_fp hf (by simp) (by simp)).files.lookup true hname
  have hl := hlg _ hfp.drew'
  have hl2 := hlg _ (hfp.alloc' (.cells #[.string ⟨#[]⟩, .int .i64 0] 52)).drew'
  clear hlg
  obtain ⟨W, hW⟩ : ∃ W, W = ((((w.alloc (.cells #[.pointer (some ⟨b, 0, none⟩)] 24)).alloc (.cells #[.string name] 9)).alloc (.cells #[.string name] 9)).alloc (.cells #[.string (fget d name).s, .int .i64 (fget d name).synced] 52)) := ⟨_, rfl⟩
  have hfW : Fp [] w W := by rw [hW]; exact hfp.alloc' _
  have hb1 : W.heap[w.heap.size]? = some (.cells #[.pointer (some ⟨b, 0, none⟩)] 24 (0, 0)) := by
    rw [hW, Below.heap_alloc _ _ _ (by simp <;> omega), Below.heap_alloc _ _ _ (by simp <;> omega), Below.heap_alloc _ _ _ (by simp <;> omega)]
    exact heap_alloc_at rfl _
  have hb2 : W.heap[w.heap.size + 1]? = some (.cells #[.string name] 9 (0, 0)) := by
    rw [hW, Below.heap_alloc _ _ _ (by simp <;> omega), Below.heap_alloc _ _ _ (by simp <;> omega)]
    exact heap_alloc_at (by simp) _
  have hlen := (hd.of_fp hfW.drew' (by simp) (by simp)).files.len 3
  have hnm : Calls Try.prog 22 #[.pointer (some ⟨b, 0, none⟩), .slice (some ⟨w.heap.size + 1 + 1, 0, none⟩) 1 1] (((w.alloc (.cells #[.pointer (some ⟨b, 0, none⟩)] 24)).alloc (.cells #[.string name] 9)).alloc (.cells #[.string name] 9)) fun e w' => e = .returned (.int .i64 (d.named [name])) ∧ (((w.alloc (.cells #[.pointer (some ⟨b, 0, none⟩)] 24)).alloc (.cells #[.string name] 9)).alloc (.cells #[.string name] 9)) = w' :=
    named_any _ b bm (w.heap.size + 1 + 1) d [name] (hd.of_fp hfp (by simp) (by simp)) (heap_alloc_at (by simp) _) (by simp)
  have hact : d.files.length < 200 → ∀ W', W'.heap = W.heap → Fp [] w W' → _ := fun hl W' hh hf => create_act W' b bm w.heap.size (w.heap.size + 1) d name (hd.of_fp hf (by simp) (by simp)) hok hname hl (cell_of_block (by rw [hh]; exact hb1) 0) (cell_of_block (by rw [hh]; exact hb2) 0) (by omega) (by omega)
  have HD := Lib.hid hd
  have HN := Lib.hid hnm
  have HA := Lib.hid hact
  have HW := Lib.hid hW
  have HFW := Lib.hid hfW
  rw [hW] at hlen
  have hmany := hok.many
  clear hd hnm hact hW hfW hb1 hb2 hfp
  obtain ⟨is, his⟩ : ∃ is, is = (mget d.files name).isSome := ⟨_, rfl⟩
  rw [← his] at hl hl2
  obtain ⟨n, hn⟩ : ∃ n, n = d.files.length := ⟨_, rfl⟩
  rw [← hn] at hlen hmany
  obtain ⟨nm, hnm⟩ : ∃ nm, nm = d.named [name] := ⟨_, rfl⟩
  rw [← hnm] at HN
  by_cases h0 : nm = 0
  · subst h0
    have HE : Hid (d.createE name = (if is then 4 else if 200 ≤ n then 2 else d.told) ∧ d.create name = (if is then d else if 200 ≤ n then d else d.burnt (d.createG name))) := by
      unfold Hid Dk.createE Dk.create; rw [← hnm, ← his, ← hn]; exact ⟨rfl, rfl⟩
    have HNN := Lib.hid hn
    clear hnm his hn
    by_cases h1 : is = true
    · subst h1
      go_enter Try.func10, Try.ntmps10
      go_wp2_with (go_at_call 22; refine HN.out.mono ?_; rintro e w' ⟨rfl, rfl⟩)
      go_region
      all_goals
        go_wp2_with (fail)
        go_ret
        exact ⟨by rw [HE.out.1]; rfl, by rw [HE.out.2]; exact HD.out.of_fp (S := []) ((HW.out ▸ HFW.out).drew') (by simp) (by simp), (HW.out ▸ HFW.out).drew'.mono (by simp)⟩
    · obtain rfl : is = false := by simpa using h1
      clear h1
      by_cases h2 : 200 ≤ n
      · have HR : Hid (d.createE name = 2 ∧ d.create name = d) := by unfold Hid; rw [HE.out.1, HE.out.2]; simp [h2]
        go_enter Try.func10, Try.ntmps10
        go_wp2_with (go_at_call 22; refine HN.out.mono ?_; rintro e w' ⟨rfl, rfl⟩)
        go_region
        all_goals
          go_wp2_with (fail)
          go_ret
          exact ⟨by rw [HR.out.1]; rfl, by rw [HR.out.2]; exact HD.out.of_fp (S := []) ((HW.out ▸ HFW.out).drew') (by simp) (by simp), (HW.out ▸ HFW.out).drew'.mono (by simp)⟩
      · have HR : Hid (d.createE name = d.told ∧ d.create name = d.burnt (d.createG name)) := by unfold Hid; rw [HE.out.1, HE.out.2]; simp [h2]
        have HAA := Lib.hid (HA.out (by rw [← HNN.out]; omega) W.drew rfl HFW.out.drew')
        rw [HW.out] at HAA
        clear HA
        go_enter Try.func10, Try.ntmps10
        go_wp2_with (go_at_call 22; refine HN.out.mono ?_; rintro e w' ⟨rfl, rfl⟩)
        go_region
        all_goals
          go_wp2_with (fail)
          refine HAA.out.mono ?_
          rintro e w2 ⟨rfl, hd2, hf2⟩
          have HD2 := Lib.hid hd2
          clear hd2
          go_wp2_with (fail)
          go_ret
          exact ⟨by rw [HR.out.1]; rfl, by rw [HR.out.2]; exact HD2.out, ((HW.out ▸ HFW.out).drew'.mono (by simp)).trans hf2 (by simp)⟩
  · have HE : Hid (d.createE name = nm ∧ d.create name = d) := by
      unfold Hid Dk.createE Dk.create; rw [← hnm, if_pos h0, if_pos h0]; exact ⟨rfl, rfl⟩
    have hb : ((nm : Int) != 0) = true := by simpa using h0
    clear hnm h0 his hn
    cases is
    all_goals
      go_enter Try.func10, Try.ntmps10
      go_wp2_with (go_at_call 22; refine HN.out.mono ?_; rintro e w' ⟨rfl, rfl⟩)
      go_region
      all_goals
        go_wp2_with (fail)
        go_ret
        exact ⟨by rw [HE.out.1]; rfl, by rw [HE.out.2]; exact HD.out.of_fp (S := []) ((HW.out ▸ HFW.out).drew') (by simp) (by simp), (HW.out ▸ HFW.out).drew'.mono (by simp)⟩
end Go.Proofs.Ytmadkoebopfhoaa
