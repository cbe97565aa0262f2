/-
 The disk's calls that go through the gate: Sync, Delete, Rename, Create. The checksum: by a table of four bits, and by bits: the same. The checksum: what it computes, and the document's. The reference of layer 1: May, Number, value, short. The reference of layer 1: Number, Encode. The reference of layer 1: Encode.
-/
import Derived.Test.YtkjmgbifoaoefaaGreatDoorQVdCrash
import Derived.Test.YtkjmgbifoaoefaaGreatDoorQMem
import Derived.Test.YtkjmgbifoaoefaaGreatDoorQRegion
import Derived.Test.YtkjmgbifoaoefaaGreatDoorRows
import Derived.Laws.BitsLemmas
import Derived.IntWalk
import Derived.Test.YtkjmgbifoaoefaaGreatDoorQCellShown
import Derived.Laws.DeepStrings4
import Derived.Test.YtkjmgbifoaoefaaGreatDoorQBytes
set_option maxRecDepth 100000
set_option maxHeartbeats 8000000
namespace Go.Proofs.YtkjmgbifoaoefaaGreatDoor
section
open Go.RowKit Go.Maps Go.MapKept Go.ChangeMaps
theorem fget_tick {d : Dk} {name : ByteArray} {f : File} (h : mget d.files name = some f) : fget d.tick name = f := by
 show (mget d.files name).getD zeroFile = f
 rw [h]; rfl
def synced (f : File) : File := ⟨f.s, f.s.size⟩
def Dk.syncG (d : Dk) (name : ByteArray) (f : File) : Dk := if d.does false then d.tick.set name (synced f) false else d.tick
def Dk.sync (d : Dk) (name : ByteArray) : Dk := d.thereD name (d.syncG name)
theorem sync1_enters (f pd pn : Value) : ∀ w, (callFunc 145 #[f, pd, pn]).run Tryz.prog w = .ok (.enter 145 #[f, pd, pn]) w := fun w => by kernel_rfl
theorem sync1_any (w : World) (b bm qd qn : Nat) (d : Dk) (f : File) (name : ByteArray) (hd : DiskAt w b bm d) (hname : name.size ≤ maxLen)
  (h2 : w.cell? ⟨qd, 0, none⟩ = some (.pointer (some ⟨b, 0, none⟩))) (h3 : w.cell? ⟨qn, 0, none⟩ = some (.string name))
  (g0 : 0 ≤ d.size) (g1 : d.size ≤ 1000000000) (g2 : f.s.size ≤ 1000000000) (g3 : (fget d name).s.size ≤ 1000000000) :
  Calls Tryz.prog 145 #[.agg #[.string f.s, .int .i64 f.synced], .pointer (some ⟨qd, 0, none⟩), .pointer (some ⟨qn, 0, none⟩)] w fun e w' => e = .returned (.tuple #[]) ∧ DiskAt w' b bm (d.set name (synced f) false) ∧ Fp [b, bm] w w' := by
 have hfa := Fp.alloc w (.cells #[.string f.s, .int .i64 f.s.size] 193)
 have hset := set_any (w.alloc (.cells #[.string f.s, .int .i64 f.s.size] 193)) b bm d name (synced f) false (hd.of_fp hfa (by simp) (by simp)) hname g0 g1 g2 g3
 change Calls Tryz.prog _ #[_, _, .agg #[.string f.s, .int .i64 f.s.size], _] _ _ at hset
 have k2 : qd < w.heap.size := World.block_lt_of_cell? _ _ h2
 have k3 : qn < w.heap.size := World.block_lt_of_cell? _ _ h3
 have HS := Lib.hid hset
 have HFA := Lib.hid hfa
 clear hset hd hfa
 go_enter Tryz.func145, Tryz.ntmps145
 go_wp2_with (fail)
 refine HS.out.mono ?_
 rintro e w2 ⟨rfl, hd2, hf2, _⟩
 have HD2 := Lib.hid hd2
 clear hd2
 go_wp2_with (fail)
 go_end0
 exact ⟨rfl, HD2.out, (HFA.out.mono (by simp)).trans hf2 (by simp)⟩
theorem sync_gate (w : World) (b bm qd qn : Nat) (d : Dk) (name : ByteArray) (hok : DkOK d) (hname : name.size ≤ maxLen)
  (h2 : w.cell? ⟨qd, 0, none⟩ = some (.pointer (some ⟨b, 0, none⟩))) (h3 : w.cell? ⟨qn, 0, none⟩ = some (.string name)) (n2 : b ≠ qd) (n3 : b ≠ qn) :
  d.named [name] = 0 → ∀ f, mget d.files name = some f → DkOK (d.syncG name f) ∧ (d.does false = true → TurnsF w b bm d.tick f (d.syncG name f) 145 #[.pointer (some ⟨qd, 0, none⟩), .pointer (some ⟨qn, 0, none⟩)]) ∧ (d.does false = false → d.syncG name f = d.tick) := by
 intro _ f hf
 have hfile := hok.file hf
 have hle := hok.le
 have hz := hok.size
 have hfi := hok.fits
 unfold Dk.syncG
 cases hdo : d.does false
 ·exact ⟨hok.tick, (fun h => by cases h), (fun _ => rfl)⟩
 ·refine ⟨hok.tick.put name _ ?_ (Nat.le_refl _) (Or.inl (by show (mget d.files name).isSome = true; rw [hf]; rfl)), fun _ => ⟨sync1_enters _ _ _, fun w1 hd1 hf1 => ?_⟩, fun h => by cases h⟩
  ·rw [fget_tick hf]
   show (total d.files : Int) + (f.s.size : Nat) - f.s.size ≤ d.cap
   omega
  ·exact sync1_any w1 b bm qd qn d.tick f name hd1 hname (box_fp hf1 n2 h2) (box_fp hf1 n3 h3) (by show 0 ≤ d.size; omega) (by show d.size ≤ _; omega) (by omega) (hok.tick.fget_le name)
theorem boxes2 {w : World} {b bm : Nat} {d : Dk} {name : ByteArray} (hd : DiskAt w b bm d) :
  ∃ W, W = (w.alloc (.cells #[.pointer (some ⟨b, 0, none⟩)] 26)).alloc (.cells #[.string name] 9) ∧ Fp [] w W ∧ DiskAt W b bm d ∧
   W.cell? ⟨w.heap.size, 0, none⟩ = some (.pointer (some ⟨b, 0, none⟩)) ∧ W.cell? ⟨w.heap.size + 1, 0, none⟩ = some (.string name) ∧ b < w.heap.size := by
 have hfp : Fp [] w ((w.alloc (.cells #[.pointer (some ⟨b, 0, none⟩)] 26)).alloc (.cells #[.string name] 9)) := (Fp.alloc _ _).alloc' _
 refine ⟨_, rfl, hfp, hd.of_fp hfp (by simp) (by simp), ?_, ?_, heap_lt hd.cells⟩
 ·refine cell_of_block (c := #[.pointer (some ⟨b, 0, none⟩)]) (T := 26) (fr := (0, 0)) ?_ 0
  rw [Below.heap_alloc _ _ _ (by simp <;> omega)]
  exact heap_alloc_at rfl _
 ·exact cell_of_block (heap_alloc_at (by simp) _) 0
theorem sync_any (w : World) (b bm : Nat) (d : Dk) (name : ByteArray) (hd : DiskAt w b bm d) (hok : DkOK d) (hname : name.size ≤ maxLen) :
  Calls Tryz.prog 79 #[.pointer (some ⟨b, 0, none⟩), .string name] w fun e w' => e = .returned (.int .i64 (d.thereE name)) ∧ DiskAt w' b bm (d.sync name) ∧ Fp [b, bm] w w' := by
 obtain ⟨W, hW, hfp, hdW, k1, k2, hlt⟩ := boxes2 (name := name) hd
 have hth := there_any W b bm d name false 145 _ _ hdW hok hname (sync_gate W b bm w.heap.size (w.heap.size + 1) d name hok hname k1 k2 (by omega) (by omega))
 rw [hW] at hth hfp
 have HT := Lib.hid hth
 have HF := Lib.hid hfp
 clear hth hfp hd hdW k1 k2 hW
 go_enter Tryz.func79, Tryz.ntmps79
 go_wp2_with (fail)
 refine HT.out.mono ?_
 rintro e w2 ⟨rfl, hd2, hf2⟩
 have HD2 := Lib.hid hd2
 clear hd2
 go_wp2_with (fail)
 go_ret
 exact ⟨rfl, HD2.out, (HF.out.mono (by simp)).trans hf2 (by simp)⟩
def Dk.deleteG (d : Dk) (name : ByteArray) : Dk := if d.does false then d.tick.set name zeroFile true else d.tick
def Dk.delete (d : Dk) (name : ByteArray) : Dk := d.thereD name (fun _ => d.deleteG name)
theorem delete1_enters (f pd pn : Value) : ∀ w, (callFunc 186 #[f, pd, pn]).run Tryz.prog w = .ok (.enter 186 #[f, pd, pn]) w := fun w => by kernel_rfl
theorem delete1_any (w : World) (b bm qd qn : Nat) (d : Dk) (f : File) (name : ByteArray) (hd : DiskAt w b bm d) (hname : name.size ≤ maxLen)
  (h2 : w.cell? ⟨qd, 0, none⟩ = some (.pointer (some ⟨b, 0, none⟩))) (h3 : w.cell? ⟨qn, 0, none⟩ = some (.string name))
  (g0 : 0 ≤ d.size) (g1 : d.size ≤ 1000000000) (g3 : (fget d name).s.size ≤ 1000000000) :
  Calls Tryz.prog 186 #[.agg #[.string f.s, .int .i64 f.synced], .pointer (some ⟨qd, 0, none⟩), .pointer (some ⟨qn, 0, none⟩)] w fun e w' => e = .returned (.tuple #[]) ∧ DiskAt w' b bm (d.set name zeroFile true) ∧ Fp [b, bm] w w' := by
 have hfa := Fp.alloc w (.cells #[.string f.s, .int .i64 f.synced] 193)
 have hset := set_any (w.alloc (.cells #[.string f.s, .int .i64 f.synced] 193)) b bm d name zeroFile true (hd.of_fp hfa (by simp) (by simp)) hname g0 g1 (by decide) g3
 change Calls Tryz.prog _ #[_, _, .agg #[.string ⟨#[]⟩, .int .i64 0], _] _ _ at hset
 have k2 : qd < w.heap.size := World.block_lt_of_cell? _ _ h2
 have k3 : qn < w.heap.size := World.block_lt_of_cell? _ _ h3
 have HS := Lib.hid hset
 have HFA := Lib.hid hfa
 clear hset hd hfa
 go_enter Tryz.func186, Tryz.ntmps186
 go_wp2_with (fail)
 refine HS.out.mono ?_
 rintro e w2 ⟨rfl, hd2, hf2, _⟩
 have HD2 := Lib.hid hd2
 clear hd2
 go_wp2_with (fail)
 go_end0
 exact ⟨rfl, HD2.out, (HFA.out.mono (by simp)).trans hf2 (by simp)⟩
theorem delete_gate (w : World) (b bm qd qn : Nat) (d : Dk) (name : ByteArray) (hok : DkOK d) (hname : name.size ≤ maxLen)
  (h2 : w.cell? ⟨qd, 0, none⟩ = some (.pointer (some ⟨b, 0, none⟩))) (h3 : w.cell? ⟨qn, 0, none⟩ = some (.string name)) (n2 : b ≠ qd) (n3 : b ≠ qn) :
  d.named [name] = 0 → ∀ f, mget d.files name = some f → DkOK (d.deleteG name) ∧ (d.does false = true → TurnsF w b bm d.tick f (d.deleteG name) 186 #[.pointer (some ⟨qd, 0, none⟩), .pointer (some ⟨qn, 0, none⟩)]) ∧ (d.does false = false → d.deleteG name = d.tick) := by
 intro _ f hf
 have hle := hok.le
 have hz := hok.size
 unfold Dk.deleteG
 cases hdo : d.does false
 ·exact ⟨hok.tick, (fun h => by cases h), (fun _ => rfl)⟩
 ·refine ⟨hok.tick.gone name (by show (mget d.files name).isSome = true; rw [hf]; rfl), fun _ => ⟨delete1_enters _ _ _, fun w1 hd1 hf1 => ?_⟩, fun h => by cases h⟩
  exact delete1_any w1 b bm qd qn d.tick f name hd1 hname (box_fp hf1 n2 h2) (box_fp hf1 n3 h3) (by show 0 ≤ d.size; omega) (by show d.size ≤ _; omega) (hok.tick.fget_le name)
theorem delete_any (w : World) (b bm : Nat) (d : Dk) (name : ByteArray) (hd : DiskAt w b bm d) (hok : DkOK d) (hname : name.size ≤ maxLen) :
  Calls Tryz.prog 115 #[.pointer (some ⟨b, 0, none⟩), .string name] w fun e w' => e = .returned (.int .i64 (d.thereE name)) ∧ DiskAt w' b bm (d.delete name) ∧ Fp [b, bm] w w' := by
 obtain ⟨W, hW, hfp, hdW, k1, k2, hlt⟩ := boxes2 (name := name) hd
 have hth := there_any W b bm d name false 186 _ _ hdW hok hname (delete_gate W b bm w.heap.size (w.heap.size + 1) d name hok hname k1 k2 (by omega) (by omega))
 rw [hW] at hth hfp
 have HT := Lib.hid hth
 have HF := Lib.hid hfp
 clear hth hfp hd hdW k1 k2 hW
 go_enter Tryz.func115, Tryz.ntmps115
 go_wp2_with (fail)
 refine HT.out.mono ?_
 rintro e w2 ⟨rfl, hd2, hf2⟩
 have HD2 := Lib.hid hd2
 clear hd2
 go_wp2_with (fail)
 go_ret
 exact ⟨rfl, HD2.out, (HF.out.mono (by simp)).trans hf2 (by simp)⟩
def Dk.renameG (d : Dk) (frm nto : ByteArray) (f : File) : Dk := if d.does false then (d.tick.set frm zeroFile true).set nto f false else d.tick
def Dk.rename (d : Dk) (frm nto : ByteArray) : Dk := if d.named [frm, nto] ≠ 0 then d else d.thereD frm (d.renameG frm nto)
def Dk.renameE (d : Dk) (frm nto : ByteArray) : Int := if d.named [frm, nto] ≠ 0 then d.named [frm, nto] else d.thereE frm
theorem rename1_enters (f pd pn pt : Value) : ∀ w, (callFunc 222 #[f, pd, pn, pt]).run Tryz.prog w = .ok (.enter 222 #[f, pd, pn, pt]) w := fun w => by kernel_rfl
theorem rename1_any (w : World) (b bm qd qn qt : Nat) (d : Dk) (f : File) (frm nto : ByteArray) (hd : DiskAt w b bm d) (hname : frm.size ≤ maxLen) (hto : nto.size ≤ maxLen)
  (h2 : w.cell? ⟨qd, 0, none⟩ = some (.pointer (some ⟨b, 0, none⟩))) (h3 : w.cell? ⟨qn, 0, none⟩ = some (.string frm)) (h4 : w.cell? ⟨qt, 0, none⟩ = some (.string nto))
  (n2 : b ≠ qd) (n4 : b ≠ qt)
  (g0 : 0 ≤ d.size) (g1 : d.size ≤ 1000000000) (g2 : f.s.size ≤ 1000000000) (g3 : (fget d frm).s.size ≤ 1000000000) (g4 : (fget (d.set frm zeroFile true) nto).s.size ≤ 1000000000) (g5 : 0 ≤ (d.set frm zeroFile true).size) (g6 : (d.set frm zeroFile true).size ≤ 1000000000) :
  Calls Tryz.prog 222 #[.agg #[.string f.s, .int .i64 f.synced], .pointer (some ⟨qd, 0, none⟩), .pointer (some ⟨qn, 0, none⟩), .pointer (some ⟨qt, 0, none⟩)] w fun e w' => e = .returned (.tuple #[]) ∧ DiskAt w' b bm ((d.set frm zeroFile true).set nto f false) ∧ Fp [b, bm] w w' := by
 have hfa := Fp.alloc w (.cells #[.string f.s, .int .i64 f.synced] 193)
 have hset := set_any (w.alloc (.cells #[.string f.s, .int .i64 f.synced] 193)) b bm d frm zeroFile true (hd.of_fp hfa (by simp) (by simp)) hname g0 g1 (by decide) g3
 change Calls Tryz.prog _ #[_, _, .agg #[.string ⟨#[]⟩, .int .i64 0], _] _ _ at hset
 have k2 : qd < w.heap.size := World.block_lt_of_cell? _ _ h2
 have k3 : qn < w.heap.size := World.block_lt_of_cell? _ _ h3
 have k4 : qt < w.heap.size := World.block_lt_of_cell? _ _ h4
 have m2 : qd ≠ bm := fun e => by
  obtain ⟨es, clock, hx, _⟩ := hd.files
  subst e
  simp [World.cell?, hx] at h2
 have m4 : qt ≠ bm := fun e => by
  obtain ⟨es, clock, hx, _⟩ := hd.files
  subst e
  simp [World.cell?, hx] at h4
 have hbl := heap_lt hd.cells
 have hbm := hd.files.lt
 have HS := Lib.hid hset
 have HFA := Lib.hid hfa
 have H2 := Lib.hid h2
 have H4 := Lib.hid h4
 clear hset hd hfa
 go_enter Tryz.func222, Tryz.ntmps222
 go_wp2_with (fail)
 refine HS.out.mono ?_
 rintro e w2 ⟨rfl, hd2, hf2, _⟩
 have c2 : w2.cell? ⟨qd, 0, none⟩ = some (.pointer (some ⟨b, 0, none⟩)) := by
  rw [hf2.cell (by simp; omega) (by simp; omega), HFA.out.cell (by simp; omega) (by simp)]; exact H2.out
 have c4 : w2.cell? ⟨qt, 0, none⟩ = some (.string nto) := by
  rw [hf2.cell (by simp; omega) (by simp; omega), HFA.out.cell (by simp; omega) (by simp)]; exact H4.out
 have c5 : w2.cell? ⟨w.heap.size, 0, none⟩ = some (.string f.s) := by
  rw [hf2.cell (by simp) (by simp; omega)]; exact cell_of_block (heap_alloc_at rfl _) 0
 have c6 : w2.cell? ⟨w.heap.size, 1, none⟩ = some (.int .i64 f.synced) := by
  rw [hf2.cell (by simp) (by simp; omega)]; exact cell_of_block (heap_alloc_at rfl _) 1
 have hset2 := set_any w2 b bm _ nto f false hd2 hto g5 g6 g2 g4
 have HS2 := Lib.hid hset2
 clear hd2 hset2
 go_wp2_with (fail)
 refine HS2.out.mono ?_
 rintro e w3 ⟨rfl, hd3, hf3, _⟩
 have HD3 := Lib.hid hd3
 clear hd3
 go_wp2_with (fail)
 go_end0
 exact ⟨rfl, HD3.out, ((HFA.out.mono (by simp)).trans hf2 (by simp)).trans hf3 (by simp)⟩
theorem fget_gone (d : Dk) (frm nto : ByteArray) (hok : DkOK d) : (fget (d.set frm zeroFile true) nto).s.size ≤ 1000000000 := by
 unfold fget Dk.set
 simp only [if_true]
 by_cases h : frm = nto
 ·subst h; rw [mget_mdel_same]; exact Nat.zero_le _
 ·rw [mget_mdel_other _ h, mget_mput_other _ h]; exact hok.fget_le nto
theorem renameG_ok {d : Dk} {frm nto : ByteArray} {f : File} (hok : DkOK d) (hf : mget d.files frm = some f) : DkOK (d.renameG frm nto f) := by
 have hfile := hok.file hf
 unfold Dk.renameG
 cases d.does false
 ·exact hok.tick
 ·have h1 : (mget d.tick.files frm).isSome = true := by show (mget d.files frm).isSome = true; rw [hf]; rfl
  have hg := hok.tick.gone frm h1
  have ht := total_put hok.nodup frm zeroFile
  have ht2 := total_mdel (nodup_mput (x := frm) (v := zeroFile) hok.nodup) frm
  rw [mget_mput_same] at ht2
  simp only [hf, Option.getD_some] at ht ht2
  have hfi := hok.fits
  have hz : zeroFile.s.size = 0 := rfl
  refine hg.put nto f ?_ hfile.1 (Or.inr ?_)
  ·show ((total (mdel (mput d.files frm zeroFile) frm) : Nat) : Int) + f.s.size - _ ≤ d.cap
   omega
  ·show (mdel (mput d.files frm zeroFile) frm).length < 200
   have hl := length_mdel (nodup_mput (x := frm) (v := zeroFile) hok.nodup) frm
   rw [mget_mput_same, length_mput, hf] at hl
   simp only [Option.isSome_some, if_true] at hl
   have := hok.many
   omega
theorem rename_gate (w : World) (b bm qd qn qt : Nat) (d : Dk) (frm nto : ByteArray) (hok : DkOK d) (hname : frm.size ≤ maxLen) (hto : nto.size ≤ maxLen)
  (h2 : w.cell? ⟨qd, 0, none⟩ = some (.pointer (some ⟨b, 0, none⟩))) (h3 : w.cell? ⟨qn, 0, none⟩ = some (.string frm)) (h4 : w.cell? ⟨qt, 0, none⟩ = some (.string nto)) (n2 : b ≠ qd) (n3 : b ≠ qn) (n4 : b ≠ qt) :
  d.named [frm] = 0 → ∀ f, mget d.files frm = some f → DkOK (d.renameG frm nto f) ∧ (d.does false = true → TurnsF w b bm d.tick f (d.renameG frm nto f) 222 #[.pointer (some ⟨qd, 0, none⟩), .pointer (some ⟨qn, 0, none⟩), .pointer (some ⟨qt, 0, none⟩)]) ∧ (d.does false = false → d.renameG frm nto f = d.tick) := by
 intro _ f hf
 have hle := hok.le
 have hz := hok.size
 have hfile := hok.file hf
 refine ⟨renameG_ok hok hf, fun hdo => ⟨rename1_enters _ _ _ _, fun w1 hd1 hf1 => ?_⟩, fun hdo => by unfold Dk.renameG; rw [hdo]; rfl⟩
 have hgo := hok.tick.gone frm (by show (mget d.files frm).isSome = true; rw [hf]; rfl)
 have hzz := hgo.size
 have hzl := hgo.le
 have h := rename1_any w1 b bm qd qn qt d.tick f frm nto hd1 hname hto (box_fp hf1 n2 h2) (box_fp hf1 n3 h3) (box_fp hf1 n4 h4) n2 n4 (by show 0 ≤ d.size; omega) (by show d.size ≤ _; omega) (by omega) (hok.tick.fget_le frm) (fget_gone _ _ _ hok.tick) (by omega) (by omega)
 unfold Dk.renameG
 rw [hdo]
 exact h
theorem rename_any (w : World) (b bm : Nat) (d : Dk) (frm nto : ByteArray) (hd : DiskAt w b bm d) (hok : DkOK d) (hname : frm.size ≤ maxLen) (hto : nto.size ≤ maxLen) :
  Calls Tryz.prog 195 #[.pointer (some ⟨b, 0, none⟩), .string frm, .string nto] w fun e w' => e = .returned (.int .i64 (d.renameE frm nto)) ∧ DiskAt w' b bm (d.rename frm nto) ∧ Fp [b, bm] w w' := by
 have hlt := heap_lt hd.cells
 obtain ⟨W, hW⟩ : ∃ W, W = ((((w.alloc (.cells #[.pointer (some ⟨b, 0, none⟩)] 26)).alloc (.cells #[.string frm] 9)).alloc (.cells #[.string nto] 9)).alloc (.cells #[.string frm, .string nto] 9)) := ⟨_, rfl⟩
 have hfW : Fp [] w W := by rw [hW]; exact (((Fp.alloc _ _).alloc' _).alloc' _).alloc' _
 have hb1 : W.heap[w.heap.size]? = some (.cells #[.pointer (some ⟨b, 0, none⟩)] 26 (0, 0)) := by
  rw [hW, Below.heap_alloc _ _ _ (by simp <;> omega), Below.heap_alloc _ _ _ (by simp <;> omega), Below.heap_alloc _ _ _ (by simp <;> omega)]
  exact heap_alloc_at rfl _
 have hb2 : W.heap[w.heap.size + 1]? = some (.cells #[.string frm] 9 (0, 0)) := by
  rw [hW, Below.heap_alloc _ _ _ (by simp <;> omega), Below.heap_alloc _ _ _ (by simp <;> omega)]
  exact heap_alloc_at (by simp) _
 have hb3 : W.heap[w.heap.size + 1 + 1]? = some (.cells #[.string nto] 9 (0, 0)) := by
  rw [hW, Below.heap_alloc _ _ _ (by simp <;> omega)]
  exact heap_alloc_at (by simp) _
 have hb4 : W.heap[w.heap.size + 1 + 1 + 1]? = some (.cells #[.string frm, .string nto] 9 (0, 0)) := by
  rw [hW]
  exact heap_alloc_at (by simp) _
 have hdW := hd.of_fp hfW (by simp) (by simp)
 have hnm : Calls Tryz.prog 132 #[.pointer (some ⟨b, 0, none⟩), .slice (some ⟨w.heap.size + 1 + 1 + 1, 0, none⟩) 2 2] W fun e w' => e = .returned (.int .i64 (d.named [frm, nto])) ∧ W = w' :=
  named_any _ b bm (w.heap.size + 1 + 1 + 1) d [frm, nto] hdW hb4 (by simp)
 have hth := there_any W b bm d frm false 222 _ _ hdW hok hname (rename_gate W b bm w.heap.size (w.heap.size + 1) (w.heap.size + 1 + 1) d frm nto hok hname hto (cell_of_block hb1 0) (cell_of_block hb2 0) (cell_of_block hb3 0) (by omega) (by omega) (by omega))
 have HDW := Lib.hid hdW
 rw [hW] at hth hfW hnm HDW
 have HT := Lib.hid hth
 have HN := Lib.hid hnm
 have HF := Lib.hid hfW
 clear hth hfW hd hdW hb1 hb2 hb3 hb4 hW hnm
 obtain ⟨nm, hnm⟩ : ∃ nm, nm = d.named [frm, nto] := ⟨_, rfl⟩
 rw [← hnm] at HN
 by_cases h0 : nm = 0
 ·subst h0
  have HE : Hid (d.renameE frm nto = d.thereE frm ∧ d.rename frm nto = d.thereD frm (d.renameG frm nto)) := by
   unfold Hid Dk.renameE Dk.rename; rw [← hnm]; exact ⟨rfl, rfl⟩
  clear hnm
  go_enter Tryz.func195, Tryz.ntmps195
  go_wp2_with (go_at_call 132; refine HN.out.mono ?_; rintro e w' ⟨rfl, rfl⟩)
  refine HT.out.mono ?_
  rintro e w2 ⟨rfl, hd2, hf2⟩
  have HD2 := Lib.hid hd2
  clear hd2
  go_wp2_with (fail)
  go_ret
  exact ⟨by rw [HE.out.1]; rfl, by rw [HE.out.2]; exact HD2.out, (HF.out.mono (by simp)).trans hf2 (by simp)⟩
 ·have HE : Hid (d.renameE frm nto = nm ∧ d.rename frm nto = d) := by
   unfold Hid Dk.renameE Dk.rename; rw [← hnm, if_pos h0, if_pos h0]; exact ⟨rfl, rfl⟩
  have hb : ((nm : Int) != 0) = true := by simpa using h0
  clear hnm h0
  go_enter Tryz.func195, Tryz.ntmps195
  go_wp2_with (go_at_call 132; refine HN.out.mono ?_; rintro e w' ⟨rfl, rfl⟩)
  go_ret
  exact ⟨by rw [HE.out.1]; rfl, by rw [HE.out.2]; exact HDW.out, HF.out.mono (by simp)⟩
def Dk.createG (d : Dk) (name : ByteArray) : Dk := if d.does false then d.tick.set name zeroFile false else d.tick
def Dk.createE (d : Dk) (name : ByteArray) : Int := if d.named [name] ≠ 0 then d.named [name] else if (mget d.files name).isSome then 4 else if 200 ≤ d.files.length then 2 else d.told
def Dk.create (d : Dk) (name : ByteArray) : Dk := if d.named [name] ≠ 0 then d else if (mget d.files name).isSome then d else if 200 ≤ d.files.length then d else d.burnt (d.createG name)
theorem create1_enters (pd pn : Value) : ∀ w, (callFunc 169 #[pd, pn]).run Tryz.prog w = .ok (.enter 169 #[pd, pn]) w := fun w => by kernel_rfl
theorem create1_any (w : World) (b bm qd qn : Nat) (d : Dk) (name : ByteArray) (hd : DiskAt w b bm d) (hname : name.size ≤ maxLen)
  (h2 : w.cell? ⟨qd, 0, none⟩ = some (.pointer (some ⟨b, 0, none⟩))) (h3 : w.cell? ⟨qn, 0, none⟩ = some (.string name))
  (g0 : 0 ≤ d.size) (g1 : d.size ≤ 1000000000) (g3 : (fget d name).s.size ≤ 1000000000) :
  Calls Tryz.prog 169 #[.pointer (some ⟨qd, 0, none⟩), .pointer (some ⟨qn, 0, none⟩)] w fun e w' => e = .returned (.tuple #[]) ∧ DiskAt w' b bm (d.set name zeroFile false) ∧ Fp [b, bm] w w' := by
 have hset := set_any w b bm d name zeroFile false hd hname g0 g1 (by decide) g3
 change Calls Tryz.prog _ #[_, _, .agg #[.string ⟨#[]⟩, .int .i64 0], _] _ _ at hset
 have HS := Lib.hid hset
 clear hset hd
 go_enter Tryz.func169, Tryz.ntmps169
 go_wp2_with (fail)
 refine HS.out.mono ?_
 rintro e w2 ⟨rfl, hd2, hf2, _⟩
 have HD2 := Lib.hid hd2
 clear hd2
 go_wp2_with (fail)
 go_end0
 exact ⟨rfl, HD2.out, hf2⟩
theorem createG_ok {d : Dk} {name : ByteArray} (hok : DkOK d) (hl : d.files.length < 200) : DkOK (d.createG name) := by
 unfold Dk.createG
 cases d.does false
 ·exact hok.tick
 ·refine hok.tick.put name zeroFile ?_ (Nat.le_refl _) (Or.inr hl)
  have := hok.fits
  have hz : zeroFile.s.size = 0 := rfl
  show (total d.files : Int) + _ - _ ≤ d.cap
  omega
theorem create_act (w : World) (b bm qd qn : Nat) (d : Dk) (name : ByteArray) (hd : DiskAt w b bm d) (hok : DkOK d) (hname : name.size ≤ maxLen) (hl : d.files.length < 200)
  (h2 : w.cell? ⟨qd, 0, none⟩ = some (.pointer (some ⟨b, 0, none⟩))) (h3 : w.cell? ⟨qn, 0, none⟩ = some (.string name)) (n2 : b ≠ qd) (n3 : b ≠ qn) :
  Calls Tryz.prog 168 #[.pointer (some ⟨b, 0, none⟩), .bool false, .func (.func 169) #[] #[.pointer (some ⟨qd, 0, none⟩), .pointer (some ⟨qn, 0, none⟩)]] w fun e w' => e = .returned (.int .i64 d.told) ∧ DiskAt w' b bm (d.burnt (d.createG name)) ∧ Fp [b, bm] w w' := by
 have hle := hok.le
 have hz := hok.size
 refine act_any w b bm d (d.createG name) false 169 _ hd hok (createG_ok hok hl) (fun hdo => ⟨create1_enters _ _, fun w1 hd1 hf1 => ?_⟩) (fun hdo => by unfold Dk.createG; rw [hdo]; rfl)
 have h := create1_any w1 b bm qd qn d.tick name hd1 hname (box_fp hf1 n2 h2) (box_fp hf1 n3 h3) (by show 0 ≤ d.size; omega) (by show d.size ≤ _; omega) (hok.tick.fget_le name)
 unfold Dk.createG
 rw [hdo]
 exact h
theorem create_any (w : World) (b bm : Nat) (d : Dk) (name : ByteArray) (hd : DiskAt w b bm d) (hok : DkOK d) (hname : name.size ≤ maxLen) :
  Calls Tryz.prog 99 #[.pointer (some ⟨b, 0, none⟩), .string name] w fun e w' => e = .returned (.int .i64 (d.createE name)) ∧ DiskAt w' b bm (d.create name) ∧ Fp [b, bm] w w' := by
 have hlt := heap_lt hd.cells
 have hlt1 : b < w.heap.size + 1 := by omega
 have hlt2 : b < w.heap.size + 1 + 1 := by omega
 have hlt3 : b < w.heap.size + 1 + 1 + 1 := by omega
 have hlt4 : b < w.heap.size + 1 + 1 + 1 + 1 := by omega
 have c2 : w.cell? ⟨b, 2, none⟩ = some (.map (some bm)) := cell_of_block hd.cells 2
 have hfp : Fp [] w (((w.alloc (.cells #[.pointer (some ⟨b, 0, none⟩)] 26)).alloc (.cells #[.string name] 9)).alloc (.cells #[.string name] 9)) := ((Fp.alloc _ _).alloc' _).alloc' _
 have hlg : ∀ W, Fp [] w W → (Instr.lookup 51 (.map (some bm)) (.string name) true).run Tryz.prog W = .ok (.tuple #[.agg #[.string (fget d name).s, .int .i64 (fget d name).synced], .bool (mget d.files name).isSome]) W := fun W hf => (hd.of_fp hf (by simp) (by simp)).files.lookup true hname
 have hl := hlg _ hfp.drew'
 have hl2 := hlg _ (hfp.alloc' (.cells #[.string ⟨#[]⟩, .int .i64 0] 193)).drew'
 clear hlg
 obtain ⟨W, hW⟩ : ∃ W, W = ((((w.alloc (.cells #[.pointer (some ⟨b, 0, none⟩)] 26)).alloc (.cells #[.string name] 9)).alloc (.cells #[.string name] 9)).alloc (.cells #[.string (fget d name).s, .int .i64 (fget d name).synced] 193)) := ⟨_, rfl⟩
 have hfW : Fp [] w W := by rw [hW]; exact hfp.alloc' _
 have hb1 : W.heap[w.heap.size]? = some (.cells #[.pointer (some ⟨b, 0, none⟩)] 26 (0, 0)) := by
  rw [hW, Below.heap_alloc _ _ _ (by simp <;> omega), Below.heap_alloc _ _ _ (by simp <;> omega), Below.heap_alloc _ _ _ (by simp <;> omega)]
  exact heap_alloc_at rfl _
 have hb2 : W.heap[w.heap.size + 1]? = some (.cells #[.string name] 9 (0, 0)) := by
  rw [hW, Below.heap_alloc _ _ _ (by simp <;> omega), Below.heap_alloc _ _ _ (by simp <;> omega)]
  exact heap_alloc_at (by simp) _
 have hlen := (hd.of_fp hfW.drew' (by simp) (by simp)).files.len 3
 have hnm : Calls Tryz.prog 132 #[.pointer (some ⟨b, 0, none⟩), .slice (some ⟨w.heap.size + 1 + 1, 0, none⟩) 1 1] (((w.alloc (.cells #[.pointer (some ⟨b, 0, none⟩)] 26)).alloc (.cells #[.string name] 9)).alloc (.cells #[.string name] 9)) fun e w' => e = .returned (.int .i64 (d.named [name])) ∧ (((w.alloc (.cells #[.pointer (some ⟨b, 0, none⟩)] 26)).alloc (.cells #[.string name] 9)).alloc (.cells #[.string name] 9)) = w' :=
  named_any _ b bm (w.heap.size + 1 + 1) d [name] (hd.of_fp hfp (by simp) (by simp)) (heap_alloc_at (by simp) _) (by simp)
 have hact : d.files.length < 200 → ∀ W', W'.heap = W.heap → Fp [] w W' → _ := fun hl W' hh hf => create_act W' b bm w.heap.size (w.heap.size + 1) d name (hd.of_fp hf (by simp) (by simp)) hok hname hl (cell_of_block (by rw [hh]; exact hb1) 0) (cell_of_block (by rw [hh]; exact hb2) 0) (by omega) (by omega)
 have HD := Lib.hid hd
 have HN := Lib.hid hnm
 have HA := Lib.hid hact
 have HW := Lib.hid hW
 have HFW := Lib.hid hfW
 rw [hW] at hlen
 have hmany := hok.many
 clear hd hnm hact hW hfW hb1 hb2 hfp
 obtain ⟨is, his⟩ : ∃ is, is = (mget d.files name).isSome := ⟨_, rfl⟩
 rw [← his] at hl hl2
 obtain ⟨n, hn⟩ : ∃ n, n = d.files.length := ⟨_, rfl⟩
 rw [← hn] at hlen hmany
 obtain ⟨nm, hnm⟩ : ∃ nm, nm = d.named [name] := ⟨_, rfl⟩
 rw [← hnm] at HN
 by_cases h0 : nm = 0
 ·subst h0
  have HE : Hid (d.createE name = (if is then 4 else if 200 ≤ n then 2 else d.told) ∧ d.create name = (if is then d else if 200 ≤ n then d else d.burnt (d.createG name))) := by
   unfold Hid Dk.createE Dk.create; rw [← hnm, ← his, ← hn]; exact ⟨rfl, rfl⟩
  have HNN := Lib.hid hn
  clear hnm his hn
  by_cases h1 : is = true
  ·subst h1
   go_enter Tryz.func99, Tryz.ntmps99
   go_wp2_with (go_at_call 132; refine HN.out.mono ?_; rintro e w' ⟨rfl, rfl⟩)
   go_region
   all_goals
    go_wp2_with (fail)
    go_ret
    exact ⟨by rw [HE.out.1]; rfl, by rw [HE.out.2]; exact HD.out.of_fp (S := []) ((HW.out ▸ HFW.out).drew') (by simp) (by simp), (HW.out ▸ HFW.out).drew'.mono (by simp)⟩
  ·obtain rfl : is = false := by simpa using h1
   clear h1
   by_cases h2 : 200 ≤ n
   ·have HR : Hid (d.createE name = 2 ∧ d.create name = d) := by unfold Hid; rw [HE.out.1, HE.out.2]; simp [h2]
    go_enter Tryz.func99, Tryz.ntmps99
    go_wp2_with (go_at_call 132; refine HN.out.mono ?_; rintro e w' ⟨rfl, rfl⟩)
    go_region
    all_goals
     go_wp2_with (fail)
     go_ret
     exact ⟨by rw [HR.out.1]; rfl, by rw [HR.out.2]; exact HD.out.of_fp (S := []) ((HW.out ▸ HFW.out).drew') (by simp) (by simp), (HW.out ▸ HFW.out).drew'.mono (by simp)⟩
   ·have HR : Hid (d.createE name = d.told ∧ d.create name = d.burnt (d.createG name)) := by unfold Hid; rw [HE.out.1, HE.out.2]; simp [h2]
    have HAA := Lib.hid (HA.out (by rw [← HNN.out]; omega) W.drew rfl HFW.out.drew')
    rw [HW.out] at HAA
    clear HA
    go_enter Tryz.func99, Tryz.ntmps99
    go_wp2_with (go_at_call 132; refine HN.out.mono ?_; rintro e w' ⟨rfl, rfl⟩)
    go_region
    all_goals
     go_wp2_with (fail)
     refine HAA.out.mono ?_
     rintro e w2 ⟨rfl, hd2, hf2⟩
     have HD2 := Lib.hid hd2
     clear hd2
     go_wp2_with (fail)
     go_ret
     exact ⟨by rw [HR.out.1]; rfl, by rw [HR.out.2]; exact HD2.out, ((HW.out ▸ HFW.out).drew'.mono (by simp)).trans hf2 (by simp)⟩
 ·have HE : Hid (d.createE name = nm ∧ d.create name = d) := by
   unfold Hid Dk.createE Dk.create; rw [← hnm, if_pos h0, if_pos h0]; exact ⟨rfl, rfl⟩
  have hb : ((nm : Int) != 0) = true := by simpa using h0
  clear hnm h0 his hn
  cases is
  all_goals
   go_enter Tryz.func99, Tryz.ntmps99
   go_wp2_with (go_at_call 132; refine HN.out.mono ?_; rintro e w' ⟨rfl, rfl⟩)
   go_region
   all_goals
    go_wp2_with (fail)
    go_ret
    exact ⟨by rw [HE.out.1]; rfl, by rw [HE.out.2]; exact HD.out.of_fp (S := []) ((HW.out ▸ HFW.out).drew') (by simp) (by simp), (HW.out ▸ HFW.out).drew'.mono (by simp)⟩
end
section
def polyN : Nat := 3988292384
def bitN (n : Nat) : Nat := (n / 2) ^^^ (if n % 2 = 1 then polyN else 0)
def fourL : List Nat := [0, 498536548, 997073096, 651767980, 1994146192, 1802195444, 1303535960, 1342533948, 3988292384, 4027552580, 3604390888, 3412177804, 2607071920, 2262029012, 2685067896, 3183342108]
def nibN (n : Nat) : Nat := (n / 16) ^^^ fourL.getD (n % 16) 0
theorem xor_div2 (a b : Nat) : (a ^^^ b) / 2 = (a / 2) ^^^ (b / 2) := by
 have := Nat.shiftRight_xor_distrib (a := a) (b := b) (i := 1)
 simpa [Nat.shiftRight_eq_div_pow] using this
theorem xor_mod2 (a b : Nat) : (a ^^^ b) % 2 = (a % 2 + b % 2) % 2 := by
 have h := Nat.xor_mod_two_pow (a := a) (b := b) (n := 1)
 rw [Nat.pow_one] at h
 rw [h]
 rcases Nat.mod_two_eq_zero_or_one a with ha | ha <;> rcases Nat.mod_two_eq_zero_or_one b with hb | hb <;> rw [ha, hb] <;> rfl
theorem bit_xor (a b : Nat) : bitN (a ^^^ b) = bitN a ^^^ bitN b := by
 unfold bitN
 rw [xor_div2, xor_mod2]
 rcases Nat.mod_two_eq_zero_or_one a with ha | ha <;> rcases Nat.mod_two_eq_zero_or_one b with hb | hb <;> rw [ha, hb]
 ·simp
 ·simp [Nat.xor_assoc]
 ·simp [Nat.xor_assoc, Nat.xor_comm (b / 2)]
 ·simp only [Nat.reduceAdd, Nat.reduceMod, Nat.reduceEqDiff, if_false, if_true, Nat.xor_zero]
  rw [Nat.xor_assoc, Nat.xor_comm polyN, Nat.xor_assoc, Nat.xor_self, Nat.xor_zero]
theorem bit_even (m : Nat) : bitN (2 * m) = m := by
 unfold bitN
 rw [Nat.mul_div_cancel_left m (by decide), Nat.mul_mod_right, if_neg (by decide), Nat.xor_zero]
theorem split16 (n : Nat) : n = (16 * (n / 16)) ^^^ (n % 16) := by
 have h := Nat.two_pow_add_eq_or_of_lt (i := 4) (b := n % 16) (Nat.mod_lt _ (by decide)) (n / 16)
 have h2 : (16 * (n / 16)) ^^^ (n % 16) = 2 ^ 4 * (n / 16) + n % 16 := by
  apply Nat.eq_of_testBit_eq
  intro i
  rw [Nat.testBit_two_pow_mul_add _ (Nat.mod_lt _ (by decide)), Nat.testBit_xor, show (16 : Nat) = 2 ^ 4 from rfl, Nat.testBit_two_pow_mul, Nat.testBit_mod_two_pow]
  by_cases hi : i < 4
  ·have : ¬ 4 ≤ i := by omega
   simp [hi, this]
  ·simp [hi]; omega
 omega
theorem nib_bits (n : Nat) : nibN n = bitN (bitN (bitN (bitN n))) := by
 conv => rhs; rw [split16 n]
 rw [bit_xor, show 16 * (n / 16) = 2 * (8 * (n / 16)) by omega, bit_even, bit_xor, show 8 * (n / 16) = 2 * (4 * (n / 16)) by omega, bit_even, bit_xor, show 4 * (n / 16) = 2 * (2 * (n / 16)) by omega, bit_even, bit_xor, bit_even]
 unfold nibN
 congr 1
 have h : n % 16 < 16 := Nat.mod_lt _ (by decide)
 generalize n % 16 = r at h
 have key : ∀ r, r < 16 → fourL.getD r 0 = bitN (bitN (bitN (bitN r))) := by decide
 exact key r h
def nibsN (n : Nat) (b : UInt8) : Nat := nibN (nibN (n ^^^ b.toNat))
def byteR (n : Nat) (b : UInt8) : Nat := bitN (bitN (bitN (bitN (bitN (bitN (bitN (bitN (n ^^^ b.toNat))))))))
theorem byte_same (n : Nat) (b : UInt8) : nibsN n b = byteR n b := by unfold nibsN byteR; rw [nib_bits, nib_bits]
def sumN (n : Nat) (l : List UInt8) : Nat := l.foldl byteR n
theorem bit_lt {n : Nat} (h : n < 4294967296) : bitN n < 4294967296 := by
 unfold bitN
 refine Nat.xor_lt_two_pow (n := 32) (by omega) ?_
 split <;> decide
theorem byteR_lt {n : Nat} {b : UInt8} (h : n < 4294967296) : byteR n b < 4294967296 := by
 have hb := b.toNat_lt
 unfold byteR
 exact bit_lt (bit_lt (bit_lt (bit_lt (bit_lt (bit_lt (bit_lt (bit_lt (Nat.xor_lt_two_pow (n := 32) h (by omega)))))))))
end
section
open Go.RowKit
theorem bits_xor_u32 (a b : Nat) (ha : a < 4294967296) (hb : b < 4294967296) : bits .xor .u32 (a : Int) (b : Int) = ((a ^^^ b : Nat) : Int) := by
 have hx : a ^^^ b < 2 ^ 32 := Nat.xor_lt_two_pow (by omega) (by omega)
 have h1 : (BitVec.ofInt 32 (a : Int)).toNat = a := by
  rw [BitVec.ofInt_natCast, BitVec.toNat_ofNat]; exact Nat.mod_eq_of_lt (by omega)
 have h2 : (BitVec.ofInt 32 (b : Int)).toNat = b := by
  rw [BitVec.ofInt_natCast, BitVec.toNat_ofNat]; exact Nat.mod_eq_of_lt (by omega)
 show IntKind.u32.wrap ((BitVec.ofInt 32 (a : Int) ^^^ BitVec.ofInt 32 (b : Int)).toNat : Int) = _
 rw [BitVec.toNat_xor, h1, h2, IntKind.wrap_u32]
 omega
theorem bits_low_u32 (a : Nat) (ha : a < 4294967296) : bits .and .u32 (a : Int) 15 = ((a % 16 : Nat) : Int) :=
 bits_mask .u32 32 (by decide) (fun n h0 h1 => by rw [IntKind.wrap_u32]; omega) 4 (by decide) a (by omega) (by omega)
def TabAt (w : World) : Prop := ∀ i, i < 16 → w.cell? ⟨0, i, none⟩ = some (.int .u32 (fourL.getD i 0 : Nat))
theorem TabAt.fp {w w' : World} {S : List Nat} (h : TabAt w) (hf : Fp S w w') (hs : 0 ∉ S) : TabAt w' := fun i hi =>
 (hf.cell (p := ⟨0, i, none⟩) (World.block_lt_of_cell? _ _ (h i hi)) hs).trans (h i hi)
theorem four_lt (i : Nat) : fourL.getD i 0 < 4294967296 := by
 by_cases h : i < 16
 ·have key : ∀ r, r < 16 → fourL.getD r 0 < 4294967296 := by decide
  exact key i h
 ·rw [List.getD_eq_getElem?_getD, List.getElem?_eq_none (by show 16 ≤ i; omega)]; decide
theorem bytes_in_crc (w : World) (s : ByteArray) : ∃ cap W, (convert 9 67 (.string s)).run Tryz.prog w = .ok (.slice (some ⟨w.heap.size, 0, none⟩) s.size cap) W ∧
  (∀ j (h : j < s.size), W.cell? ⟨w.heap.size, j, none⟩ = some (.int .u8 s[j].toNat)) ∧ Fp [] w W := by
 have h := run_bytes_of_string (P := Tryz.prog) w 9 67 5 s Tryz.underlying9 Tryz.underlying67 Tryz.underlying5
 refine ⟨_, _, h, ?_, (Fp.drew w).alloc' _⟩
 have hb := heap_alloc_at (w := w.drew) (n := w.heap.size) rfl (.cells (bytesRow s (grownCap w s.size 0 5)) 5 ((bytesRow s (grownCap w s.size 0 5)).size, (bytesRow s (grownCap w s.size 0 5)).size + 1))
 intro j hj
 rw [cell_of_block hb, bytesRow_at s _ j hj]
 rfl
theorem sumN_snoc (n : Nat) (l : List UInt8) (b : UInt8) : sumN n (l ++ [b]) = byteR (sumN n l) b := by unfold sumN; rw [List.foldl_append]; rfl
theorem sumN_lt (l : List UInt8) : ∀ n, n < 4294967296 → sumN n l < 4294967296 := by
 induction l with
 |nil => intro n h; exact h
 |cons b l ih => intro n h; exact ih _ (byteR_lt h)
def sumK (n : Nat) (s : ByteArray) (k : Nat) : Nat := sumN n (s.data.toList.take k)
theorem sumK_succ (n : Nat) (s : ByteArray) (k : Nat) (hk : k < s.size) : sumK n s (k + 1) = byteR (sumK n s k) s[k] := by
 have hl : k < s.data.toList.length := hk
 have e : s.data.toList[k]? = some s[k] := by
  rw [List.getElem?_eq_getElem hl]; simp; rfl
 rw [List.getElem?_eq_getElem hl] at e
 unfold sumK
 rw [List.take_succ_eq_append_getElem hl, sumN_snoc, Option.some.inj e]
theorem sumK_all (n : Nat) (s : ByteArray) : sumK n s s.size = sumN n s.data.toList := by
 unfold sumK; exact congrArg (sumN n) (List.take_of_length_le (Nat.le_refl s.data.toList.length))
theorem sumK_lt {n : Nat} (s : ByteArray) (k : Nat) (h : n < 4294967296) : sumK n s k < 4294967296 := sumN_lt _ _ h
def moreN (n : Nat) (s : ByteArray) : Nat := 4294967295 - sumN (4294967295 - n) s.data.toList
theorem not_u32 (n : Nat) (h : n < 4294967296) : bits .xor .u32 IntKind.u32.max (n : Int) = ((4294967295 - n : Nat) : Int) := by
 have e : IntKind.u32.max = ((4294967295 : Nat) : Int) := rfl
 rw [e, bits_xor_u32 _ _ (by decide) h]
 congr 1
 have h1 : (BitVec.allOnes 32 ^^^ BitVec.ofNat 32 n).toNat = 4294967295 ^^^ n := by
  rw [BitVec.toNat_xor, BitVec.toNat_allOnes, BitVec.toNat_ofNat, Nat.mod_eq_of_lt (by omega)]
 rw [← h1, BitVec.allOnes_xor, BitVec.toNat_not, BitVec.toNat_ofNat, Nat.mod_eq_of_lt (by omega)]
theorem more_any (n : Nat) (s : ByteArray) (w : World) (hn : n < 4294967296) (hs : s.size ≤ 100000000) (ht : TabAt w) :
  Calls Tryz.prog 81 #[.int .u32 n, .string s] w fun e w' => e = .returned (.int .u32 (moreN n s)) ∧ Fp [] w w' := by
 obtain ⟨cap, W, hconv, hrow, hf⟩ := bytes_in_crc w s
 have HT := Lib.hid (ht.fp hf List.not_mem_nil)
 have HROW := Lib.hid hrow
 have HF0 := Lib.hid hf
 clear ht hrow hf
 have hsg : IntKind.u32.signed = false := rfl
 have hnot := not_u32 n hn
 obtain ⟨n0, hn0⟩ : ∃ n0, 4294967295 - n = n0 := ⟨_, rfl⟩
 have HM : Hid (moreN n s = 4294967295 - sumK n0 s s.size) := by unfold Hid moreN; rw [hn0, sumK_all]
 have hn1 : n0 < 4294967296 := by omega
 rw [hn0] at hnot
 clear hn0
 go_enter Tryz.func81, Tryz.ntmps81
 go_wp2_with (fail)
 go_loopg [5, 13] s.size (fun g vn vi wr => ∃ k : Nat, g + k = s.size ∧ vn = .int .u32 (sumK n0 s k) ∧ vi = .int .i64 k ∧ Fp [] W wr)
 case atStart => exact ⟨0, by omega, rfl, rfl, Fp.refl _ _⟩
 case round =>
  obtain ⟨k, hg, rfl, rfl, hf⟩ := hrel
  have HF := Lib.hid hf
  clear hf
  by_cases hk : k < s.size
  ·have HS := Lib.hid (sumK_succ n0 s k hk)
   have hlt := sumK_lt s k hn1
   obtain ⟨m, hm⟩ : ∃ m, sumK n0 s k = m := ⟨_, rfl⟩
   rw [hm] at HS hlt
   rw [hm]
   have q0 : wr.cell? ⟨w.heap.size, k, none⟩ = some (.int .u8 s[k].toNat) := by
    rw [HF.out.cell (p := ⟨w.heap.size, k, none⟩) (World.block_lt_of_cell? _ _ (HROW.out k hk)) List.not_mem_nil]; exact HROW.out k hk
   obtain ⟨b, hb⟩ : ∃ b, s[k] = b := ⟨_, rfl⟩
   rw [hb] at q0 HS
   have hbl := b.toNat_lt
   have wb : IntKind.u32.wrap (b.toNat : Int) = (b.toNat : Int) := by rw [IntKind.wrap_u32]; omega
   have x1 := bits_xor_u32 m b.toNat hlt (by omega)
   have l1 : m ^^^ b.toNat < 4294967296 := Nat.xor_lt_two_pow (n := 32) hlt (by omega)
   obtain ⟨m1, hm1⟩ : ∃ m1, m ^^^ b.toNat = m1 := ⟨_, rfl⟩
   rw [hm1] at x1 l1
   have HT1 := Lib.hid (HT.out.fp HF.out List.not_mem_nil)
   have HB : Hid (byteR m b = nibN (nibN m1)) := by unfold Hid; rw [← byte_same, nibsN, hm1]
   clear hm hb hm1
   obtain ⟨r1, hr1⟩ : ∃ r, m1 % 16 = r := ⟨_, rfl⟩
   have rl1 : r1 < 16 := by omega
   have a1 := bits_low_u32 m1 l1
   rw [hr1] at a1
   obtain ⟨d1, hd1⟩ : ∃ d, m1 / 16 = d := ⟨_, rfl⟩
   have e1 : (m1 : Int) / 16 = (d1 : Int) := by omega
   have t1 : wr.cell? ⟨0, r1, none⟩ = some (.int .u32 (fourL.getD r1 0 : Nat)) := HT1.out r1 rl1
   have fl1 := four_lt r1
   have HN1 : Hid (nibN m1 = d1 ^^^ fourL.getD r1 0) := by unfold Hid nibN; rw [hr1, hd1]
   obtain ⟨f1, hf1⟩ : ∃ f, fourL.getD r1 0 = f := ⟨_, rfl⟩
   rw [hf1] at t1 fl1 HN1
   have x2 := bits_xor_u32 d1 f1 (by omega) fl1
   have l2 : d1 ^^^ f1 < 4294967296 := Nat.xor_lt_two_pow (n := 32) (by omega) fl1
   obtain ⟨m2, hm2⟩ : ∃ m, d1 ^^^ f1 = m := ⟨_, rfl⟩
   rw [hm2] at x2 l2 HN1
   clear hr1 hd1 hf1 hm2
   obtain ⟨r2, hr2⟩ : ∃ r, m2 % 16 = r := ⟨_, rfl⟩
   have rl2 : r2 < 16 := by omega
   have a2 := bits_low_u32 m2 l2
   rw [hr2] at a2
   obtain ⟨d2, hd2⟩ : ∃ d, m2 / 16 = d := ⟨_, rfl⟩
   have e2 : (m2 : Int) / 16 = (d2 : Int) := by omega
   have t2 : wr.cell? ⟨0, r2, none⟩ = some (.int .u32 (fourL.getD r2 0 : Nat)) := HT1.out r2 rl2
   have fl2 := four_lt r2
   have HN2 : Hid (nibN m2 = d2 ^^^ fourL.getD r2 0) := by unfold Hid nibN; rw [hr2, hd2]
   obtain ⟨f2, hf2⟩ : ∃ f, fourL.getD r2 0 = f := ⟨_, rfl⟩
   rw [hf2] at t2 fl2 HN2
   have x3 := bits_xor_u32 d2 f2 (by omega) fl2
   have l3 : d2 ^^^ f2 < 4294967296 := Nat.xor_lt_two_pow (n := 32) (by omega) fl2
   obtain ⟨m3, hm3⟩ : ∃ m, d2 ^^^ f2 = m := ⟨_, rfl⟩
   rw [hm3] at x3 l3 HN2
   clear hr2 hd2 hf2 hm3
   go_wp2_with (fail)
   go_roundg (gk - 1)
   case measure => omega
   case rel => exact ⟨k + 1, by omega, by rw [HS.out, HB.out, HN1.out, HN2.out], by simp, HF.out⟩
  ·obtain rfl : k = s.size := by omega
   have hlt := sumK_lt s s.size hn1
   obtain ⟨m, hm⟩ : ∃ m, sumK n0 s s.size = m := ⟨_, rfl⟩
   rw [hm] at HM hlt
   rw [hm]
   have hnot2 := not_u32 m hlt
   go_wp2_with (fail)
   go_ret
   exact ⟨by rw [HM.out]; rfl, HF0.out.trans HF.out (by simp)⟩
theorem sum_any (s : ByteArray) (w : World) (hs : s.size ≤ 100000000) (ht : TabAt w) :
  Calls Tryz.prog 82 #[.string s] w fun e w' => e = .returned (.int .u32 (moreN 0 s)) ∧ Fp [] w w' := by
 have H : Hid (∀ w, TabAt w → Calls Tryz.prog 81 #[.int .u32 0, .string s] w fun e w' => e = .returned (.int .u32 (moreN 0 s)) ∧ Fp [] w w') := fun w ht => more_any 0 s w (by decide) hs ht
 have HT := Lib.hid ht
 clear ht
 go_enter Tryz.func82, Tryz.ntmps82
 go_wp2_with (fail)
 (with_reducible refine (H.out _ HT.out).mono ?_)
 rintro e w1 ⟨rfl, hf⟩
 have HF := Lib.hid hf
 clear hf
 go_wp2_with (fail)
 go_ret
 exact ⟨rfl, HF.out⟩
end
section
section
open Go.RowKit
theorem rmay_any (c : Cel) (w : World) (hc : CelOK c) : Calls Tryz.prog 8 #[cellV c] w fun e w' => e = .returned (.bool (mayB c)) ∧ Fp [] w w' := by
 obtain ⟨h1, h2, h3, h4, h5⟩ := hc
 have HB : Hid (mayB c = (decide (1 ≤ c.row.size ∧ c.row.size ≤ 40) && decide (1 ≤ c.col.size ∧ c.col.size ≤ 40) && decide (c.val.size ≤ 100) && (!c.del || decide (c.val.size = 0)))) := rfl
 unfold cellV
 by_cases k1 : c.row.size < 1
 ·have HT : Hid (mayB c = false) := by unfold Hid; rw [HB.out, decide_eq_false (by omega)]; rfl
  go_enter Tryz.func8, Tryz.ntmps8
  go_wp2_with (fail)
  go_ret
  exact ⟨ret_bool HT.out.symm, Fp.alloc _ _⟩
 by_cases k2 : c.row.size ≤ 40
 case neg =>
  have k2' : 40 < c.row.size := by omega
  have HT : Hid (mayB c = false) := by unfold Hid; rw [HB.out, decide_eq_false (by omega)]; rfl
  go_enter Tryz.func8, Tryz.ntmps8
  go_wp2_with (fail)
  go_ret
  exact ⟨ret_bool HT.out.symm, Fp.alloc _ _⟩
 have HR : Hid (decide (1 ≤ c.row.size ∧ c.row.size ≤ 40) = true) := decide_eq_true (by omega)
 by_cases k3 : c.col.size < 1
 ·have HT : Hid (mayB c = false) := by unfold Hid; rw [HB.out, HR.out, decide_eq_false (by omega)]; rfl
  go_enter Tryz.func8, Tryz.ntmps8
  go_wp2_with (fail)
  go_ret
  exact ⟨ret_bool HT.out.symm, Fp.alloc _ _⟩
 by_cases k4 : c.col.size ≤ 40
 case neg =>
  have k4' : 40 < c.col.size := by omega
  have HT : Hid (mayB c = false) := by unfold Hid; rw [HB.out, HR.out, decide_eq_false (by omega)]; rfl
  go_enter Tryz.func8, Tryz.ntmps8
  go_wp2_with (fail)
  go_ret
  exact ⟨ret_bool HT.out.symm, Fp.alloc _ _⟩
 have HC : Hid (decide (1 ≤ c.col.size ∧ c.col.size ≤ 40) = true) := decide_eq_true (by omega)
 by_cases k5 : c.val.size ≤ 100
 case neg =>
  have k5' : 100 < c.val.size := by omega
  have HT : Hid (mayB c = false) := by unfold Hid; rw [HB.out, HR.out, HC.out, decide_eq_false (by omega)]; rfl
  go_enter Tryz.func8, Tryz.ntmps8
  go_wp2_with (fail)
  go_ret
  exact ⟨ret_bool HT.out.symm, Fp.alloc _ _⟩
 have HV : Hid (decide (c.val.size ≤ 100) = true) := decide_eq_true (by omega)
 obtain ⟨dl, hdl⟩ : ∃ dl, dl = c.del := ⟨_, rfl⟩
 rw [← hdl] at HB ⊢
 clear hdl
 cases dl
 ·have HT : Hid (mayB c = true) := by unfold Hid; rw [HB.out, HR.out, HC.out, HV.out]; rfl
  go_enter Tryz.func8, Tryz.ntmps8
  go_wp2_with (fail)
  go_ret
  exact ⟨ret_bool HT.out.symm, Fp.alloc _ _⟩
 by_cases h0 : c.val.size = 0
 ·have HT : Hid (mayB c = true) := by unfold Hid; rw [HB.out, HR.out, HC.out, HV.out, decide_eq_true h0]; rfl
  have he := str_empty h0
  go_enter Tryz.func8, Tryz.ntmps8
  go_wp2_with (fail)
  go_ret
  exact ⟨ret_bool HT.out.symm, Fp.alloc _ _⟩
 ·have HT : Hid (mayB c = false) := by unfold Hid; rw [HB.out, HR.out, HC.out, HV.out, decide_eq_false h0]; rfl
  have he := str_full (Nat.pos_of_ne_zero h0)
  clear h0
  go_enter Tryz.func8, Tryz.ntmps8
  go_wp2_with (fail)
  go_ret
  exact ⟨ret_bool HT.out.symm, Fp.alloc _ _⟩
end
section
open Go.RowKit
theorem BRow.congr {w : World} {b n : Nat} {f g : Nat → UInt8} (h : BRow w b n f) (hfg : ∀ t, t < n → f t = g t) : BRow w b n g :=
 ⟨h.lt, fun j hj => by rw [h.cell j hj, hfg j hj], h.free⟩
end
section
open Go.RowKit
theorem conv2 {w : World} {g n m : Nat} (hg : w.heap[g]? = some (.cells #[.int .u8 n, .int .u8 m] 5 (0, 0))) (h : n < 256) (h2 : m < 256) : (convert 67 9 (.slice (some ⟨g, 0, none⟩) 2 2)).run Tryz.prog w = .ok (.string (bl [UInt8.ofNat n, UInt8.ofNat m])) w := by
 refine str_of_brow (cap := 2) (n := 2) (f := fun j => if j = 0 then UInt8.ofNat n else UInt8.ofNat m) ⟨heap_lt hg, fun j hj => ?_, fun j _ => frozen_of_block hg j⟩
 have h3 : j = 0 ∨ j = 1 := by omega
 rcases h3 with rfl | rfl
 ·rw [cell_of_block hg, if_pos rfl, byteV_ofNat h]; rfl
 ·rw [cell_of_block hg, if_neg (by decide), byteV_ofNat h2]; rfl
theorem bl_append (a b : List UInt8) : bl a ++ bl b = bl (a ++ b) := by
 rw [← Lib.mk_data (bl a ++ bl b)]
 unfold bl
 simp
end
end
end Go.Proofs.YtkjmgbifoaoefaaGreatDoor
