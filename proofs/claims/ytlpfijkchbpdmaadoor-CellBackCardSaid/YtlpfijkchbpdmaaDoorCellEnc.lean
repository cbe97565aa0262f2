/-
  Encode.
-/
import Derived.Test.YtlpfijkchbpdmaaDoorCellKey
import Derived.Test.YtlpfijkchbpdmaaDoorBytesStep
namespace Go.Proofs.YtlpfijkchbpdmaaDoor
open Go.RowKit

def delN (d : Bool) : UInt8 := if d then 1 else 0
def encL (c : Cel) : List UInt8 :=
  UInt8.ofNat c.row.size :: c.row.data.toList ++ (UInt8.ofNat c.col.size :: c.col.data.toList) ++ le8 c.ts ++ le8 c.seq ++ [delN c.del, UInt8.ofNat c.val.size] ++ c.val.data.toList
def encB (c : Cel) : ByteArray := if mayB c = true then ⟨(encL c).toArray⟩ else ⟨#[]⟩
def encE (c : Cel) : Int := if mayB c = true then 0 else 1

set_option maxRecDepth 100000 in
set_option maxHeartbeats 2000000 in
theorem enc_no (c : Cel) (w : World) (hc : CelOK c) (hmay : mayB c = false) : Calls Tryd.prog 13 #[cellV c] w fun e w' => e = .returned (.tuple #[.string ⟨#[]⟩, .int .i64 1]) ∧ Fp [] w w' := by
  have n1 := fun w => may_any c w hc
  rw [hmay] at n1
  unfold cellV at n1 ⊢
  have N1 := Lib.hid n1
  clear n1 hmay
  go_enter Tryd.func13, Tryd.ntmps13
  go_wp2_with (fail)
  refine (N1.out _).mono ?_
  rintro e w1 ⟨rfl, hf1⟩
  have HF1 := Lib.hid hf1
  clear hf1
  go_wp2_with (fail)
  go_ret2
  exact ⟨rfl, (Fp.alloc w _).trans HF1.out (by simp)⟩

set_option maxRecDepth 100000 in
set_option maxHeartbeats 4000000 in
theorem enc_yes (c : Cel) (w : World) (hc : CelOK c) (hmay : mayB c = true) : Calls Tryd.prog 13 #[cellV c] w fun e w' => e = .returned (.tuple #[.string ⟨(encL c).toArray⟩, .int .i64 0]) ∧ Fp [] w w' := by
  have n1 := fun w => may_any c w hc
  obtain ⟨hr, hk, hv, _⟩ := mayB_true hmay
  rw [hmay] at n1
  have ht := hc.ts
  have hq := hc.seq
  unfold cellV at n1 ⊢
  have N1 := Lib.hid n1
  have HE : Hid (encL c = UInt8.ofNat c.row.size :: c.row.data.toList ++ (UInt8.ofNat c.col.size :: c.col.data.toList) ++ le8 c.ts ++ le8 c.seq ++ [delN c.del, UInt8.ofNat c.val.size] ++ c.val.data.toList) := rfl
  clear n1 hmay
  obtain ⟨dl, hdl⟩ : ∃ dl, dl = c.del := ⟨_, rfl⟩
  rw [← hdl] at N1 HE ⊢
  obtain ⟨W, hW⟩ : ∃ W, W = w.alloc (.cells #[.string c.row, .string c.col, .int .u64 c.ts, .int .u64 c.seq, .bool dl, .string c.val] 24) := ⟨_, rfl⟩
  have hb : W.heap[w.heap.size]? = some (.cells #[.string c.row, .string c.col, .int .u64 c.ts, .int .u64 c.seq, .bool dl, .string c.val] 24 (0, 0)) := by
    rw [hW]; exact heap_alloc_at rfl _
  have hfw : Fp [] w W := by rw [hW]; exact Fp.alloc _ _
  have hcell : ∀ w', Fp [] W w' → w'.cell? ⟨w.heap.size, 0, none⟩ = some (.string c.row) ∧ w'.cell? ⟨w.heap.size, 1, none⟩ = some (.string c.col) ∧ w'.cell? ⟨w.heap.size, 2, none⟩ = some (.int .u64 c.ts) ∧ w'.cell? ⟨w.heap.size, 3, none⟩ = some (.int .u64 c.seq) ∧ w'.cell? ⟨w.heap.size, 4, none⟩ = some (.bool dl) ∧ w'.cell? ⟨w.heap.size, 5, none⟩ = some (.string c.val) ∧ w.heap.size < w'.heap.size := by
    intro w' hf
    have h1 := (hf.block _ (heap_lt hb) (by simp)).trans hb
    exact ⟨cell_of_block h1 0, cell_of_block h1 1, cell_of_block h1 2, cell_of_block h1 3, cell_of_block h1 4, cell_of_block h1 5, heap_lt h1⟩
  have HCELL := Lib.hid hcell
  have HFW := Lib.hid hfw
  have HW := Lib.hid hW
  clear hcell hfw hb hW hdl
  go_enter Tryd.func13, Tryd.ntmps13
  go_wp2_with (fail)
  rw [← HW.out]
  refine (N1.out _).mono ?_
  rintro e w1 ⟨rfl, hf1⟩
  have HF1 := Lib.hid hf1
  obtain ⟨c0, -, -, -, -, -, hlt⟩ := HCELL.out _ hf1
  have hb1 := hf1.size
  clear hf1
  have hbw1 : W.heap.size ≤ w1.heap.size := hb1
  go_wp2_with (at_builtin; refine wpList_append_str rfl _ _ rfl W.heap.size _ _ rfl (Owned.one w1 W.heap.size hbw1 (by omega)) _ rfl (by simp; omega) (by simp; omega) ?_; intro v2 w2 hown2 hbel2)
  have HF2 := Lib.hid ((HF1.out.alloc' _).belowTrans hbel2)
  have HO2 := Lib.hid hown2
  obtain ⟨-, d1, -, -, -, -, hlt2⟩ := HCELL.out _ HF2.out
  have hbw2 : W.heap.size ≤ w2.heap.size := HF2.out.size
  have hL2 : ([UInt8.ofNat c.row.size] ++ c.row.data.toList).length ≤ 41 := by
    have := Lib.size_eq c.row; simp only [List.length_append, List.length_cons, List.length_nil]; omega
  have HL2 := Lib.hid hL2
  clear c0 hown2 hbel2 hL2
  go_wp2_with (fail)
  have hwr := wrap_u8 (n := c.col.size) (by omega)
  go_region_held3 (fun w' => w'.cell? ⟨w.heap.size, 1, none⟩ = some (.string c.col))
    (first
      | go_keep
      | exact (HCELL.out _ HF3.out).2.1
      | exact (HCELL.out _ HF4.out).2.1)
    (first
      | (refine step_bytes (by rfl) _ _ (by rfl) W.heap.size _ _ (by rfl) ((HO2.out.alloc _).drew) _ _ (by rfl) (Reads.one w2 (n := c.col.size) (by omega)).drew (by have := HL2.out; simp only [List.length_cons, List.length_nil]; omega) (by simp; omega) ?_; intro v3 w3 hown3 hbel3; have HF3 := Lib.hid ((HF2.out.alloc' _).drew'.belowTrans hbel3); have HO3 := Lib.hid hown3; clear hown3 hbel3)
      | (refine step_str (by rfl) _ _ (by rfl) W.heap.size _ _ (by rfl) HO3.out _ (by rfl) (by have := HL2.out; simp only [List.length_append, List.length_cons, List.length_nil] at this ⊢; omega) HF3.out.size ?_; intro v4 w4 hown4 hbel4; have HF4 := Lib.hid (HF3.out.belowTrans hbel4); have HO4 := Lib.hid hown4; clear hown4 hbel4))
  have hL4 : (([UInt8.ofNat c.row.size] ++ c.row.data.toList) ++ [UInt8.ofNat c.col.size] ++ c.col.data.toList).length ≤ 82 := by
    have := HL2.out; have := Lib.size_eq c.col; simp only [List.length_append, List.length_cons, List.length_nil] at *; omega
  have HL4 := Lib.hid hL4
  clear hL4 hwr
  obtain ⟨-, -, c2, c3, -, -, hlt4⟩ := HCELL.out _ HF4.out
  go_wp2_with (fail)
  go_region_held3 (fun w' => w'.cell? ⟨w.heap.size, 2, none⟩ = some (.int .u64 c.ts) ∧ w'.cell? ⟨w.heap.size, 3, none⟩ = some (.int .u64 c.seq))
    (first
      | go_keep
      | exact ⟨(HCELL.out _ HF5.out).2.2.1, (HCELL.out _ HF5.out).2.2.2.1⟩
      | exact ⟨(HCELL.out _ HF6.out).2.2.1, (HCELL.out _ HF6.out).2.2.2.1⟩)
    (first
      | (go_at_call 29; (with_reducible refine (little_any _ W.heap.size _ _ c.ts (by first | exact HO4.out | exact HO4.out.drew) (by first | exact HF4.out.size | exact HF4.out.drew'.size) (by have := HL4.out; omega) (by omega)).mono ?_); rintro e w5 ⟨v5, rfl, ho5, hb5⟩; have HF5 := Lib.hid (HF4.out.drew'.belowTrans hb5); have HO5 := Lib.hid ho5; clear ho5 hb5)
      | (go_at_call 29; (with_reducible refine (little_any _ W.heap.size _ _ c.seq (by first | exact HO5.out | exact HO5.out.drew) (by first | exact HF5.out.size | exact HF5.out.drew'.size) (by have := HL4.out; rw [List.length_append, le8_length]; omega) (by omega)).mono ?_); rintro e w6 ⟨v6, rfl, ho6, hb6⟩; have HF6 := Lib.hid (HF5.out.belowTrans hb6); have HO6 := Lib.hid ho6; clear ho6 hb6))
  obtain ⟨-, -, -, -, c4, c5, hlt6⟩ := HCELL.out _ HF6.out
  have hb6 : W.heap.size ≤ w6.heap.size := HF6.out.size
  obtain ⟨a6, n6, cap6, rfl⟩ := HO6.out.slice
  cases dl
  · obtain ⟨cap, W7, hconv, hrow, hf7⟩ := bytes_brow (w6.alloc (.cells #[.int .u8 0, .int .u8 c.val.size] 5)) c.val
    have hsz : (w6.alloc (.cells #[.int .u8 0, .int .u8 c.val.size] 5)).heap.size = w6.heap.size + 1 := by simp
    rw [hsz] at hconv hrow
    clear hsz
    have ho2 : Owned (w6.alloc (.cells #[.int .u8 0, .int .u8 c.val.size] 5)) W.heap.size _ _ := Owned.two w6 W.heap.size hb6 (n := 0) (m := c.val.size) (by omega) (by omega)
    have hr1 := ((HO6.out.alloc (.cells #[.int .u8 0, .int .u8 c.val.size] 5)).fp hf7).reads
    have hr2 := (ho2.fp hf7).reads
    have hr3 := hrow.reads (cap := cap)
    rw [atB_all] at hr3
    have hcat := concat3_any W7 _ _ _ _ _ _ hr1 hr2 hr3 (by have := HL4.out; have := Lib.size_eq c.val; simp only [List.length_append, List.length_cons, List.length_nil, le8_length] at *; omega)
    have HCAT := Lib.hid hcat
    have HF7 := Lib.hid ((HF6.out.alloc' (.cells #[.int .u8 0, .int .u8 c.val.size] 5)).trans hf7 (by simp))
    clear hrow hf7 ho2 hr1 hr2 hr3 hcat
    go_wp2_with (fail)
    refine HCAT.out.mono ?_
    rintro e w8 ⟨v8, rfl, ho8, hf8⟩
    have hs := run_str_of ho8
    have HF8 := Lib.hid (HF7.out.trans hf8 (by simp))
    clear ho8 hf8 hconv
    go_wp2_with (fail)
    go_ret2
    refine ⟨?_, HFW.out.trans HF8.out (by simp)⟩
    rw [HE.out]
    simp [delN]
  · obtain ⟨cap, W7, hconv, hrow, hf7⟩ := bytes_brow (w6.alloc (.cells #[.int .u8 1, .int .u8 c.val.size] 5)) c.val
    have hsz : (w6.alloc (.cells #[.int .u8 1, .int .u8 c.val.size] 5)).heap.size = w6.heap.size + 1 := by simp
    rw [hsz] at hconv hrow
    clear hsz
    have ho2 : Owned (w6.alloc (.cells #[.int .u8 1, .int .u8 c.val.size] 5)) W.heap.size _ _ := Owned.two w6 W.heap.size hb6 (n := 1) (m := c.val.size) (by omega) (by omega)
    have hr1 := ((HO6.out.alloc (.cells #[.int .u8 1, .int .u8 c.val.size] 5)).fp hf7).reads
    have hr2 := (ho2.fp hf7).reads
    have hr3 := hrow.reads (cap := cap)
    rw [atB_all] at hr3
    have hcat := concat3_any W7 _ _ _ _ _ _ hr1 hr2 hr3 (by have := HL4.out; have := Lib.size_eq c.val; simp only [List.length_append, List.length_cons, List.length_nil, le8_length] at *; omega)
    have HCAT := Lib.hid hcat
    have HF7 := Lib.hid ((HF6.out.alloc' (.cells #[.int .u8 1, .int .u8 c.val.size] 5)).trans hf7 (by simp))
    clear hrow hf7 ho2 hr1 hr2 hr3 hcat
    go_wp2_with (fail)
    refine HCAT.out.mono ?_
    rintro e w8 ⟨v8, rfl, ho8, hf8⟩
    have hs := run_str_of ho8
    have HF8 := Lib.hid (HF7.out.trans hf8 (by simp))
    clear ho8 hf8 hconv
    go_wp2_with (fail)
    go_ret2
    refine ⟨?_, HFW.out.trans HF8.out (by simp)⟩
    rw [HE.out]
    simp [delN]
end Go.Proofs.YtlpfijkchbpdmaaDoor
