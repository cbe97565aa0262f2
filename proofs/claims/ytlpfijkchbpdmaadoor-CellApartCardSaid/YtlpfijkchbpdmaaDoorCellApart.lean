/-
  CellApart: the walk.
-/
import Derived.Test.YtlpfijkchbpdmaaDoorCellShown
import Derived.Test.YtlpfijkchbpdmaaDoorCellLaw4
import Derived.Test.YtlpfijkchbpdmaaDoorCellSame
namespace Go.Proofs.YtlpfijkchbpdmaaDoor
open Go.RowKit

set_option maxRecDepth 100000 in
set_option maxHeartbeats 4000000 in
theorem apart_walk (w : World) (a b : Cel) (oa : CelOK a) (ob : CelOK b) (hm : MaxAt w) :
    Calls Tryd.prog 7 #[cellV a, cellV b] w fun e w' => e = .returned (.bool true) ∧ Fp [] w w' := by
  have N2 := Lib.hid shown_any
  obtain ⟨W, hW⟩ : ∃ W, W = ((w.alloc (.cells #[.string a.row, .string a.col, .int .u64 a.ts, .int .u64 a.seq, .bool a.del, .string a.val] 24)).alloc (.cells #[.string b.row, .string b.col, .int .u64 b.ts, .int .u64 b.seq, .bool b.del, .string b.val] 24)) := ⟨_, rfl⟩
  have hfw : Fp [] w W := by rw [hW]; exact (Fp.alloc _ _).alloc' _
  have hb0 : W.heap[w.heap.size]? = some (.cells #[.string a.row, .string a.col, .int .u64 a.ts, .int .u64 a.seq, .bool a.del, .string a.val] 24 (0, 0)) := by
    rw [hW]
    exact heap_alloc_old (heap_alloc_at (by simp) _)
  have hb1 : W.heap[w.heap.size + 1]? = some (.cells #[.string b.row, .string b.col, .int .u64 b.ts, .int .u64 b.seq, .bool b.del, .string b.val] 24 (0, 0)) := by
    rw [hW]
    exact heap_alloc_at (by simp) _
  have hcell : ∀ w', Fp [] W w' → w'.cell? ⟨w.heap.size, 0, none⟩ = some (.string a.row) ∧ w'.cell? ⟨w.heap.size, 1, none⟩ = some (.string a.col) ∧ w'.cell? ⟨w.heap.size, 2, none⟩ = some (.int .u64 a.ts) ∧ w'.cell? ⟨w.heap.size, 3, none⟩ = some (.int .u64 a.seq) ∧ w'.cell? ⟨w.heap.size, 4, none⟩ = some (.bool a.del) ∧ w'.cell? ⟨w.heap.size, 5, none⟩ = some (.string a.val) ∧ w.heap.size < w'.heap.size ∧ w'.cell? ⟨w.heap.size + 1, 0, none⟩ = some (.string b.row) ∧ w'.cell? ⟨w.heap.size + 1, 1, none⟩ = some (.string b.col) ∧ w'.cell? ⟨w.heap.size + 1, 2, none⟩ = some (.int .u64 b.ts) ∧ w'.cell? ⟨w.heap.size + 1, 3, none⟩ = some (.int .u64 b.seq) ∧ w'.cell? ⟨w.heap.size + 1, 4, none⟩ = some (.bool b.del) ∧ w'.cell? ⟨w.heap.size + 1, 5, none⟩ = some (.string b.val) ∧ w.heap.size + 1 < w'.heap.size := by
    intro w' hf
    have h0 := (hf.block _ (heap_lt hb0) (by simp)).trans hb0
    have h1 := (hf.block _ (heap_lt hb1) (by simp)).trans hb1
    exact ⟨cell_of_block h0 0, cell_of_block h0 1, cell_of_block h0 2, cell_of_block h0 3, cell_of_block h0 4, cell_of_block h0 5, heap_lt h0, cell_of_block h1 0, cell_of_block h1 1, cell_of_block h1 2, cell_of_block h1 3, cell_of_block h1 4, cell_of_block h1 5, heap_lt h1⟩
  have HCELL := Lib.hid hcell
  have HFW := Lib.hid hfw
  have HW := Lib.hid hW
  have HMM := Lib.hid (MaxAt.fp hm hfw (by simp))
  clear hcell hfw hW hb0 hb1 hm
  have b_a := fun w => bounded_any a w oa
  have m_a := fun w => may_any a w oa
  have k_a := fun w hmay hm => key_yes a w oa hmay hm
  have e_a := fun w hmay => enc_yes a w oa hmay
  have b_b := fun w => bounded_any b w ob
  have m_b := fun w => may_any b w ob
  have k_b := fun w hmay hm => key_yes b w ob hmay hm
  have e_b := fun w hmay => enc_yes b w ob hmay
  have s_ab := fun w => same_any a b w
  have q1 := fun ha hb => enc_apart a b oa ob ha hb
  have q2 := key_apart a b oa ob
  unfold cellV at b_a b_b m_a m_b k_a k_b e_a e_b s_ab ⊢
  obtain ⟨sa, hsa⟩ : ∃ s, s = bl (keyL a) := ⟨_, rfl⟩
  have k_a : ∀ w, mayB a = true → MaxAt w → Calls Tryd.prog 18 #[.agg #[.string a.row, .string a.col, .int .u64 a.ts, .int .u64 a.seq, .bool a.del, .string a.val]] w fun e w' => e = .returned (.string sa) ∧ Fp [] w w' := by rw [hsa]; exact k_a
  obtain ⟨fa, hfa⟩ : ∃ s, s = bl (encL a) := ⟨_, rfl⟩
  have e_a : ∀ w, mayB a = true → Calls Tryd.prog 13 #[.agg #[.string a.row, .string a.col, .int .u64 a.ts, .int .u64 a.seq, .bool a.del, .string a.val]] w fun e w' => e = .returned (.tuple #[.string fa, .int .i64 0]) ∧ Fp [] w w' := by rw [hfa]; exact e_a
  obtain ⟨sb, hsb⟩ : ∃ s, s = bl (keyL b) := ⟨_, rfl⟩
  have k_b : ∀ w, mayB b = true → MaxAt w → Calls Tryd.prog 18 #[.agg #[.string b.row, .string b.col, .int .u64 b.ts, .int .u64 b.seq, .bool b.del, .string b.val]] w fun e w' => e = .returned (.string sb) ∧ Fp [] w w' := by rw [hsb]; exact k_b
  obtain ⟨fb, hfb⟩ : ∃ s, s = bl (encL b) := ⟨_, rfl⟩
  have e_b : ∀ w, mayB b = true → Calls Tryd.prog 13 #[.agg #[.string b.row, .string b.col, .int .u64 b.ts, .int .u64 b.seq, .bool b.del, .string b.val]] w fun e w' => e = .returned (.tuple #[.string fb, .int .i64 0]) ∧ Fp [] w w' := by rw [hfb]; exact e_b
  rw [← hsa, ← hsb] at q2
  rw [← hfa, ← hfb] at q1
  clear hsa hsb hfa hfb
  cases hy1 : bdB a
  · rw [hy1] at b_a
    clear hy1
    have Ba := Lib.hid b_a
    have Ma := Lib.hid m_a
    have Bb := Lib.hid b_b
    have Mb := Lib.hid m_b
    have SAB := Lib.hid s_ab
    clear b_a b_b m_a m_b k_a k_b e_a e_b s_ab
    clear q1 q2
    go_enter Tryd.func7, Tryd.ntmps7
    go_wp2_with (fail)
    rw [← HW.out]
    have HF := Lib.hid (Fp.refl [] W)
    obtain ⟨k00, k01, k02, k03, k04, k05, k06, k10, k11, k12, k13, k14, k15, k16⟩ := HCELL.out _ HF.out
    go_wp2_with (first
        | (go_at_call 11; (with_reducible refine (Ba.out _).mono ?_); rintro e w1 ⟨rfl, hf⟩; have HF := Lib.hid (HF.out.trans hf (by simp)); clear hf k00 k01 k02 k03 k04 k05 k06 k10 k11 k12 k13 k14 k15 k16; obtain ⟨k00, k01, k02, k03, k04, k05, k06, k10, k11, k12, k13, k14, k15, k16⟩ := HCELL.out _ HF.out)
        | (go_at_call 11; (with_reducible refine (Bb.out _).mono ?_); rintro e w1 ⟨rfl, hf⟩; have HF := Lib.hid (HF.out.trans hf (by simp)); clear hf k00 k01 k02 k03 k04 k05 k06 k10 k11 k12 k13 k14 k15 k16; obtain ⟨k00, k01, k02, k03, k04, k05, k06, k10, k11, k12, k13, k14, k15, k16⟩ := HCELL.out _ HF.out)
        | (go_at_call 17; (with_reducible refine (Ma.out _).mono ?_); rintro e w1 ⟨rfl, hf⟩; have HF := Lib.hid (HF.out.trans hf (by simp)); clear hf k00 k01 k02 k03 k04 k05 k06 k10 k11 k12 k13 k14 k15 k16; obtain ⟨k00, k01, k02, k03, k04, k05, k06, k10, k11, k12, k13, k14, k15, k16⟩ := HCELL.out _ HF.out)
        | (go_at_call 17; (with_reducible refine (Mb.out _).mono ?_); rintro e w1 ⟨rfl, hf⟩; have HF := Lib.hid (HF.out.trans hf (by simp)); clear hf k00 k01 k02 k03 k04 k05 k06 k10 k11 k12 k13 k14 k15 k16; obtain ⟨k00, k01, k02, k03, k04, k05, k06, k10, k11, k12, k13, k14, k15, k16⟩ := HCELL.out _ HF.out)
        | (go_at_call 12; (with_reducible refine (N2.out _ (HMM.out.fp HF.out (by simp))).mono ?_); rintro e w1 ⟨rfl, hf⟩; have HF := Lib.hid (HF.out.trans hf (by simp)); clear hf k00 k01 k02 k03 k04 k05 k06 k10 k11 k12 k13 k14 k15 k16; obtain ⟨k00, k01, k02, k03, k04, k05, k06, k10, k11, k12, k13, k14, k15, k16⟩ := HCELL.out _ HF.out))
    go_ret
    exact ⟨rfl, HFW.out.trans HF.out (by simp)⟩
  rw [hy1] at b_a
  clear hy1
  cases hy2 : bdB b
  · rw [hy2] at b_b
    clear hy2
    have Ba := Lib.hid b_a
    have Ma := Lib.hid m_a
    have Bb := Lib.hid b_b
    have Mb := Lib.hid m_b
    have SAB := Lib.hid s_ab
    clear b_a b_b m_a m_b k_a k_b e_a e_b s_ab
    clear q1 q2
    go_enter Tryd.func7, Tryd.ntmps7
    go_wp2_with (fail)
    rw [← HW.out]
    have HF := Lib.hid (Fp.refl [] W)
    obtain ⟨k00, k01, k02, k03, k04, k05, k06, k10, k11, k12, k13, k14, k15, k16⟩ := HCELL.out _ HF.out
    go_wp2_with (first
        | (go_at_call 11; (with_reducible refine (Ba.out _).mono ?_); rintro e w1 ⟨rfl, hf⟩; have HF := Lib.hid (HF.out.trans hf (by simp)); clear hf k00 k01 k02 k03 k04 k05 k06 k10 k11 k12 k13 k14 k15 k16; obtain ⟨k00, k01, k02, k03, k04, k05, k06, k10, k11, k12, k13, k14, k15, k16⟩ := HCELL.out _ HF.out)
        | (go_at_call 11; (with_reducible refine (Bb.out _).mono ?_); rintro e w1 ⟨rfl, hf⟩; have HF := Lib.hid (HF.out.trans hf (by simp)); clear hf k00 k01 k02 k03 k04 k05 k06 k10 k11 k12 k13 k14 k15 k16; obtain ⟨k00, k01, k02, k03, k04, k05, k06, k10, k11, k12, k13, k14, k15, k16⟩ := HCELL.out _ HF.out)
        | (go_at_call 17; (with_reducible refine (Ma.out _).mono ?_); rintro e w1 ⟨rfl, hf⟩; have HF := Lib.hid (HF.out.trans hf (by simp)); clear hf k00 k01 k02 k03 k04 k05 k06 k10 k11 k12 k13 k14 k15 k16; obtain ⟨k00, k01, k02, k03, k04, k05, k06, k10, k11, k12, k13, k14, k15, k16⟩ := HCELL.out _ HF.out)
        | (go_at_call 17; (with_reducible refine (Mb.out _).mono ?_); rintro e w1 ⟨rfl, hf⟩; have HF := Lib.hid (HF.out.trans hf (by simp)); clear hf k00 k01 k02 k03 k04 k05 k06 k10 k11 k12 k13 k14 k15 k16; obtain ⟨k00, k01, k02, k03, k04, k05, k06, k10, k11, k12, k13, k14, k15, k16⟩ := HCELL.out _ HF.out)
        | (go_at_call 12; (with_reducible refine (N2.out _ (HMM.out.fp HF.out (by simp))).mono ?_); rintro e w1 ⟨rfl, hf⟩; have HF := Lib.hid (HF.out.trans hf (by simp)); clear hf k00 k01 k02 k03 k04 k05 k06 k10 k11 k12 k13 k14 k15 k16; obtain ⟨k00, k01, k02, k03, k04, k05, k06, k10, k11, k12, k13, k14, k15, k16⟩ := HCELL.out _ HF.out))
    go_ret
    exact ⟨rfl, HFW.out.trans HF.out (by simp)⟩
  rw [hy2] at b_b
  clear hy2
  cases hy3 : mayB a
  · rw [hy3] at m_a
    clear hy3
    have Ba := Lib.hid b_a
    have Ma := Lib.hid m_a
    have Bb := Lib.hid b_b
    have Mb := Lib.hid m_b
    have SAB := Lib.hid s_ab
    clear b_a b_b m_a m_b k_a k_b e_a e_b s_ab
    clear q1 q2
    go_enter Tryd.func7, Tryd.ntmps7
    go_wp2_with (fail)
    rw [← HW.out]
    have HF := Lib.hid (Fp.refl [] W)
    obtain ⟨k00, k01, k02, k03, k04, k05, k06, k10, k11, k12, k13, k14, k15, k16⟩ := HCELL.out _ HF.out
    go_wp2_with (first
        | (go_at_call 11; (with_reducible refine (Ba.out _).mono ?_); rintro e w1 ⟨rfl, hf⟩; have HF := Lib.hid (HF.out.trans hf (by simp)); clear hf k00 k01 k02 k03 k04 k05 k06 k10 k11 k12 k13 k14 k15 k16; obtain ⟨k00, k01, k02, k03, k04, k05, k06, k10, k11, k12, k13, k14, k15, k16⟩ := HCELL.out _ HF.out)
        | (go_at_call 11; (with_reducible refine (Bb.out _).mono ?_); rintro e w1 ⟨rfl, hf⟩; have HF := Lib.hid (HF.out.trans hf (by simp)); clear hf k00 k01 k02 k03 k04 k05 k06 k10 k11 k12 k13 k14 k15 k16; obtain ⟨k00, k01, k02, k03, k04, k05, k06, k10, k11, k12, k13, k14, k15, k16⟩ := HCELL.out _ HF.out)
        | (go_at_call 17; (with_reducible refine (Ma.out _).mono ?_); rintro e w1 ⟨rfl, hf⟩; have HF := Lib.hid (HF.out.trans hf (by simp)); clear hf k00 k01 k02 k03 k04 k05 k06 k10 k11 k12 k13 k14 k15 k16; obtain ⟨k00, k01, k02, k03, k04, k05, k06, k10, k11, k12, k13, k14, k15, k16⟩ := HCELL.out _ HF.out)
        | (go_at_call 17; (with_reducible refine (Mb.out _).mono ?_); rintro e w1 ⟨rfl, hf⟩; have HF := Lib.hid (HF.out.trans hf (by simp)); clear hf k00 k01 k02 k03 k04 k05 k06 k10 k11 k12 k13 k14 k15 k16; obtain ⟨k00, k01, k02, k03, k04, k05, k06, k10, k11, k12, k13, k14, k15, k16⟩ := HCELL.out _ HF.out)
        | (go_at_call 12; (with_reducible refine (N2.out _ (HMM.out.fp HF.out (by simp))).mono ?_); rintro e w1 ⟨rfl, hf⟩; have HF := Lib.hid (HF.out.trans hf (by simp)); clear hf k00 k01 k02 k03 k04 k05 k06 k10 k11 k12 k13 k14 k15 k16; obtain ⟨k00, k01, k02, k03, k04, k05, k06, k10, k11, k12, k13, k14, k15, k16⟩ := HCELL.out _ HF.out))
    go_ret
    exact ⟨rfl, HFW.out.trans HF.out (by simp)⟩
  rw [hy3] at m_a
  have Ka := Lib.hid (fun w hm => k_a w hy3 hm)
  have Ea := Lib.hid (fun w => e_a w hy3)
  cases hy4 : mayB b
  · rw [hy4] at m_b
    clear hy4
    have Ba := Lib.hid b_a
    have Ma := Lib.hid m_a
    have Bb := Lib.hid b_b
    have Mb := Lib.hid m_b
    have SAB := Lib.hid s_ab
    clear b_a b_b m_a m_b k_a k_b e_a e_b s_ab
    clear q1 q2
    go_enter Tryd.func7, Tryd.ntmps7
    go_wp2_with (fail)
    rw [← HW.out]
    have HF := Lib.hid (Fp.refl [] W)
    obtain ⟨k00, k01, k02, k03, k04, k05, k06, k10, k11, k12, k13, k14, k15, k16⟩ := HCELL.out _ HF.out
    go_wp2_with (first
        | (go_at_call 11; (with_reducible refine (Ba.out _).mono ?_); rintro e w1 ⟨rfl, hf⟩; have HF := Lib.hid (HF.out.trans hf (by simp)); clear hf k00 k01 k02 k03 k04 k05 k06 k10 k11 k12 k13 k14 k15 k16; obtain ⟨k00, k01, k02, k03, k04, k05, k06, k10, k11, k12, k13, k14, k15, k16⟩ := HCELL.out _ HF.out)
        | (go_at_call 11; (with_reducible refine (Bb.out _).mono ?_); rintro e w1 ⟨rfl, hf⟩; have HF := Lib.hid (HF.out.trans hf (by simp)); clear hf k00 k01 k02 k03 k04 k05 k06 k10 k11 k12 k13 k14 k15 k16; obtain ⟨k00, k01, k02, k03, k04, k05, k06, k10, k11, k12, k13, k14, k15, k16⟩ := HCELL.out _ HF.out)
        | (go_at_call 17; (with_reducible refine (Ma.out _).mono ?_); rintro e w1 ⟨rfl, hf⟩; have HF := Lib.hid (HF.out.trans hf (by simp)); clear hf k00 k01 k02 k03 k04 k05 k06 k10 k11 k12 k13 k14 k15 k16; obtain ⟨k00, k01, k02, k03, k04, k05, k06, k10, k11, k12, k13, k14, k15, k16⟩ := HCELL.out _ HF.out)
        | (go_at_call 17; (with_reducible refine (Mb.out _).mono ?_); rintro e w1 ⟨rfl, hf⟩; have HF := Lib.hid (HF.out.trans hf (by simp)); clear hf k00 k01 k02 k03 k04 k05 k06 k10 k11 k12 k13 k14 k15 k16; obtain ⟨k00, k01, k02, k03, k04, k05, k06, k10, k11, k12, k13, k14, k15, k16⟩ := HCELL.out _ HF.out)
        | (go_at_call 12; (with_reducible refine (N2.out _ (HMM.out.fp HF.out (by simp))).mono ?_); rintro e w1 ⟨rfl, hf⟩; have HF := Lib.hid (HF.out.trans hf (by simp)); clear hf k00 k01 k02 k03 k04 k05 k06 k10 k11 k12 k13 k14 k15 k16; obtain ⟨k00, k01, k02, k03, k04, k05, k06, k10, k11, k12, k13, k14, k15, k16⟩ := HCELL.out _ HF.out))
    go_ret
    exact ⟨rfl, HFW.out.trans HF.out (by simp)⟩
  rw [hy4] at m_b
  have Kb := Lib.hid (fun w hm => k_b w hy4 hm)
  have Eb := Lib.hid (fun w => e_b w hy4)
  have q3 := q1 hy3 hy4
  clear q1 hy3 hy4
  cases hs : sameC a b
  · have q4 : (sa.toList == sb.toList) = false := by rw [q2, hs]; rfl
    rw [hs] at s_ab
    clear q2 hs
    have Ba := Lib.hid b_a
    have Ma := Lib.hid m_a
    have Bb := Lib.hid b_b
    have Mb := Lib.hid m_b
    have SAB := Lib.hid s_ab
    clear b_a b_b m_a m_b k_a k_b e_a e_b s_ab
    go_enter Tryd.func7, Tryd.ntmps7
    go_wp2_with (fail)
    rw [← HW.out]
    have HF := Lib.hid (Fp.refl [] W)
    obtain ⟨k00, k01, k02, k03, k04, k05, k06, k10, k11, k12, k13, k14, k15, k16⟩ := HCELL.out _ HF.out
    go_wp2_with (first
        | (go_at_call 11; (with_reducible refine (Ba.out _).mono ?_); rintro e w1 ⟨rfl, hf⟩; have HF := Lib.hid (HF.out.trans hf (by simp)); clear hf k00 k01 k02 k03 k04 k05 k06 k10 k11 k12 k13 k14 k15 k16; obtain ⟨k00, k01, k02, k03, k04, k05, k06, k10, k11, k12, k13, k14, k15, k16⟩ := HCELL.out _ HF.out)
        | (go_at_call 11; (with_reducible refine (Bb.out _).mono ?_); rintro e w1 ⟨rfl, hf⟩; have HF := Lib.hid (HF.out.trans hf (by simp)); clear hf k00 k01 k02 k03 k04 k05 k06 k10 k11 k12 k13 k14 k15 k16; obtain ⟨k00, k01, k02, k03, k04, k05, k06, k10, k11, k12, k13, k14, k15, k16⟩ := HCELL.out _ HF.out)
        | (go_at_call 17; (with_reducible refine (Ma.out _).mono ?_); rintro e w1 ⟨rfl, hf⟩; have HF := Lib.hid (HF.out.trans hf (by simp)); clear hf k00 k01 k02 k03 k04 k05 k06 k10 k11 k12 k13 k14 k15 k16; obtain ⟨k00, k01, k02, k03, k04, k05, k06, k10, k11, k12, k13, k14, k15, k16⟩ := HCELL.out _ HF.out)
        | (go_at_call 17; (with_reducible refine (Mb.out _).mono ?_); rintro e w1 ⟨rfl, hf⟩; have HF := Lib.hid (HF.out.trans hf (by simp)); clear hf k00 k01 k02 k03 k04 k05 k06 k10 k11 k12 k13 k14 k15 k16; obtain ⟨k00, k01, k02, k03, k04, k05, k06, k10, k11, k12, k13, k14, k15, k16⟩ := HCELL.out _ HF.out)
        | (go_at_call 12; (with_reducible refine (N2.out _ (HMM.out.fp HF.out (by simp))).mono ?_); rintro e w1 ⟨rfl, hf⟩; have HF := Lib.hid (HF.out.trans hf (by simp)); clear hf k00 k01 k02 k03 k04 k05 k06 k10 k11 k12 k13 k14 k15 k16; obtain ⟨k00, k01, k02, k03, k04, k05, k06, k10, k11, k12, k13, k14, k15, k16⟩ := HCELL.out _ HF.out)
        | (go_at_call 13; (with_reducible refine (Ea.out _).mono ?_); rintro e w1 ⟨rfl, hf⟩; have HF := Lib.hid (HF.out.trans hf (by simp)); clear hf k00 k01 k02 k03 k04 k05 k06 k10 k11 k12 k13 k14 k15 k16; obtain ⟨k00, k01, k02, k03, k04, k05, k06, k10, k11, k12, k13, k14, k15, k16⟩ := HCELL.out _ HF.out)
        | (go_at_call 13; (with_reducible refine (Eb.out _).mono ?_); rintro e w1 ⟨rfl, hf⟩; have HF := Lib.hid (HF.out.trans hf (by simp)); clear hf k00 k01 k02 k03 k04 k05 k06 k10 k11 k12 k13 k14 k15 k16; obtain ⟨k00, k01, k02, k03, k04, k05, k06, k10, k11, k12, k13, k14, k15, k16⟩ := HCELL.out _ HF.out))
    refine wp_region_calm (by kernel_rfl) (by kernel_rfl) ?_
    -- 0
    apply ex_plain rfl rfl rfl
    · intro a w hC hA K hK
      have h6 := hA.free 6 _ (by kernel_rfl) rfl
      simp only [Oper.wp, execOp]; go_simp
      exact hK _ hC (Fp.refl _ _)
    -- 1
    apply ex_plain rfl rfl rfl
    · intro a w hC hA K hK
      have h42 : a.tmps[42]?.getD undef = _ := hA.dep 0 42 _ (by kernel_rfl) rfl
      simp only [Oper.wp, execOp]; go_simp
      exact hK _ hC (Fp.refl _ _)
    -- 2
    apply ex_plain rfl rfl rfl
    · intro a w hC hA K hK
      have h43 : a.tmps[43]?.getD undef = _ := hA.dep 1 43 _ (by kernel_rfl) rfl
      simp only [Oper.wp, execOp]; go_simp
      exact hK _ hC (Fp.refl _ _)
    -- 3
    apply ex_yes 2 44 rfl rfl rfl rfl (by kernel_rfl) rfl rfl
    · intro a w hC hA K hK
      have h8 := hA.free 8 _ (by kernel_rfl) rfl
      simp only [Oper.wp, execOp]; go_simp
      exact hK _ hC (Fp.refl _ _)
    -- 4
    apply ex_yes 2 44 rfl rfl rfl rfl (by kernel_rfl) rfl rfl
    · intro a w hC hA K hK
      have h45 : a.tmps[45]?.getD undef = _ := hA.dep 3 45 _ (by kernel_rfl) rfl
      simp only [Oper.wp, execOp]; go_simp
      exact hK _ hC (Fp.refl _ _)
    -- 5
    apply ex_plain rfl rfl rfl
    · intro a w hC hA K hK
      have h44 : a.tmps[44]?.getD undef = _ := hA.dep 2 44 _ (by kernel_rfl) rfl
      have h46 : a.tmps[46]?.getD undef = _ := hA.dep 4 46 _ (by kernel_rfl) rfl
      simp only [Oper.wp, execOp]; go_simp
      exact hK _ hC (Fp.refl _ _)
    -- 6
    apply ex_plain rfl rfl rfl
    · intro a w hC hA K hK
      have h47 : a.tmps[47]?.getD undef = _ := hA.dep 5 47 _ (by kernel_rfl) rfl
      simp only [Oper.wp, execOp]; go_simp
      exact hK _ hC (Fp.refl _ _)
    -- 7
    apply ex_yes 6 48 rfl rfl rfl rfl (by kernel_rfl) rfl rfl
    · intro a w hC hA K hK
      have h5 := hA.free 5 _ (by kernel_rfl) rfl
      simp only [Oper.wp, execOp]; go_simp
      exact hK _ hC (Fp.refl _ _)
    -- 8
    apply ex_yes 6 48 rfl rfl rfl rfl (by kernel_rfl) rfl rfl
    · intro a w hC hA K hK
      have h7 := hA.free 7 _ (by kernel_rfl) rfl
      simp only [Oper.wp, execOp]; go_simp
      exact hK _ hC (Fp.refl _ _)
    -- 9
    apply ex_yes 6 48 rfl rfl rfl rfl (by kernel_rfl) rfl rfl
    · intro a w hC hA K hK
      have h49 : a.tmps[49]?.getD undef = _ := hA.dep 7 49 _ (by kernel_rfl) rfl
      have h50 : a.tmps[50]?.getD undef = _ := hA.dep 8 50 _ (by kernel_rfl) rfl
      simp only [Oper.wp, execOp]; go_simp
      exact hK _ hC (Fp.refl _ _)
    -- 10
    apply ex_yes 6 48 rfl rfl rfl rfl (by kernel_rfl) rfl rfl
    · intro a w hC hA K hK
      have h2 := hA.free 2 _ (by kernel_rfl) rfl
      obtain ⟨k00, k01, k02, k03, k04, k05, k06, k10, k11, k12, k13, k14, k15, k16⟩ := HCELL.out _ (HF.out.trans hC (by simp))
      simp only [Oper.wp, execOp]; go_simp
      exact hK _ hC (Fp.refl _ _)
    -- 11
    apply ex_yes 6 48 rfl rfl rfl rfl (by kernel_rfl) rfl rfl
    · intro a w hC hA K hK
      have h3 := hA.free 3 _ (by kernel_rfl) rfl
      obtain ⟨k00, k01, k02, k03, k04, k05, k06, k10, k11, k12, k13, k14, k15, k16⟩ := HCELL.out _ (HF.out.trans hC (by simp))
      simp only [Oper.wp, execOp]; go_simp
      exact hK _ hC (Fp.refl _ _)
    -- 12
    apply ex_yes 6 48 rfl rfl rfl rfl (by kernel_rfl) rfl rfl
    · intro a w hC hA K hK
      have h52 : a.tmps[52]?.getD undef = _ := hA.dep 10 52 _ (by kernel_rfl) rfl
      have h53 : a.tmps[53]?.getD undef = _ := hA.dep 11 53 _ (by kernel_rfl) rfl
      simp only [Oper.wp, execOp]
      go_simp
      rw [eqC_ifs]
      exact hK _ hC (Fp.refl _ _)
    -- 13
    apply ex_yes 6 48 rfl rfl rfl rfl (by kernel_rfl) rfl rfl
    · intro a w hC hA K hK
      have h51 : a.tmps[51]?.getD undef = _ := hA.dep 9 51 _ (by kernel_rfl) rfl
      have h54 : a.tmps[54]?.getD undef = _ := hA.dep 12 54 _ (by kernel_rfl) rfl
      simp only [Oper.wp, execOp]; go_simp
      exact hK _ hC (Fp.refl _ _)
    -- 14
    apply ex_plain rfl rfl rfl
    · intro a w hC hA K hK
      have h48 : a.tmps[48]?.getD undef = _ := hA.dep 6 48 _ (by kernel_rfl) rfl
      have h55 : a.tmps[55]?.getD undef = _ := hA.dep 13 55 _ (by kernel_rfl) rfl
      simp only [Oper.wp, execOp]; go_simp
      exact hK _ hC (Fp.refl _ _)
    -- 15
    apply ex_plain rfl rfl rfl
    · intro a w hC hA K hK
      have h56 : a.tmps[56]?.getD undef = _ := hA.dep 14 56 _ (by kernel_rfl) rfl
      simp only [Oper.wp, execOp]; go_simp
      exact hK _ hC (Fp.refl _ _)
    -- 16
    apply ex_yes 15 57 rfl rfl rfl rfl (by kernel_rfl) rfl rfl
    · intro a w hC hA K hK
      have h2 := hA.free 2 _ (by kernel_rfl) rfl
      obtain ⟨k00, k01, k02, k03, k04, k05, k06, k10, k11, k12, k13, k14, k15, k16⟩ := HCELL.out _ (HF.out.trans hC (by simp))
      simp only [Oper.wp, execOp]; go_simp
      exact hK _ hC (Fp.refl _ _)
    -- 17
    apply ex_yes 15 57 rfl rfl rfl rfl (by kernel_rfl) rfl rfl
    · intro a w hC hA K hK
      have h58 : a.tmps[58]?.getD undef = _ := hA.dep 16 58 _ (by kernel_rfl) rfl
      simp only [Oper.wp, execOp]; go_simp
      have hmx := HMM.out.fp (HF.out.trans hC (by simp)) (by simp)
      first
        | ((with_reducible refine (Ka.out _ hmx).mono ?_); rintro e w2 ⟨rfl, hf⟩; exact hK _ (hC.trans hf (by simp)) hf)
        | ((with_reducible refine (Kb.out _ hmx).mono ?_); rintro e w2 ⟨rfl, hf⟩; exact hK _ (hC.trans hf (by simp)) hf)
        | ((with_reducible refine (SAB.out _).mono ?_); rintro e w2 ⟨rfl, hf⟩; exact hK _ (hC.trans hf (by simp)) hf)
    -- 18
    apply ex_yes 15 57 rfl rfl rfl rfl (by kernel_rfl) rfl rfl
    · intro a w hC hA K hK
      have h3 := hA.free 3 _ (by kernel_rfl) rfl
      obtain ⟨k00, k01, k02, k03, k04, k05, k06, k10, k11, k12, k13, k14, k15, k16⟩ := HCELL.out _ (HF.out.trans hC (by simp))
      simp only [Oper.wp, execOp]; go_simp
      exact hK _ hC (Fp.refl _ _)
    -- 19
    apply ex_yes 15 57 rfl rfl rfl rfl (by kernel_rfl) rfl rfl
    · intro a w hC hA K hK
      have h60 : a.tmps[60]?.getD undef = _ := hA.dep 18 60 _ (by kernel_rfl) rfl
      simp only [Oper.wp, execOp]; go_simp
      have hmx := HMM.out.fp (HF.out.trans hC (by simp)) (by simp)
      first
        | ((with_reducible refine (Ka.out _ hmx).mono ?_); rintro e w2 ⟨rfl, hf⟩; exact hK _ (hC.trans hf (by simp)) hf)
        | ((with_reducible refine (Kb.out _ hmx).mono ?_); rintro e w2 ⟨rfl, hf⟩; exact hK _ (hC.trans hf (by simp)) hf)
        | ((with_reducible refine (SAB.out _).mono ?_); rintro e w2 ⟨rfl, hf⟩; exact hK _ (hC.trans hf (by simp)) hf)
    -- 20
    apply ex_yes 15 57 rfl rfl rfl rfl (by kernel_rfl) rfl rfl
    · intro a w hC hA K hK
      have h59 : a.tmps[59]?.getD undef = _ := hA.dep 17 59 _ (by kernel_rfl) rfl
      have h61 : a.tmps[61]?.getD undef = _ := hA.dep 19 61 _ (by kernel_rfl) rfl
      simp only [Oper.wp, execOp]; go_simp
      exact hK _ hC (Fp.refl _ _)
    -- 21
    apply ex_yes 15 57 rfl rfl rfl rfl (by kernel_rfl) rfl rfl
    · intro a w hC hA K hK
      have h2 := hA.free 2 _ (by kernel_rfl) rfl
      obtain ⟨k00, k01, k02, k03, k04, k05, k06, k10, k11, k12, k13, k14, k15, k16⟩ := HCELL.out _ (HF.out.trans hC (by simp))
      simp only [Oper.wp, execOp]; go_simp
      exact hK _ hC (Fp.refl _ _)
    -- 22
    apply ex_yes 15 57 rfl rfl rfl rfl (by kernel_rfl) rfl rfl
    · intro a w hC hA K hK
      have h3 := hA.free 3 _ (by kernel_rfl) rfl
      obtain ⟨k00, k01, k02, k03, k04, k05, k06, k10, k11, k12, k13, k14, k15, k16⟩ := HCELL.out _ (HF.out.trans hC (by simp))
      simp only [Oper.wp, execOp]; go_simp
      exact hK _ hC (Fp.refl _ _)
    -- 23
    apply ex_yes 15 57 rfl rfl rfl rfl (by kernel_rfl) rfl rfl
    · intro a w hC hA K hK
      have h63 : a.tmps[63]?.getD undef = _ := hA.dep 21 63 _ (by kernel_rfl) rfl
      have h64 : a.tmps[64]?.getD undef = _ := hA.dep 22 64 _ (by kernel_rfl) rfl
      simp only [Oper.wp, execOp]; go_simp
      have hmx := HMM.out.fp (HF.out.trans hC (by simp)) (by simp)
      first
        | ((with_reducible refine (Ka.out _ hmx).mono ?_); rintro e w2 ⟨rfl, hf⟩; exact hK _ (hC.trans hf (by simp)) hf)
        | ((with_reducible refine (Kb.out _ hmx).mono ?_); rintro e w2 ⟨rfl, hf⟩; exact hK _ (hC.trans hf (by simp)) hf)
        | ((with_reducible refine (SAB.out _).mono ?_); rintro e w2 ⟨rfl, hf⟩; exact hK _ (hC.trans hf (by simp)) hf)
    -- 24
    apply ex_yes 15 57 rfl rfl rfl rfl (by kernel_rfl) rfl rfl
    · intro a w hC hA K hK
      have h65 : a.tmps[65]?.getD undef = _ := hA.dep 23 65 _ (by kernel_rfl) rfl
      simp only [Oper.wp, execOp]; go_simp
      exact hK _ hC (Fp.refl _ _)
    -- 25
    apply ex_no 24 66 rfl rfl rfl rfl (by kernel_rfl) rfl rfl
    -- 26
    apply ex_no 24 66 rfl rfl rfl rfl (by kernel_rfl) rfl rfl
    -- 27
    apply ex_no 24 66 rfl rfl rfl rfl (by kernel_rfl) rfl rfl
    -- 28
    apply ex_no 24 66 rfl rfl rfl rfl (by kernel_rfl) rfl rfl
    -- 29
    apply ex_no 24 66 rfl rfl rfl rfl (by kernel_rfl) rfl rfl
    -- 30
    apply ex_yes 15 57 rfl rfl rfl rfl (by kernel_rfl) rfl rfl
    · intro a w hC hA K hK
      have h66 : a.tmps[66]?.getD undef = _ := hA.dep 24 66 _ (by kernel_rfl) rfl
      have h71 : a.tmps[71]?.getD undef = _ := hA.dep 29 71 _ (by kernel_rfl) rfl
      simp only [Oper.wp, execOp]; go_simp
      exact hK _ hC (Fp.refl _ _)
    -- 31
    apply ex_yes 15 57 rfl rfl rfl rfl (by kernel_rfl) rfl rfl
    · intro a w hC hA K hK
      have h62 : a.tmps[62]?.getD undef = _ := hA.dep 20 62 _ (by kernel_rfl) rfl
      have h72 : a.tmps[72]?.getD undef = _ := hA.dep 30 72 _ (by kernel_rfl) rfl
      simp only [Oper.wp, execOp]; go_simp
      exact hK _ hC (Fp.refl _ _)
    -- 32
    apply ex_plain rfl rfl rfl
    · intro a w hC hA K hK
      have h57 : a.tmps[57]?.getD undef = _ := hA.dep 15 57 _ (by kernel_rfl) rfl
      have h73 : a.tmps[73]?.getD undef = _ := hA.dep 31 73 _ (by kernel_rfl) rfl
      simp only [Oper.wp, execOp]; go_simp
      exact hK _ hC (Fp.refl _ _)
    -- 33
    apply ex_plain rfl rfl rfl
    · intro a w hC hA K hK
      have h74 : a.tmps[74]?.getD undef = _ := hA.dep 32 74 _ (by kernel_rfl) rfl
      simp only [Oper.wp, execOp]; go_simp
      exact hK _ hC (Fp.refl _ _)
    refine ⟨?_, ?_⟩
    · repeat (first | exact trivial | refine stab_val _ ?_)
    · intro w' hC
      simp only [List.reverse_cons, List.reverse_nil, List.nil_append, List.cons_append]
      repeat (refine all_val ?_)
      refine all_nil ?_
      simp only [putAll, Act.put, List.setIfInBounds_toArray, List.set_cons_succ, List.set_cons_zero]
      have HF := Lib.hid (HF.out.trans hC (by simp))
      clear hC k00 k01 k02 k03 k04 k05 k06 k10 k11 k12 k13 k14 k15 k16
      obtain ⟨k00, k01, k02, k03, k04, k05, k06, k10, k11, k12, k13, k14, k15, k16⟩ := HCELL.out _ HF.out
      go_wp2_with (fail)
      go_ret
      exact ⟨rfl, HFW.out.trans HF.out (by simp)⟩
  · have q4 : (sa.toList == sb.toList) = ((a.seq : Int) == (b.seq : Int)) := by rw [q2, hs]; rfl
    rw [hs] at s_ab
    clear q2 hs
    have Ba := Lib.hid b_a
    have Ma := Lib.hid m_a
    have Bb := Lib.hid b_b
    have Mb := Lib.hid m_b
    have SAB := Lib.hid s_ab
    clear b_a b_b m_a m_b k_a k_b e_a e_b s_ab
    go_enter Tryd.func7, Tryd.ntmps7
    go_wp2_with (fail)
    rw [← HW.out]
    have HF := Lib.hid (Fp.refl [] W)
    obtain ⟨k00, k01, k02, k03, k04, k05, k06, k10, k11, k12, k13, k14, k15, k16⟩ := HCELL.out _ HF.out
    go_wp2_with (first
        | (go_at_call 11; (with_reducible refine (Ba.out _).mono ?_); rintro e w1 ⟨rfl, hf⟩; have HF := Lib.hid (HF.out.trans hf (by simp)); clear hf k00 k01 k02 k03 k04 k05 k06 k10 k11 k12 k13 k14 k15 k16; obtain ⟨k00, k01, k02, k03, k04, k05, k06, k10, k11, k12, k13, k14, k15, k16⟩ := HCELL.out _ HF.out)
        | (go_at_call 11; (with_reducible refine (Bb.out _).mono ?_); rintro e w1 ⟨rfl, hf⟩; have HF := Lib.hid (HF.out.trans hf (by simp)); clear hf k00 k01 k02 k03 k04 k05 k06 k10 k11 k12 k13 k14 k15 k16; obtain ⟨k00, k01, k02, k03, k04, k05, k06, k10, k11, k12, k13, k14, k15, k16⟩ := HCELL.out _ HF.out)
        | (go_at_call 17; (with_reducible refine (Ma.out _).mono ?_); rintro e w1 ⟨rfl, hf⟩; have HF := Lib.hid (HF.out.trans hf (by simp)); clear hf k00 k01 k02 k03 k04 k05 k06 k10 k11 k12 k13 k14 k15 k16; obtain ⟨k00, k01, k02, k03, k04, k05, k06, k10, k11, k12, k13, k14, k15, k16⟩ := HCELL.out _ HF.out)
        | (go_at_call 17; (with_reducible refine (Mb.out _).mono ?_); rintro e w1 ⟨rfl, hf⟩; have HF := Lib.hid (HF.out.trans hf (by simp)); clear hf k00 k01 k02 k03 k04 k05 k06 k10 k11 k12 k13 k14 k15 k16; obtain ⟨k00, k01, k02, k03, k04, k05, k06, k10, k11, k12, k13, k14, k15, k16⟩ := HCELL.out _ HF.out)
        | (go_at_call 12; (with_reducible refine (N2.out _ (HMM.out.fp HF.out (by simp))).mono ?_); rintro e w1 ⟨rfl, hf⟩; have HF := Lib.hid (HF.out.trans hf (by simp)); clear hf k00 k01 k02 k03 k04 k05 k06 k10 k11 k12 k13 k14 k15 k16; obtain ⟨k00, k01, k02, k03, k04, k05, k06, k10, k11, k12, k13, k14, k15, k16⟩ := HCELL.out _ HF.out)
        | (go_at_call 13; (with_reducible refine (Ea.out _).mono ?_); rintro e w1 ⟨rfl, hf⟩; have HF := Lib.hid (HF.out.trans hf (by simp)); clear hf k00 k01 k02 k03 k04 k05 k06 k10 k11 k12 k13 k14 k15 k16; obtain ⟨k00, k01, k02, k03, k04, k05, k06, k10, k11, k12, k13, k14, k15, k16⟩ := HCELL.out _ HF.out)
        | (go_at_call 13; (with_reducible refine (Eb.out _).mono ?_); rintro e w1 ⟨rfl, hf⟩; have HF := Lib.hid (HF.out.trans hf (by simp)); clear hf k00 k01 k02 k03 k04 k05 k06 k10 k11 k12 k13 k14 k15 k16; obtain ⟨k00, k01, k02, k03, k04, k05, k06, k10, k11, k12, k13, k14, k15, k16⟩ := HCELL.out _ HF.out))
    refine wp_region_calm (by kernel_rfl) (by kernel_rfl) ?_
    -- 0
    apply ex_plain rfl rfl rfl
    · intro a w hC hA K hK
      have h6 := hA.free 6 _ (by kernel_rfl) rfl
      simp only [Oper.wp, execOp]; go_simp
      exact hK _ hC (Fp.refl _ _)
    -- 1
    apply ex_plain rfl rfl rfl
    · intro a w hC hA K hK
      have h42 : a.tmps[42]?.getD undef = _ := hA.dep 0 42 _ (by kernel_rfl) rfl
      simp only [Oper.wp, execOp]; go_simp
      exact hK _ hC (Fp.refl _ _)
    -- 2
    apply ex_plain rfl rfl rfl
    · intro a w hC hA K hK
      have h43 : a.tmps[43]?.getD undef = _ := hA.dep 1 43 _ (by kernel_rfl) rfl
      simp only [Oper.wp, execOp]; go_simp
      exact hK _ hC (Fp.refl _ _)
    -- 3
    apply ex_yes 2 44 rfl rfl rfl rfl (by kernel_rfl) rfl rfl
    · intro a w hC hA K hK
      have h8 := hA.free 8 _ (by kernel_rfl) rfl
      simp only [Oper.wp, execOp]; go_simp
      exact hK _ hC (Fp.refl _ _)
    -- 4
    apply ex_yes 2 44 rfl rfl rfl rfl (by kernel_rfl) rfl rfl
    · intro a w hC hA K hK
      have h45 : a.tmps[45]?.getD undef = _ := hA.dep 3 45 _ (by kernel_rfl) rfl
      simp only [Oper.wp, execOp]; go_simp
      exact hK _ hC (Fp.refl _ _)
    -- 5
    apply ex_plain rfl rfl rfl
    · intro a w hC hA K hK
      have h44 : a.tmps[44]?.getD undef = _ := hA.dep 2 44 _ (by kernel_rfl) rfl
      have h46 : a.tmps[46]?.getD undef = _ := hA.dep 4 46 _ (by kernel_rfl) rfl
      simp only [Oper.wp, execOp]; go_simp
      exact hK _ hC (Fp.refl _ _)
    -- 6
    apply ex_plain rfl rfl rfl
    · intro a w hC hA K hK
      have h47 : a.tmps[47]?.getD undef = _ := hA.dep 5 47 _ (by kernel_rfl) rfl
      simp only [Oper.wp, execOp]; go_simp
      exact hK _ hC (Fp.refl _ _)
    -- 7
    apply ex_yes 6 48 rfl rfl rfl rfl (by kernel_rfl) rfl rfl
    · intro a w hC hA K hK
      have h5 := hA.free 5 _ (by kernel_rfl) rfl
      simp only [Oper.wp, execOp]; go_simp
      exact hK _ hC (Fp.refl _ _)
    -- 8
    apply ex_yes 6 48 rfl rfl rfl rfl (by kernel_rfl) rfl rfl
    · intro a w hC hA K hK
      have h7 := hA.free 7 _ (by kernel_rfl) rfl
      simp only [Oper.wp, execOp]; go_simp
      exact hK _ hC (Fp.refl _ _)
    -- 9
    apply ex_yes 6 48 rfl rfl rfl rfl (by kernel_rfl) rfl rfl
    · intro a w hC hA K hK
      have h49 : a.tmps[49]?.getD undef = _ := hA.dep 7 49 _ (by kernel_rfl) rfl
      have h50 : a.tmps[50]?.getD undef = _ := hA.dep 8 50 _ (by kernel_rfl) rfl
      simp only [Oper.wp, execOp]; go_simp
      exact hK _ hC (Fp.refl _ _)
    -- 10
    apply ex_yes 6 48 rfl rfl rfl rfl (by kernel_rfl) rfl rfl
    · intro a w hC hA K hK
      have h2 := hA.free 2 _ (by kernel_rfl) rfl
      obtain ⟨k00, k01, k02, k03, k04, k05, k06, k10, k11, k12, k13, k14, k15, k16⟩ := HCELL.out _ (HF.out.trans hC (by simp))
      simp only [Oper.wp, execOp]; go_simp
      exact hK _ hC (Fp.refl _ _)
    -- 11
    apply ex_yes 6 48 rfl rfl rfl rfl (by kernel_rfl) rfl rfl
    · intro a w hC hA K hK
      have h3 := hA.free 3 _ (by kernel_rfl) rfl
      obtain ⟨k00, k01, k02, k03, k04, k05, k06, k10, k11, k12, k13, k14, k15, k16⟩ := HCELL.out _ (HF.out.trans hC (by simp))
      simp only [Oper.wp, execOp]; go_simp
      exact hK _ hC (Fp.refl _ _)
    -- 12
    apply ex_yes 6 48 rfl rfl rfl rfl (by kernel_rfl) rfl rfl
    · intro a w hC hA K hK
      have h52 : a.tmps[52]?.getD undef = _ := hA.dep 10 52 _ (by kernel_rfl) rfl
      have h53 : a.tmps[53]?.getD undef = _ := hA.dep 11 53 _ (by kernel_rfl) rfl
      simp only [Oper.wp, execOp]
      go_simp
      rw [eqC_ifs]
      exact hK _ hC (Fp.refl _ _)
    -- 13
    apply ex_yes 6 48 rfl rfl rfl rfl (by kernel_rfl) rfl rfl
    · intro a w hC hA K hK
      have h51 : a.tmps[51]?.getD undef = _ := hA.dep 9 51 _ (by kernel_rfl) rfl
      have h54 : a.tmps[54]?.getD undef = _ := hA.dep 12 54 _ (by kernel_rfl) rfl
      simp only [Oper.wp, execOp]; go_simp
      exact hK _ hC (Fp.refl _ _)
    -- 14
    apply ex_plain rfl rfl rfl
    · intro a w hC hA K hK
      have h48 : a.tmps[48]?.getD undef = _ := hA.dep 6 48 _ (by kernel_rfl) rfl
      have h55 : a.tmps[55]?.getD undef = _ := hA.dep 13 55 _ (by kernel_rfl) rfl
      simp only [Oper.wp, execOp]; go_simp
      exact hK _ hC (Fp.refl _ _)
    -- 15
    apply ex_plain rfl rfl rfl
    · intro a w hC hA K hK
      have h56 : a.tmps[56]?.getD undef = _ := hA.dep 14 56 _ (by kernel_rfl) rfl
      simp only [Oper.wp, execOp]; go_simp
      exact hK _ hC (Fp.refl _ _)
    -- 16
    apply ex_yes 15 57 rfl rfl rfl rfl (by kernel_rfl) rfl rfl
    · intro a w hC hA K hK
      have h2 := hA.free 2 _ (by kernel_rfl) rfl
      obtain ⟨k00, k01, k02, k03, k04, k05, k06, k10, k11, k12, k13, k14, k15, k16⟩ := HCELL.out _ (HF.out.trans hC (by simp))
      simp only [Oper.wp, execOp]; go_simp
      exact hK _ hC (Fp.refl _ _)
    -- 17
    apply ex_yes 15 57 rfl rfl rfl rfl (by kernel_rfl) rfl rfl
    · intro a w hC hA K hK
      have h58 : a.tmps[58]?.getD undef = _ := hA.dep 16 58 _ (by kernel_rfl) rfl
      simp only [Oper.wp, execOp]; go_simp
      have hmx := HMM.out.fp (HF.out.trans hC (by simp)) (by simp)
      first
        | ((with_reducible refine (Ka.out _ hmx).mono ?_); rintro e w2 ⟨rfl, hf⟩; exact hK _ (hC.trans hf (by simp)) hf)
        | ((with_reducible refine (Kb.out _ hmx).mono ?_); rintro e w2 ⟨rfl, hf⟩; exact hK _ (hC.trans hf (by simp)) hf)
        | ((with_reducible refine (SAB.out _).mono ?_); rintro e w2 ⟨rfl, hf⟩; exact hK _ (hC.trans hf (by simp)) hf)
    -- 18
    apply ex_yes 15 57 rfl rfl rfl rfl (by kernel_rfl) rfl rfl
    · intro a w hC hA K hK
      have h3 := hA.free 3 _ (by kernel_rfl) rfl
      obtain ⟨k00, k01, k02, k03, k04, k05, k06, k10, k11, k12, k13, k14, k15, k16⟩ := HCELL.out _ (HF.out.trans hC (by simp))
      simp only [Oper.wp, execOp]; go_simp
      exact hK _ hC (Fp.refl _ _)
    -- 19
    apply ex_yes 15 57 rfl rfl rfl rfl (by kernel_rfl) rfl rfl
    · intro a w hC hA K hK
      have h60 : a.tmps[60]?.getD undef = _ := hA.dep 18 60 _ (by kernel_rfl) rfl
      simp only [Oper.wp, execOp]; go_simp
      have hmx := HMM.out.fp (HF.out.trans hC (by simp)) (by simp)
      first
        | ((with_reducible refine (Ka.out _ hmx).mono ?_); rintro e w2 ⟨rfl, hf⟩; exact hK _ (hC.trans hf (by simp)) hf)
        | ((with_reducible refine (Kb.out _ hmx).mono ?_); rintro e w2 ⟨rfl, hf⟩; exact hK _ (hC.trans hf (by simp)) hf)
        | ((with_reducible refine (SAB.out _).mono ?_); rintro e w2 ⟨rfl, hf⟩; exact hK _ (hC.trans hf (by simp)) hf)
    -- 20
    apply ex_yes 15 57 rfl rfl rfl rfl (by kernel_rfl) rfl rfl
    · intro a w hC hA K hK
      have h59 : a.tmps[59]?.getD undef = _ := hA.dep 17 59 _ (by kernel_rfl) rfl
      have h61 : a.tmps[61]?.getD undef = _ := hA.dep 19 61 _ (by kernel_rfl) rfl
      simp only [Oper.wp, execOp]; go_simp
      exact hK _ hC (Fp.refl _ _)
    -- 21
    apply ex_yes 15 57 rfl rfl rfl rfl (by kernel_rfl) rfl rfl
    · intro a w hC hA K hK
      have h2 := hA.free 2 _ (by kernel_rfl) rfl
      obtain ⟨k00, k01, k02, k03, k04, k05, k06, k10, k11, k12, k13, k14, k15, k16⟩ := HCELL.out _ (HF.out.trans hC (by simp))
      simp only [Oper.wp, execOp]; go_simp
      exact hK _ hC (Fp.refl _ _)
    -- 22
    apply ex_yes 15 57 rfl rfl rfl rfl (by kernel_rfl) rfl rfl
    · intro a w hC hA K hK
      have h3 := hA.free 3 _ (by kernel_rfl) rfl
      obtain ⟨k00, k01, k02, k03, k04, k05, k06, k10, k11, k12, k13, k14, k15, k16⟩ := HCELL.out _ (HF.out.trans hC (by simp))
      simp only [Oper.wp, execOp]; go_simp
      exact hK _ hC (Fp.refl _ _)
    -- 23
    apply ex_yes 15 57 rfl rfl rfl rfl (by kernel_rfl) rfl rfl
    · intro a w hC hA K hK
      have h63 : a.tmps[63]?.getD undef = _ := hA.dep 21 63 _ (by kernel_rfl) rfl
      have h64 : a.tmps[64]?.getD undef = _ := hA.dep 22 64 _ (by kernel_rfl) rfl
      simp only [Oper.wp, execOp]; go_simp
      have hmx := HMM.out.fp (HF.out.trans hC (by simp)) (by simp)
      first
        | ((with_reducible refine (Ka.out _ hmx).mono ?_); rintro e w2 ⟨rfl, hf⟩; exact hK _ (hC.trans hf (by simp)) hf)
        | ((with_reducible refine (Kb.out _ hmx).mono ?_); rintro e w2 ⟨rfl, hf⟩; exact hK _ (hC.trans hf (by simp)) hf)
        | ((with_reducible refine (SAB.out _).mono ?_); rintro e w2 ⟨rfl, hf⟩; exact hK _ (hC.trans hf (by simp)) hf)
    -- 24
    apply ex_yes 15 57 rfl rfl rfl rfl (by kernel_rfl) rfl rfl
    · intro a w hC hA K hK
      have h65 : a.tmps[65]?.getD undef = _ := hA.dep 23 65 _ (by kernel_rfl) rfl
      simp only [Oper.wp, execOp]; go_simp
      exact hK _ hC (Fp.refl _ _)
    -- 25
    apply ex_yes 24 66 rfl rfl rfl rfl (by kernel_rfl) rfl rfl
    · intro a w hC hA K hK
      have h2 := hA.free 2 _ (by kernel_rfl) rfl
      simp only [Oper.wp, execOp]; go_simp
      exact hK _ hC (Fp.refl _ _)
    -- 26
    apply ex_yes 24 66 rfl rfl rfl rfl (by kernel_rfl) rfl rfl
    · intro a w hC hA K hK
      have h67 : a.tmps[67]?.getD undef = _ := hA.dep 25 67 _ (by kernel_rfl) rfl
      obtain ⟨k00, k01, k02, k03, k04, k05, k06, k10, k11, k12, k13, k14, k15, k16⟩ := HCELL.out _ (HF.out.trans hC (by simp))
      simp only [Oper.wp, execOp]; go_simp
      exact hK _ hC (Fp.refl _ _)
    -- 27
    apply ex_yes 24 66 rfl rfl rfl rfl (by kernel_rfl) rfl rfl
    · intro a w hC hA K hK
      have h3 := hA.free 3 _ (by kernel_rfl) rfl
      simp only [Oper.wp, execOp]; go_simp
      exact hK _ hC (Fp.refl _ _)
    -- 28
    apply ex_yes 24 66 rfl rfl rfl rfl (by kernel_rfl) rfl rfl
    · intro a w hC hA K hK
      have h69 : a.tmps[69]?.getD undef = _ := hA.dep 27 69 _ (by kernel_rfl) rfl
      obtain ⟨k00, k01, k02, k03, k04, k05, k06, k10, k11, k12, k13, k14, k15, k16⟩ := HCELL.out _ (HF.out.trans hC (by simp))
      simp only [Oper.wp, execOp]; go_simp
      exact hK _ hC (Fp.refl _ _)
    -- 29
    apply ex_yes 24 66 rfl rfl rfl rfl (by kernel_rfl) rfl rfl
    · intro a w hC hA K hK
      have h68 : a.tmps[68]?.getD undef = _ := hA.dep 26 68 _ (by kernel_rfl) rfl
      have h70 : a.tmps[70]?.getD undef = _ := hA.dep 28 70 _ (by kernel_rfl) rfl
      simp only [Oper.wp, execOp]; go_simp
      exact hK _ hC (Fp.refl _ _)
    -- 30
    apply ex_yes 15 57 rfl rfl rfl rfl (by kernel_rfl) rfl rfl
    · intro a w hC hA K hK
      have h66 : a.tmps[66]?.getD undef = _ := hA.dep 24 66 _ (by kernel_rfl) rfl
      have h71 : a.tmps[71]?.getD undef = _ := hA.dep 29 71 _ (by kernel_rfl) rfl
      simp only [Oper.wp, execOp]; go_simp
      exact hK _ hC (Fp.refl _ _)
    -- 31
    apply ex_yes 15 57 rfl rfl rfl rfl (by kernel_rfl) rfl rfl
    · intro a w hC hA K hK
      have h62 : a.tmps[62]?.getD undef = _ := hA.dep 20 62 _ (by kernel_rfl) rfl
      have h72 : a.tmps[72]?.getD undef = _ := hA.dep 30 72 _ (by kernel_rfl) rfl
      simp only [Oper.wp, execOp]; go_simp
      exact hK _ hC (Fp.refl _ _)
    -- 32
    apply ex_plain rfl rfl rfl
    · intro a w hC hA K hK
      have h57 : a.tmps[57]?.getD undef = _ := hA.dep 15 57 _ (by kernel_rfl) rfl
      have h73 : a.tmps[73]?.getD undef = _ := hA.dep 31 73 _ (by kernel_rfl) rfl
      simp only [Oper.wp, execOp]; go_simp
      exact hK _ hC (Fp.refl _ _)
    -- 33
    apply ex_plain rfl rfl rfl
    · intro a w hC hA K hK
      have h74 : a.tmps[74]?.getD undef = _ := hA.dep 32 74 _ (by kernel_rfl) rfl
      simp only [Oper.wp, execOp]; go_simp
      exact hK _ hC (Fp.refl _ _)
    refine ⟨?_, ?_⟩
    · repeat (first | exact trivial | refine stab_val _ ?_)
    · intro w' hC
      simp only [List.reverse_cons, List.reverse_nil, List.nil_append, List.cons_append]
      repeat (refine all_val ?_)
      refine all_nil ?_
      simp only [putAll, Act.put, List.setIfInBounds_toArray, List.set_cons_succ, List.set_cons_zero]
      have HF := Lib.hid (HF.out.trans hC (by simp))
      clear hC k00 k01 k02 k03 k04 k05 k06 k10 k11 k12 k13 k14 k15 k16
      obtain ⟨k00, k01, k02, k03, k04, k05, k06, k10, k11, k12, k13, k14, k15, k16⟩ := HCELL.out _ HF.out
      go_wp2_with (fail)
      go_ret
      exact ⟨rfl, HFW.out.trans HF.out (by simp)⟩
end Go.Proofs.YtlpfijkchbpdmaaDoor
