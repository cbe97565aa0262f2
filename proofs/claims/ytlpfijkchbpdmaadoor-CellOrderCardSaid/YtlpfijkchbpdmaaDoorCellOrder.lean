/-
  CellOrder: the walk.
-/
import Derived.Test.YtlpfijkchbpdmaaDoorCellShown
import Derived.Test.YtlpfijkchbpdmaaDoorCellLaw3
import Derived.IntWalk
namespace Go.Proofs.YtlpfijkchbpdmaaDoor
open Go.RowKit

theorem gtr_str (t : TypeId) (a b : ByteArray) : binOp .gtr t (.string a) (.string b) = pure (.bool !(Op.bytesLess a.toList b.toList || a.toList == b.toList)) := by simp [binOp, Op.stringOp]
set_option maxRecDepth 100000 in
set_option maxHeartbeats 4000000 in
theorem order_walk (w : World) (a b : Cel) (oa : CelOK a) (ob : CelOK b) (hm : MaxAt w) :
    Calls Tryd.prog 4 #[cellV a, cellV b] w fun e w' => e = .returned (.bool true) ∧ Fp [] w w' := by
  have N2 := Lib.hid shown_any
  obtain ⟨W, hW⟩ : ∃ W, W = ((w.alloc (.cells #[.string a.row, .string a.col, .int .u64 a.ts, .int .u64 a.seq, .bool a.del, .string a.val] 24)).alloc (.cells #[.string b.row, .string b.col, .int .u64 b.ts, .int .u64 b.seq, .bool b.del, .string b.val] 24)) := ⟨_, rfl⟩
  have hfw : Fp [] w W := by rw [hW]; exact (Fp.alloc _ _).alloc' _
  have hb0 : W.heap[w.heap.size]? = some (.cells #[.string a.row, .string a.col, .int .u64 a.ts, .int .u64 a.seq, .bool a.del, .string a.val] 24 (0, 0)) := by
    rw [hW]
    exact heap_alloc_old (heap_alloc_at (by simp) _)
  have hb1 : W.heap[w.heap.size + 1]? = some (.cells #[.string b.row, .string b.col, .int .u64 b.ts, .int .u64 b.seq, .bool b.del, .string b.val] 24 (0, 0)) := by
    rw [hW]
    exact heap_alloc_at (by simp) _
  have hcell : ∀ w', Fp [] W w' → w'.cell? ⟨w.heap.size, 0, none⟩ = some (.string a.row) ∧ w'.cell? ⟨w.heap.size, 1, none⟩ = some (.string a.col) ∧ w'.cell? ⟨w.heap.size, 2, none⟩ = some (.int .u64 a.ts) ∧ w'.cell? ⟨w.heap.size, 3, none⟩ = some (.int .u64 a.seq) ∧ w'.cell? ⟨w.heap.size, 4, none⟩ = some (.bool a.del) ∧ w'.cell? ⟨w.heap.size, 5, none⟩ = some (.string a.val) ∧ w.heap.size < w'.heap.size ∧ w'.cell? ⟨w.heap.size + 1, 0, none⟩ = some (.string b.row) ∧ w'.cell? ⟨w.heap.size + 1, 1, none⟩ = some (.string b.col) ∧ w'.cell? ⟨w.heap.size + 1, 2, none⟩ = some (.int .u64 b.ts) ∧ w'.cell? ⟨w.heap.size + 1, 3, none⟩ = some (.int .u64 b.seq) ∧ w'.cell? ⟨w.heap.size + 1, 4, none⟩ = some (.bool b.del) ∧ w'.cell? ⟨w.heap.size + 1, 5, none⟩ = some (.string b.val) ∧ w.heap.size + 1 < w'.heap.size := by
    intro w' hf
    have h0 := (hf.block _ (heap_lt hb0) (by simp)).trans hb0
    have h1 := (hf.block _ (heap_lt hb1) (by simp)).trans hb1
    exact ⟨cell_of_block h0 0, cell_of_block h0 1, cell_of_block h0 2, cell_of_block h0 3, cell_of_block h0 4, cell_of_block h0 5, heap_lt h0, cell_of_block h1 0, cell_of_block h1 1, cell_of_block h1 2, cell_of_block h1 3, cell_of_block h1 4, cell_of_block h1 5, heap_lt h1⟩
  have HCELL := Lib.hid hcell
  have HFW := Lib.hid hfw
  have HW := Lib.hid hW
  have HMM := Lib.hid (MaxAt.fp hm hfw (by simp))
  clear hcell hfw hW hb0 hb1 hm
  have b_a := fun w => bounded_any a w oa
  have m_a := fun w => may_any a w oa
  have k_a := fun w hmay hm => key_yes a w oa hmay hm
  have b_b := fun w => bounded_any b w ob
  have m_b := fun w => may_any b w ob
  have k_b := fun w hmay hm => key_yes b w ob hmay hm
  have c_ab := fun w => cmp_any a b w
  have c_ba := fun w => cmp_any b a w
  have z2 := cmpC_neg a b oa ob
  have r1 := cmpC_range a b oa ob
  have z4 := key_order a b oa ob
  rw [z2] at c_ba
  unfold cellV at b_a b_b m_a m_b k_a k_b c_ab c_ba ⊢
  obtain ⟨sa, hsa⟩ : ∃ s, s = bl (keyL a) := ⟨_, rfl⟩
  obtain ⟨sb, hsb⟩ : ∃ s, s = bl (keyL b) := ⟨_, rfl⟩
  have ta : sa.toList = keyL a := by rw [hsa, ByteArray.toList_eq]; exact bl_toList _
  have tb : sb.toList = keyL b := by rw [hsb, ByteArray.toList_eq]; exact bl_toList _
  have k_a : ∀ w, mayB a = true → MaxAt w → Calls Tryd.prog 18 #[.agg #[.string a.row, .string a.col, .int .u64 a.ts, .int .u64 a.seq, .bool a.del, .string a.val]] w fun e w' => e = .returned (.string sa) ∧ Fp [] w w' := by rw [hsa]; exact k_a
  have k_b : ∀ w, mayB b = true → MaxAt w → Calls Tryd.prog 18 #[.agg #[.string b.row, .string b.col, .int .u64 b.ts, .int .u64 b.seq, .bool b.del, .string b.val]] w fun e w' => e = .returned (.string sb) ∧ Fp [] w w' := by rw [hsb]; exact k_b
  have less : Op.bytesLess sa.toList sb.toList = decide (cmpC a b = -1) := by rw [ta, tb, less_cb, z4]
  have same : (sa.toList == sb.toList) = decide (cmpC a b = 0) := by
    rw [ta, tb, ← z4]
    by_cases e : keyL a = keyL b
    · rw [e, cb_refl]; simp
    · rw [beq_eq_false_iff_ne.2 e]
      symm
      exact decide_eq_false (fun h => e (cb_eq h))
  obtain ⟨xab, hab⟩ : ∃ x, cmpC a b = x := ⟨_, rfl⟩
  rw [hab] at c_ab c_ba less same r1
  clear z2 z4 hab ta tb hsa hsb
  cases hy1 : bdB a
  · rw [hy1] at b_a
    clear hy1
    have Ba := Lib.hid b_a
    have Ma := Lib.hid m_a
    have Bb := Lib.hid b_b
    have Mb := Lib.hid m_b
    have Cab := Lib.hid c_ab
    have Cba := Lib.hid c_ba
    clear b_a b_b m_a m_b c_ab c_ba k_a k_b
    clear r1 less same
    go_enter Tryd.func4, Tryd.ntmps4
    go_wp2_with (fail)
    rw [← HW.out]
    have HF := Lib.hid (Fp.refl [] W)
    obtain ⟨k00, k01, k02, k03, k04, k05, k06, k10, k11, k12, k13, k14, k15, k16⟩ := HCELL.out _ HF.out
    go_wp2_with (first
        | (go_at_call 11; (with_reducible refine (Ba.out _).mono ?_); rintro e w1 ⟨rfl, hf⟩; have HF := Lib.hid (HF.out.trans hf (by simp)); clear hf k00 k01 k02 k03 k04 k05 k06 k10 k11 k12 k13 k14 k15 k16; obtain ⟨k00, k01, k02, k03, k04, k05, k06, k10, k11, k12, k13, k14, k15, k16⟩ := HCELL.out _ HF.out)
        | (go_at_call 11; (with_reducible refine (Bb.out _).mono ?_); rintro e w1 ⟨rfl, hf⟩; have HF := Lib.hid (HF.out.trans hf (by simp)); clear hf k00 k01 k02 k03 k04 k05 k06 k10 k11 k12 k13 k14 k15 k16; obtain ⟨k00, k01, k02, k03, k04, k05, k06, k10, k11, k12, k13, k14, k15, k16⟩ := HCELL.out _ HF.out)
        | (go_at_call 17; (with_reducible refine (Ma.out _).mono ?_); rintro e w1 ⟨rfl, hf⟩; have HF := Lib.hid (HF.out.trans hf (by simp)); clear hf k00 k01 k02 k03 k04 k05 k06 k10 k11 k12 k13 k14 k15 k16; obtain ⟨k00, k01, k02, k03, k04, k05, k06, k10, k11, k12, k13, k14, k15, k16⟩ := HCELL.out _ HF.out)
        | (go_at_call 17; (with_reducible refine (Mb.out _).mono ?_); rintro e w1 ⟨rfl, hf⟩; have HF := Lib.hid (HF.out.trans hf (by simp)); clear hf k00 k01 k02 k03 k04 k05 k06 k10 k11 k12 k13 k14 k15 k16; obtain ⟨k00, k01, k02, k03, k04, k05, k06, k10, k11, k12, k13, k14, k15, k16⟩ := HCELL.out _ HF.out)
        | (go_at_call 12; (with_reducible refine (N2.out _ (HMM.out.fp HF.out (by simp))).mono ?_); rintro e w1 ⟨rfl, hf⟩; have HF := Lib.hid (HF.out.trans hf (by simp)); clear hf k00 k01 k02 k03 k04 k05 k06 k10 k11 k12 k13 k14 k15 k16; obtain ⟨k00, k01, k02, k03, k04, k05, k06, k10, k11, k12, k13, k14, k15, k16⟩ := HCELL.out _ HF.out))
    go_ret
    exact ⟨rfl, HFW.out.trans HF.out (by simp)⟩
  rw [hy1] at b_a
  clear hy1
  cases hy2 : bdB b
  · rw [hy2] at b_b
    clear hy2
    have Ba := Lib.hid b_a
    have Ma := Lib.hid m_a
    have Bb := Lib.hid b_b
    have Mb := Lib.hid m_b
    have Cab := Lib.hid c_ab
    have Cba := Lib.hid c_ba
    clear b_a b_b m_a m_b c_ab c_ba k_a k_b
    clear r1 less same
    go_enter Tryd.func4, Tryd.ntmps4
    go_wp2_with (fail)
    rw [← HW.out]
    have HF := Lib.hid (Fp.refl [] W)
    obtain ⟨k00, k01, k02, k03, k04, k05, k06, k10, k11, k12, k13, k14, k15, k16⟩ := HCELL.out _ HF.out
    go_wp2_with (first
        | (go_at_call 11; (with_reducible refine (Ba.out _).mono ?_); rintro e w1 ⟨rfl, hf⟩; have HF := Lib.hid (HF.out.trans hf (by simp)); clear hf k00 k01 k02 k03 k04 k05 k06 k10 k11 k12 k13 k14 k15 k16; obtain ⟨k00, k01, k02, k03, k04, k05, k06, k10, k11, k12, k13, k14, k15, k16⟩ := HCELL.out _ HF.out)
        | (go_at_call 11; (with_reducible refine (Bb.out _).mono ?_); rintro e w1 ⟨rfl, hf⟩; have HF := Lib.hid (HF.out.trans hf (by simp)); clear hf k00 k01 k02 k03 k04 k05 k06 k10 k11 k12 k13 k14 k15 k16; obtain ⟨k00, k01, k02, k03, k04, k05, k06, k10, k11, k12, k13, k14, k15, k16⟩ := HCELL.out _ HF.out)
        | (go_at_call 17; (with_reducible refine (Ma.out _).mono ?_); rintro e w1 ⟨rfl, hf⟩; have HF := Lib.hid (HF.out.trans hf (by simp)); clear hf k00 k01 k02 k03 k04 k05 k06 k10 k11 k12 k13 k14 k15 k16; obtain ⟨k00, k01, k02, k03, k04, k05, k06, k10, k11, k12, k13, k14, k15, k16⟩ := HCELL.out _ HF.out)
        | (go_at_call 17; (with_reducible refine (Mb.out _).mono ?_); rintro e w1 ⟨rfl, hf⟩; have HF := Lib.hid (HF.out.trans hf (by simp)); clear hf k00 k01 k02 k03 k04 k05 k06 k10 k11 k12 k13 k14 k15 k16; obtain ⟨k00, k01, k02, k03, k04, k05, k06, k10, k11, k12, k13, k14, k15, k16⟩ := HCELL.out _ HF.out)
        | (go_at_call 12; (with_reducible refine (N2.out _ (HMM.out.fp HF.out (by simp))).mono ?_); rintro e w1 ⟨rfl, hf⟩; have HF := Lib.hid (HF.out.trans hf (by simp)); clear hf k00 k01 k02 k03 k04 k05 k06 k10 k11 k12 k13 k14 k15 k16; obtain ⟨k00, k01, k02, k03, k04, k05, k06, k10, k11, k12, k13, k14, k15, k16⟩ := HCELL.out _ HF.out))
    go_ret
    exact ⟨rfl, HFW.out.trans HF.out (by simp)⟩
  rw [hy2] at b_b
  clear hy2
  cases hy3 : mayB a
  · rw [hy3] at m_a
    clear hy3
    have Ba := Lib.hid b_a
    have Ma := Lib.hid m_a
    have Bb := Lib.hid b_b
    have Mb := Lib.hid m_b
    have Cab := Lib.hid c_ab
    have Cba := Lib.hid c_ba
    clear b_a b_b m_a m_b c_ab c_ba k_a k_b
    clear r1 less same
    go_enter Tryd.func4, Tryd.ntmps4
    go_wp2_with (fail)
    rw [← HW.out]
    have HF := Lib.hid (Fp.refl [] W)
    obtain ⟨k00, k01, k02, k03, k04, k05, k06, k10, k11, k12, k13, k14, k15, k16⟩ := HCELL.out _ HF.out
    go_wp2_with (first
        | (go_at_call 11; (with_reducible refine (Ba.out _).mono ?_); rintro e w1 ⟨rfl, hf⟩; have HF := Lib.hid (HF.out.trans hf (by simp)); clear hf k00 k01 k02 k03 k04 k05 k06 k10 k11 k12 k13 k14 k15 k16; obtain ⟨k00, k01, k02, k03, k04, k05, k06, k10, k11, k12, k13, k14, k15, k16⟩ := HCELL.out _ HF.out)
        | (go_at_call 11; (with_reducible refine (Bb.out _).mono ?_); rintro e w1 ⟨rfl, hf⟩; have HF := Lib.hid (HF.out.trans hf (by simp)); clear hf k00 k01 k02 k03 k04 k05 k06 k10 k11 k12 k13 k14 k15 k16; obtain ⟨k00, k01, k02, k03, k04, k05, k06, k10, k11, k12, k13, k14, k15, k16⟩ := HCELL.out _ HF.out)
        | (go_at_call 17; (with_reducible refine (Ma.out _).mono ?_); rintro e w1 ⟨rfl, hf⟩; have HF := Lib.hid (HF.out.trans hf (by simp)); clear hf k00 k01 k02 k03 k04 k05 k06 k10 k11 k12 k13 k14 k15 k16; obtain ⟨k00, k01, k02, k03, k04, k05, k06, k10, k11, k12, k13, k14, k15, k16⟩ := HCELL.out _ HF.out)
        | (go_at_call 17; (with_reducible refine (Mb.out _).mono ?_); rintro e w1 ⟨rfl, hf⟩; have HF := Lib.hid (HF.out.trans hf (by simp)); clear hf k00 k01 k02 k03 k04 k05 k06 k10 k11 k12 k13 k14 k15 k16; obtain ⟨k00, k01, k02, k03, k04, k05, k06, k10, k11, k12, k13, k14, k15, k16⟩ := HCELL.out _ HF.out)
        | (go_at_call 12; (with_reducible refine (N2.out _ (HMM.out.fp HF.out (by simp))).mono ?_); rintro e w1 ⟨rfl, hf⟩; have HF := Lib.hid (HF.out.trans hf (by simp)); clear hf k00 k01 k02 k03 k04 k05 k06 k10 k11 k12 k13 k14 k15 k16; obtain ⟨k00, k01, k02, k03, k04, k05, k06, k10, k11, k12, k13, k14, k15, k16⟩ := HCELL.out _ HF.out))
    go_ret
    exact ⟨rfl, HFW.out.trans HF.out (by simp)⟩
  rw [hy3] at m_a
  have Ka := Lib.hid (fun w hm => k_a w hy3 hm)
  clear hy3
  cases hy4 : mayB b
  · rw [hy4] at m_b
    clear hy4
    have Ba := Lib.hid b_a
    have Ma := Lib.hid m_a
    have Bb := Lib.hid b_b
    have Mb := Lib.hid m_b
    have Cab := Lib.hid c_ab
    have Cba := Lib.hid c_ba
    clear b_a b_b m_a m_b c_ab c_ba k_a k_b
    clear r1 less same
    go_enter Tryd.func4, Tryd.ntmps4
    go_wp2_with (fail)
    rw [← HW.out]
    have HF := Lib.hid (Fp.refl [] W)
    obtain ⟨k00, k01, k02, k03, k04, k05, k06, k10, k11, k12, k13, k14, k15, k16⟩ := HCELL.out _ HF.out
    go_wp2_with (first
        | (go_at_call 11; (with_reducible refine (Ba.out _).mono ?_); rintro e w1 ⟨rfl, hf⟩; have HF := Lib.hid (HF.out.trans hf (by simp)); clear hf k00 k01 k02 k03 k04 k05 k06 k10 k11 k12 k13 k14 k15 k16; obtain ⟨k00, k01, k02, k03, k04, k05, k06, k10, k11, k12, k13, k14, k15, k16⟩ := HCELL.out _ HF.out)
        | (go_at_call 11; (with_reducible refine (Bb.out _).mono ?_); rintro e w1 ⟨rfl, hf⟩; have HF := Lib.hid (HF.out.trans hf (by simp)); clear hf k00 k01 k02 k03 k04 k05 k06 k10 k11 k12 k13 k14 k15 k16; obtain ⟨k00, k01, k02, k03, k04, k05, k06, k10, k11, k12, k13, k14, k15, k16⟩ := HCELL.out _ HF.out)
        | (go_at_call 17; (with_reducible refine (Ma.out _).mono ?_); rintro e w1 ⟨rfl, hf⟩; have HF := Lib.hid (HF.out.trans hf (by simp)); clear hf k00 k01 k02 k03 k04 k05 k06 k10 k11 k12 k13 k14 k15 k16; obtain ⟨k00, k01, k02, k03, k04, k05, k06, k10, k11, k12, k13, k14, k15, k16⟩ := HCELL.out _ HF.out)
        | (go_at_call 17; (with_reducible refine (Mb.out _).mono ?_); rintro e w1 ⟨rfl, hf⟩; have HF := Lib.hid (HF.out.trans hf (by simp)); clear hf k00 k01 k02 k03 k04 k05 k06 k10 k11 k12 k13 k14 k15 k16; obtain ⟨k00, k01, k02, k03, k04, k05, k06, k10, k11, k12, k13, k14, k15, k16⟩ := HCELL.out _ HF.out)
        | (go_at_call 12; (with_reducible refine (N2.out _ (HMM.out.fp HF.out (by simp))).mono ?_); rintro e w1 ⟨rfl, hf⟩; have HF := Lib.hid (HF.out.trans hf (by simp)); clear hf k00 k01 k02 k03 k04 k05 k06 k10 k11 k12 k13 k14 k15 k16; obtain ⟨k00, k01, k02, k03, k04, k05, k06, k10, k11, k12, k13, k14, k15, k16⟩ := HCELL.out _ HF.out))
    go_ret
    exact ⟨rfl, HFW.out.trans HF.out (by simp)⟩
  rw [hy4] at m_b
  have Kb := Lib.hid (fun w hm => k_b w hy4 hm)
  clear hy4
  rcases r1 with rfl | rfl | rfl
  · have less : Op.bytesLess sa.toList sb.toList = true := less
    have same : (sa.toList == sb.toList) = false := same
    have Ba := Lib.hid b_a
    have Ma := Lib.hid m_a
    have Bb := Lib.hid b_b
    have Mb := Lib.hid m_b
    have Cab := Lib.hid c_ab
    have Cba := Lib.hid c_ba
    clear b_a b_b m_a m_b c_ab c_ba k_a k_b
    have hg := gtr_str 9 sa sb
    go_enter Tryd.func4, Tryd.ntmps4
    go_wp2_with (fail)
    rw [← HW.out]
    have HF := Lib.hid (Fp.refl [] W)
    obtain ⟨k00, k01, k02, k03, k04, k05, k06, k10, k11, k12, k13, k14, k15, k16⟩ := HCELL.out _ HF.out
    go_wp2_with (first
        | (go_at_call 11; (with_reducible refine (Ba.out _).mono ?_); rintro e w1 ⟨rfl, hf⟩; have HF := Lib.hid (HF.out.trans hf (by simp)); clear hf k00 k01 k02 k03 k04 k05 k06 k10 k11 k12 k13 k14 k15 k16; obtain ⟨k00, k01, k02, k03, k04, k05, k06, k10, k11, k12, k13, k14, k15, k16⟩ := HCELL.out _ HF.out)
        | (go_at_call 11; (with_reducible refine (Bb.out _).mono ?_); rintro e w1 ⟨rfl, hf⟩; have HF := Lib.hid (HF.out.trans hf (by simp)); clear hf k00 k01 k02 k03 k04 k05 k06 k10 k11 k12 k13 k14 k15 k16; obtain ⟨k00, k01, k02, k03, k04, k05, k06, k10, k11, k12, k13, k14, k15, k16⟩ := HCELL.out _ HF.out)
        | (go_at_call 17; (with_reducible refine (Ma.out _).mono ?_); rintro e w1 ⟨rfl, hf⟩; have HF := Lib.hid (HF.out.trans hf (by simp)); clear hf k00 k01 k02 k03 k04 k05 k06 k10 k11 k12 k13 k14 k15 k16; obtain ⟨k00, k01, k02, k03, k04, k05, k06, k10, k11, k12, k13, k14, k15, k16⟩ := HCELL.out _ HF.out)
        | (go_at_call 17; (with_reducible refine (Mb.out _).mono ?_); rintro e w1 ⟨rfl, hf⟩; have HF := Lib.hid (HF.out.trans hf (by simp)); clear hf k00 k01 k02 k03 k04 k05 k06 k10 k11 k12 k13 k14 k15 k16; obtain ⟨k00, k01, k02, k03, k04, k05, k06, k10, k11, k12, k13, k14, k15, k16⟩ := HCELL.out _ HF.out)
        | (go_at_call 12; (with_reducible refine (N2.out _ (HMM.out.fp HF.out (by simp))).mono ?_); rintro e w1 ⟨rfl, hf⟩; have HF := Lib.hid (HF.out.trans hf (by simp)); clear hf k00 k01 k02 k03 k04 k05 k06 k10 k11 k12 k13 k14 k15 k16; obtain ⟨k00, k01, k02, k03, k04, k05, k06, k10, k11, k12, k13, k14, k15, k16⟩ := HCELL.out _ HF.out)
        | (go_at_call 18; (with_reducible refine (Ka.out _ (HMM.out.fp HF.out (by simp))).mono ?_); rintro e w1 ⟨rfl, hf⟩; have HF := Lib.hid (HF.out.trans hf (by simp)); clear hf k00 k01 k02 k03 k04 k05 k06 k10 k11 k12 k13 k14 k15 k16; obtain ⟨k00, k01, k02, k03, k04, k05, k06, k10, k11, k12, k13, k14, k15, k16⟩ := HCELL.out _ HF.out)
        | (go_at_call 18; (with_reducible refine (Kb.out _ (HMM.out.fp HF.out (by simp))).mono ?_); rintro e w1 ⟨rfl, hf⟩; have HF := Lib.hid (HF.out.trans hf (by simp)); clear hf k00 k01 k02 k03 k04 k05 k06 k10 k11 k12 k13 k14 k15 k16; obtain ⟨k00, k01, k02, k03, k04, k05, k06, k10, k11, k12, k13, k14, k15, k16⟩ := HCELL.out _ HF.out)
        | (go_at_call 19; (with_reducible refine (Cab.out _).mono ?_); rintro e w1 ⟨rfl, hf⟩; have HF := Lib.hid (HF.out.trans hf (by simp)); clear hf k00 k01 k02 k03 k04 k05 k06 k10 k11 k12 k13 k14 k15 k16; obtain ⟨k00, k01, k02, k03, k04, k05, k06, k10, k11, k12, k13, k14, k15, k16⟩ := HCELL.out _ HF.out)
        | (go_at_call 19; (with_reducible refine (Cba.out _).mono ?_); rintro e w1 ⟨rfl, hf⟩; have HF := Lib.hid (HF.out.trans hf (by simp)); clear hf k00 k01 k02 k03 k04 k05 k06 k10 k11 k12 k13 k14 k15 k16; obtain ⟨k00, k01, k02, k03, k04, k05, k06, k10, k11, k12, k13, k14, k15, k16⟩ := HCELL.out _ HF.out))
    go_ret
    exact ⟨rfl, HFW.out.trans HF.out (by simp)⟩
  · have less : Op.bytesLess sa.toList sb.toList = false := less
    have same : (sa.toList == sb.toList) = true := same
    have Ba := Lib.hid b_a
    have Ma := Lib.hid m_a
    have Bb := Lib.hid b_b
    have Mb := Lib.hid m_b
    have Cab := Lib.hid c_ab
    have Cba := Lib.hid c_ba
    clear b_a b_b m_a m_b c_ab c_ba k_a k_b
    have hg := gtr_str 9 sa sb
    go_enter Tryd.func4, Tryd.ntmps4
    go_wp2_with (fail)
    rw [← HW.out]
    have HF := Lib.hid (Fp.refl [] W)
    obtain ⟨k00, k01, k02, k03, k04, k05, k06, k10, k11, k12, k13, k14, k15, k16⟩ := HCELL.out _ HF.out
    go_wp2_with (first
        | (go_at_call 11; (with_reducible refine (Ba.out _).mono ?_); rintro e w1 ⟨rfl, hf⟩; have HF := Lib.hid (HF.out.trans hf (by simp)); clear hf k00 k01 k02 k03 k04 k05 k06 k10 k11 k12 k13 k14 k15 k16; obtain ⟨k00, k01, k02, k03, k04, k05, k06, k10, k11, k12, k13, k14, k15, k16⟩ := HCELL.out _ HF.out)
        | (go_at_call 11; (with_reducible refine (Bb.out _).mono ?_); rintro e w1 ⟨rfl, hf⟩; have HF := Lib.hid (HF.out.trans hf (by simp)); clear hf k00 k01 k02 k03 k04 k05 k06 k10 k11 k12 k13 k14 k15 k16; obtain ⟨k00, k01, k02, k03, k04, k05, k06, k10, k11, k12, k13, k14, k15, k16⟩ := HCELL.out _ HF.out)
        | (go_at_call 17; (with_reducible refine (Ma.out _).mono ?_); rintro e w1 ⟨rfl, hf⟩; have HF := Lib.hid (HF.out.trans hf (by simp)); clear hf k00 k01 k02 k03 k04 k05 k06 k10 k11 k12 k13 k14 k15 k16; obtain ⟨k00, k01, k02, k03, k04, k05, k06, k10, k11, k12, k13, k14, k15, k16⟩ := HCELL.out _ HF.out)
        | (go_at_call 17; (with_reducible refine (Mb.out _).mono ?_); rintro e w1 ⟨rfl, hf⟩; have HF := Lib.hid (HF.out.trans hf (by simp)); clear hf k00 k01 k02 k03 k04 k05 k06 k10 k11 k12 k13 k14 k15 k16; obtain ⟨k00, k01, k02, k03, k04, k05, k06, k10, k11, k12, k13, k14, k15, k16⟩ := HCELL.out _ HF.out)
        | (go_at_call 12; (with_reducible refine (N2.out _ (HMM.out.fp HF.out (by simp))).mono ?_); rintro e w1 ⟨rfl, hf⟩; have HF := Lib.hid (HF.out.trans hf (by simp)); clear hf k00 k01 k02 k03 k04 k05 k06 k10 k11 k12 k13 k14 k15 k16; obtain ⟨k00, k01, k02, k03, k04, k05, k06, k10, k11, k12, k13, k14, k15, k16⟩ := HCELL.out _ HF.out)
        | (go_at_call 18; (with_reducible refine (Ka.out _ (HMM.out.fp HF.out (by simp))).mono ?_); rintro e w1 ⟨rfl, hf⟩; have HF := Lib.hid (HF.out.trans hf (by simp)); clear hf k00 k01 k02 k03 k04 k05 k06 k10 k11 k12 k13 k14 k15 k16; obtain ⟨k00, k01, k02, k03, k04, k05, k06, k10, k11, k12, k13, k14, k15, k16⟩ := HCELL.out _ HF.out)
        | (go_at_call 18; (with_reducible refine (Kb.out _ (HMM.out.fp HF.out (by simp))).mono ?_); rintro e w1 ⟨rfl, hf⟩; have HF := Lib.hid (HF.out.trans hf (by simp)); clear hf k00 k01 k02 k03 k04 k05 k06 k10 k11 k12 k13 k14 k15 k16; obtain ⟨k00, k01, k02, k03, k04, k05, k06, k10, k11, k12, k13, k14, k15, k16⟩ := HCELL.out _ HF.out)
        | (go_at_call 19; (with_reducible refine (Cab.out _).mono ?_); rintro e w1 ⟨rfl, hf⟩; have HF := Lib.hid (HF.out.trans hf (by simp)); clear hf k00 k01 k02 k03 k04 k05 k06 k10 k11 k12 k13 k14 k15 k16; obtain ⟨k00, k01, k02, k03, k04, k05, k06, k10, k11, k12, k13, k14, k15, k16⟩ := HCELL.out _ HF.out)
        | (go_at_call 19; (with_reducible refine (Cba.out _).mono ?_); rintro e w1 ⟨rfl, hf⟩; have HF := Lib.hid (HF.out.trans hf (by simp)); clear hf k00 k01 k02 k03 k04 k05 k06 k10 k11 k12 k13 k14 k15 k16; obtain ⟨k00, k01, k02, k03, k04, k05, k06, k10, k11, k12, k13, k14, k15, k16⟩ := HCELL.out _ HF.out))
    go_ret
    exact ⟨rfl, HFW.out.trans HF.out (by simp)⟩
  · have less : Op.bytesLess sa.toList sb.toList = false := less
    have same : (sa.toList == sb.toList) = false := same
    have Ba := Lib.hid b_a
    have Ma := Lib.hid m_a
    have Bb := Lib.hid b_b
    have Mb := Lib.hid m_b
    have Cab := Lib.hid c_ab
    have Cba := Lib.hid c_ba
    clear b_a b_b m_a m_b c_ab c_ba k_a k_b
    have hg := gtr_str 9 sa sb
    go_enter Tryd.func4, Tryd.ntmps4
    go_wp2_with (fail)
    rw [← HW.out]
    have HF := Lib.hid (Fp.refl [] W)
    obtain ⟨k00, k01, k02, k03, k04, k05, k06, k10, k11, k12, k13, k14, k15, k16⟩ := HCELL.out _ HF.out
    go_wp2_with (first
        | (go_at_call 11; (with_reducible refine (Ba.out _).mono ?_); rintro e w1 ⟨rfl, hf⟩; have HF := Lib.hid (HF.out.trans hf (by simp)); clear hf k00 k01 k02 k03 k04 k05 k06 k10 k11 k12 k13 k14 k15 k16; obtain ⟨k00, k01, k02, k03, k04, k05, k06, k10, k11, k12, k13, k14, k15, k16⟩ := HCELL.out _ HF.out)
        | (go_at_call 11; (with_reducible refine (Bb.out _).mono ?_); rintro e w1 ⟨rfl, hf⟩; have HF := Lib.hid (HF.out.trans hf (by simp)); clear hf k00 k01 k02 k03 k04 k05 k06 k10 k11 k12 k13 k14 k15 k16; obtain ⟨k00, k01, k02, k03, k04, k05, k06, k10, k11, k12, k13, k14, k15, k16⟩ := HCELL.out _ HF.out)
        | (go_at_call 17; (with_reducible refine (Ma.out _).mono ?_); rintro e w1 ⟨rfl, hf⟩; have HF := Lib.hid (HF.out.trans hf (by simp)); clear hf k00 k01 k02 k03 k04 k05 k06 k10 k11 k12 k13 k14 k15 k16; obtain ⟨k00, k01, k02, k03, k04, k05, k06, k10, k11, k12, k13, k14, k15, k16⟩ := HCELL.out _ HF.out)
        | (go_at_call 17; (with_reducible refine (Mb.out _).mono ?_); rintro e w1 ⟨rfl, hf⟩; have HF := Lib.hid (HF.out.trans hf (by simp)); clear hf k00 k01 k02 k03 k04 k05 k06 k10 k11 k12 k13 k14 k15 k16; obtain ⟨k00, k01, k02, k03, k04, k05, k06, k10, k11, k12, k13, k14, k15, k16⟩ := HCELL.out _ HF.out)
        | (go_at_call 12; (with_reducible refine (N2.out _ (HMM.out.fp HF.out (by simp))).mono ?_); rintro e w1 ⟨rfl, hf⟩; have HF := Lib.hid (HF.out.trans hf (by simp)); clear hf k00 k01 k02 k03 k04 k05 k06 k10 k11 k12 k13 k14 k15 k16; obtain ⟨k00, k01, k02, k03, k04, k05, k06, k10, k11, k12, k13, k14, k15, k16⟩ := HCELL.out _ HF.out)
        | (go_at_call 18; (with_reducible refine (Ka.out _ (HMM.out.fp HF.out (by simp))).mono ?_); rintro e w1 ⟨rfl, hf⟩; have HF := Lib.hid (HF.out.trans hf (by simp)); clear hf k00 k01 k02 k03 k04 k05 k06 k10 k11 k12 k13 k14 k15 k16; obtain ⟨k00, k01, k02, k03, k04, k05, k06, k10, k11, k12, k13, k14, k15, k16⟩ := HCELL.out _ HF.out)
        | (go_at_call 18; (with_reducible refine (Kb.out _ (HMM.out.fp HF.out (by simp))).mono ?_); rintro e w1 ⟨rfl, hf⟩; have HF := Lib.hid (HF.out.trans hf (by simp)); clear hf k00 k01 k02 k03 k04 k05 k06 k10 k11 k12 k13 k14 k15 k16; obtain ⟨k00, k01, k02, k03, k04, k05, k06, k10, k11, k12, k13, k14, k15, k16⟩ := HCELL.out _ HF.out)
        | (go_at_call 19; (with_reducible refine (Cab.out _).mono ?_); rintro e w1 ⟨rfl, hf⟩; have HF := Lib.hid (HF.out.trans hf (by simp)); clear hf k00 k01 k02 k03 k04 k05 k06 k10 k11 k12 k13 k14 k15 k16; obtain ⟨k00, k01, k02, k03, k04, k05, k06, k10, k11, k12, k13, k14, k15, k16⟩ := HCELL.out _ HF.out)
        | (go_at_call 19; (with_reducible refine (Cba.out _).mono ?_); rintro e w1 ⟨rfl, hf⟩; have HF := Lib.hid (HF.out.trans hf (by simp)); clear hf k00 k01 k02 k03 k04 k05 k06 k10 k11 k12 k13 k14 k15 k16; obtain ⟨k00, k01, k02, k03, k04, k05, k06, k10, k11, k12, k13, k14, k15, k16⟩ := HCELL.out _ HF.out))
    go_ret
    exact ⟨rfl, HFW.out.trans HF.out (by simp)⟩
end Go.Proofs.YtlpfijkchbpdmaaDoor
