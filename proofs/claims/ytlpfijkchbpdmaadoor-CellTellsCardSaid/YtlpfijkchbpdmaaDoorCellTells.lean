/-
  CellTells: the walk.
-/
import Derived.Test.YtlpfijkchbpdmaaDoorCellShown
import Derived.Test.YtlpfijkchbpdmaaDoorRising
namespace Go.Proofs.YtlpfijkchbpdmaaDoor
open Go.RowKit

set_option maxRecDepth 100000 in
set_option maxHeartbeats 4000000 in
theorem tells_walk (w : World) (a b : Cel) (la : Option Addr) (len cap : Nat) (l : List Cel) (oa : CelOK a) (ob : CelOK b) (hl : CelsAt w la len l) (hn : len ≤ maxLen) (hm : MaxAt w) :
    Calls Tryd.prog 8 #[cellV a, cellV b, .slice la len cap] w fun e w' => e = .returned (.bool true) ∧ Fp [] w w' := by
  unfold maxLen at hn
  have N2 := Lib.hid shown_any
  obtain ⟨W, hW⟩ : ∃ W, W = ((w.alloc (.cells #[.string a.row, .string a.col, .int .u64 a.ts, .int .u64 a.seq, .bool a.del, .string a.val] 24)).alloc (.cells #[.string b.row, .string b.col, .int .u64 b.ts, .int .u64 b.seq, .bool b.del, .string b.val] 24)) := ⟨_, rfl⟩
  have hfw : Fp [] w W := by rw [hW]; exact (Fp.alloc _ _).alloc' _
  have hb0 : W.heap[w.heap.size]? = some (.cells #[.string a.row, .string a.col, .int .u64 a.ts, .int .u64 a.seq, .bool a.del, .string a.val] 24 (0, 0)) := by
    rw [hW]
    exact heap_alloc_old (heap_alloc_at (by simp) _)
  have hb1 : W.heap[w.heap.size + 1]? = some (.cells #[.string b.row, .string b.col, .int .u64 b.ts, .int .u64 b.seq, .bool b.del, .string b.val] 24 (0, 0)) := by
    rw [hW]
    exact heap_alloc_at (by simp) _
  have hcell : ∀ w', Fp [] W w' → w'.cell? ⟨w.heap.size, 0, none⟩ = some (.string a.row) ∧ w'.cell? ⟨w.heap.size, 1, none⟩ = some (.string a.col) ∧ w'.cell? ⟨w.heap.size, 2, none⟩ = some (.int .u64 a.ts) ∧ w'.cell? ⟨w.heap.size, 3, none⟩ = some (.int .u64 a.seq) ∧ w'.cell? ⟨w.heap.size, 4, none⟩ = some (.bool a.del) ∧ w'.cell? ⟨w.heap.size, 5, none⟩ = some (.string a.val) ∧ w.heap.size < w'.heap.size ∧ w'.cell? ⟨w.heap.size + 1, 0, none⟩ = some (.string b.row) ∧ w'.cell? ⟨w.heap.size + 1, 1, none⟩ = some (.string b.col) ∧ w'.cell? ⟨w.heap.size + 1, 2, none⟩ = some (.int .u64 b.ts) ∧ w'.cell? ⟨w.heap.size + 1, 3, none⟩ = some (.int .u64 b.seq) ∧ w'.cell? ⟨w.heap.size + 1, 4, none⟩ = some (.bool b.del) ∧ w'.cell? ⟨w.heap.size + 1, 5, none⟩ = some (.string b.val) ∧ w.heap.size + 1 < w'.heap.size := by
    intro w' hf
    have h0 := (hf.block _ (heap_lt hb0) (by simp)).trans hb0
    have h1 := (hf.block _ (heap_lt hb1) (by simp)).trans hb1
    exact ⟨cell_of_block h0 0, cell_of_block h0 1, cell_of_block h0 2, cell_of_block h0 3, cell_of_block h0 4, cell_of_block h0 5, heap_lt h0, cell_of_block h1 0, cell_of_block h1 1, cell_of_block h1 2, cell_of_block h1 3, cell_of_block h1 4, cell_of_block h1 5, heap_lt h1⟩
  have HCELL := Lib.hid hcell
  have HFW := Lib.hid hfw
  have HW := Lib.hid hW
  have HMM := Lib.hid (MaxAt.fp hm hfw (by simp))
  clear hcell hfw hW hb0 hb1 hm
  have HL := Lib.hid (hl.fp HFW.out)
  clear hl
  have b_a := fun w => bounded_any a w oa
  have b_b := fun w => bounded_any b w ob
  have p1 := fun w => may_any a w oa
  have p2 := fun w => rmay_any a w oa
  have p3 := fun w => cmp_any a b w
  have p4 := fun w => rcmp_any a b w
  have p5 := fun w => same_any a b w
  have p6 := fun w => rsame_any a b w
  have p7 := fun w h => rising_any w la len cap l h hn
  have p8 := fun w h => rrising_any w la len cap l h hn
  unfold cellV at b_a b_b p1 p2 p3 p4 p5 p6 ⊢
  obtain ⟨u1, hu1⟩ : ∃ x, mayB a = x := ⟨_, rfl⟩
  rw [hu1] at p1 p2
  obtain ⟨u2, hu2⟩ : ∃ x, cmpC a b = x := ⟨_, rfl⟩
  rw [hu2] at p3 p4
  obtain ⟨u3, hu3⟩ : ∃ x, sameC a b = x := ⟨_, rfl⟩
  rw [hu3] at p5 p6
  obtain ⟨u4, hu4⟩ : ∃ x, risC l = x := ⟨_, rfl⟩
  rw [hu4] at p7 p8
  clear hu1 hu2 hu3 hu4
  by_cases h4 : len ≤ 100
  case neg =>
    have h5 : (100 : Int) < (len : Int) := by omega
    have Ba := Lib.hid b_a
    have Bb := Lib.hid b_b
    have P1 := Lib.hid p1
    have P2 := Lib.hid p2
    have P3 := Lib.hid p3
    have P4 := Lib.hid p4
    have P5 := Lib.hid p5
    have P6 := Lib.hid p6
    have P7 := Lib.hid p7
    have P8 := Lib.hid p8
    clear b_a b_b p1 p2 p3 p4 p5 p6 p7 p8
    go_enter Tryd.func8, Tryd.ntmps8
    go_wp2_with (fail)
    rw [← HW.out]
    have HF := Lib.hid (Fp.refl [] W)
    obtain ⟨k00, k01, k02, k03, k04, k05, k06, k10, k11, k12, k13, k14, k15, k16⟩ := HCELL.out _ HF.out
    go_wp2_with (first
        | (go_at_call 11; (with_reducible refine (Ba.out _).mono ?_); rintro e w1 ⟨rfl, hf⟩; have HF := Lib.hid (HF.out.trans hf (by simp)); clear hf k00 k01 k02 k03 k04 k05 k06 k10 k11 k12 k13 k14 k15 k16; obtain ⟨k00, k01, k02, k03, k04, k05, k06, k10, k11, k12, k13, k14, k15, k16⟩ := HCELL.out _ HF.out)
        | (go_at_call 11; (with_reducible refine (Bb.out _).mono ?_); rintro e w1 ⟨rfl, hf⟩; have HF := Lib.hid (HF.out.trans hf (by simp)); clear hf k00 k01 k02 k03 k04 k05 k06 k10 k11 k12 k13 k14 k15 k16; obtain ⟨k00, k01, k02, k03, k04, k05, k06, k10, k11, k12, k13, k14, k15, k16⟩ := HCELL.out _ HF.out)
        | (go_at_call 12; (with_reducible refine (N2.out _ (HMM.out.fp HF.out (by simp))).mono ?_); rintro e w1 ⟨rfl, hf⟩; have HF := Lib.hid (HF.out.trans hf (by simp)); clear hf k00 k01 k02 k03 k04 k05 k06 k10 k11 k12 k13 k14 k15 k16; obtain ⟨k00, k01, k02, k03, k04, k05, k06, k10, k11, k12, k13, k14, k15, k16⟩ := HCELL.out _ HF.out))
    go_ret
    exact ⟨rfl, HFW.out.trans HF.out (by simp)⟩
  have h5 : ¬ (100 : Int) < (len : Int) := by omega
  cases hy1 : bdB a
  · rw [hy1] at b_a
    clear hy1
    have Ba := Lib.hid b_a
    have Bb := Lib.hid b_b
    have P1 := Lib.hid p1
    have P2 := Lib.hid p2
    have P3 := Lib.hid p3
    have P4 := Lib.hid p4
    have P5 := Lib.hid p5
    have P6 := Lib.hid p6
    have P7 := Lib.hid p7
    have P8 := Lib.hid p8
    clear b_a b_b p1 p2 p3 p4 p5 p6 p7 p8
    go_enter Tryd.func8, Tryd.ntmps8
    go_wp2_with (fail)
    rw [← HW.out]
    have HF := Lib.hid (Fp.refl [] W)
    obtain ⟨k00, k01, k02, k03, k04, k05, k06, k10, k11, k12, k13, k14, k15, k16⟩ := HCELL.out _ HF.out
    go_wp2_with (first
        | (go_at_call 11; (with_reducible refine (Ba.out _).mono ?_); rintro e w1 ⟨rfl, hf⟩; have HF := Lib.hid (HF.out.trans hf (by simp)); clear hf k00 k01 k02 k03 k04 k05 k06 k10 k11 k12 k13 k14 k15 k16; obtain ⟨k00, k01, k02, k03, k04, k05, k06, k10, k11, k12, k13, k14, k15, k16⟩ := HCELL.out _ HF.out)
        | (go_at_call 11; (with_reducible refine (Bb.out _).mono ?_); rintro e w1 ⟨rfl, hf⟩; have HF := Lib.hid (HF.out.trans hf (by simp)); clear hf k00 k01 k02 k03 k04 k05 k06 k10 k11 k12 k13 k14 k15 k16; obtain ⟨k00, k01, k02, k03, k04, k05, k06, k10, k11, k12, k13, k14, k15, k16⟩ := HCELL.out _ HF.out)
        | (go_at_call 12; (with_reducible refine (N2.out _ (HMM.out.fp HF.out (by simp))).mono ?_); rintro e w1 ⟨rfl, hf⟩; have HF := Lib.hid (HF.out.trans hf (by simp)); clear hf k00 k01 k02 k03 k04 k05 k06 k10 k11 k12 k13 k14 k15 k16; obtain ⟨k00, k01, k02, k03, k04, k05, k06, k10, k11, k12, k13, k14, k15, k16⟩ := HCELL.out _ HF.out))
    go_ret
    exact ⟨rfl, HFW.out.trans HF.out (by simp)⟩
  rw [hy1] at b_a
  clear hy1
  cases hy2 : bdB b
  · rw [hy2] at b_b
    clear hy2
    have Ba := Lib.hid b_a
    have Bb := Lib.hid b_b
    have P1 := Lib.hid p1
    have P2 := Lib.hid p2
    have P3 := Lib.hid p3
    have P4 := Lib.hid p4
    have P5 := Lib.hid p5
    have P6 := Lib.hid p6
    have P7 := Lib.hid p7
    have P8 := Lib.hid p8
    clear b_a b_b p1 p2 p3 p4 p5 p6 p7 p8
    go_enter Tryd.func8, Tryd.ntmps8
    go_wp2_with (fail)
    rw [← HW.out]
    have HF := Lib.hid (Fp.refl [] W)
    obtain ⟨k00, k01, k02, k03, k04, k05, k06, k10, k11, k12, k13, k14, k15, k16⟩ := HCELL.out _ HF.out
    go_wp2_with (first
        | (go_at_call 11; (with_reducible refine (Ba.out _).mono ?_); rintro e w1 ⟨rfl, hf⟩; have HF := Lib.hid (HF.out.trans hf (by simp)); clear hf k00 k01 k02 k03 k04 k05 k06 k10 k11 k12 k13 k14 k15 k16; obtain ⟨k00, k01, k02, k03, k04, k05, k06, k10, k11, k12, k13, k14, k15, k16⟩ := HCELL.out _ HF.out)
        | (go_at_call 11; (with_reducible refine (Bb.out _).mono ?_); rintro e w1 ⟨rfl, hf⟩; have HF := Lib.hid (HF.out.trans hf (by simp)); clear hf k00 k01 k02 k03 k04 k05 k06 k10 k11 k12 k13 k14 k15 k16; obtain ⟨k00, k01, k02, k03, k04, k05, k06, k10, k11, k12, k13, k14, k15, k16⟩ := HCELL.out _ HF.out)
        | (go_at_call 12; (with_reducible refine (N2.out _ (HMM.out.fp HF.out (by simp))).mono ?_); rintro e w1 ⟨rfl, hf⟩; have HF := Lib.hid (HF.out.trans hf (by simp)); clear hf k00 k01 k02 k03 k04 k05 k06 k10 k11 k12 k13 k14 k15 k16; obtain ⟨k00, k01, k02, k03, k04, k05, k06, k10, k11, k12, k13, k14, k15, k16⟩ := HCELL.out _ HF.out))
    go_ret
    exact ⟨rfl, HFW.out.trans HF.out (by simp)⟩
  rw [hy2] at b_b
  clear hy2
  have Ba := Lib.hid b_a
  have Bb := Lib.hid b_b
  have P1 := Lib.hid p1
  have P2 := Lib.hid p2
  have P3 := Lib.hid p3
  have P4 := Lib.hid p4
  have P5 := Lib.hid p5
  have P6 := Lib.hid p6
  have P7 := Lib.hid p7
  have P8 := Lib.hid p8
  clear b_a b_b p1 p2 p3 p4 p5 p6 p7 p8
  go_enter Tryd.func8, Tryd.ntmps8
  go_wp2_with (fail)
  rw [← HW.out]
  have HF := Lib.hid (Fp.refl [] W)
  obtain ⟨k00, k01, k02, k03, k04, k05, k06, k10, k11, k12, k13, k14, k15, k16⟩ := HCELL.out _ HF.out
  go_wp2_with (first
      | (go_at_call 11; (with_reducible refine (Ba.out _).mono ?_); rintro e w1 ⟨rfl, hf⟩; have HF := Lib.hid (HF.out.trans hf (by simp)); clear hf k00 k01 k02 k03 k04 k05 k06 k10 k11 k12 k13 k14 k15 k16; obtain ⟨k00, k01, k02, k03, k04, k05, k06, k10, k11, k12, k13, k14, k15, k16⟩ := HCELL.out _ HF.out)
      | (go_at_call 11; (with_reducible refine (Bb.out _).mono ?_); rintro e w1 ⟨rfl, hf⟩; have HF := Lib.hid (HF.out.trans hf (by simp)); clear hf k00 k01 k02 k03 k04 k05 k06 k10 k11 k12 k13 k14 k15 k16; obtain ⟨k00, k01, k02, k03, k04, k05, k06, k10, k11, k12, k13, k14, k15, k16⟩ := HCELL.out _ HF.out)
      | (go_at_call 12; (with_reducible refine (N2.out _ (HMM.out.fp HF.out (by simp))).mono ?_); rintro e w1 ⟨rfl, hf⟩; have HF := Lib.hid (HF.out.trans hf (by simp)); clear hf k00 k01 k02 k03 k04 k05 k06 k10 k11 k12 k13 k14 k15 k16; obtain ⟨k00, k01, k02, k03, k04, k05, k06, k10, k11, k12, k13, k14, k15, k16⟩ := HCELL.out _ HF.out))
  refine wp_region_calm (by kernel_rfl) (by kernel_rfl) ?_
  -- 0
  apply ex_plain rfl rfl rfl
  · intro a w hC hA K hK
    have h3 := hA.free 3 _ (by kernel_rfl) rfl
    obtain ⟨k00, k01, k02, k03, k04, k05, k06, k10, k11, k12, k13, k14, k15, k16⟩ := HCELL.out _ (HF.out.trans hC (by simp))
    simp only [Oper.wp, execOp]; go_simp
    exact hK _ hC (Fp.refl _ _)
  -- 1
  apply ex_plain rfl rfl rfl
  · intro a w hC hA K hK
    have h25 : a.tmps[25]?.getD undef = _ := hA.dep 0 25 _ (by kernel_rfl) rfl
    simp only [Oper.wp, execOp]; go_simp
    have hL := HL.out.fp (HF.out.trans hC (by simp))
    first
      | ((with_reducible refine (P1.out _).mono ?_); rintro e w2 ⟨rfl, hf⟩; exact hK _ (hC.trans hf (by simp)) hf)
      | ((with_reducible refine (P2.out _).mono ?_); rintro e w2 ⟨rfl, hf⟩; exact hK _ (hC.trans hf (by simp)) hf)
      | ((with_reducible refine (P3.out _).mono ?_); rintro e w2 ⟨rfl, hf⟩; exact hK _ (hC.trans hf (by simp)) hf)
      | ((with_reducible refine (P4.out _).mono ?_); rintro e w2 ⟨rfl, hf⟩; exact hK _ (hC.trans hf (by simp)) hf)
      | ((with_reducible refine (P5.out _).mono ?_); rintro e w2 ⟨rfl, hf⟩; exact hK _ (hC.trans hf (by simp)) hf)
      | ((with_reducible refine (P6.out _).mono ?_); rintro e w2 ⟨rfl, hf⟩; exact hK _ (hC.trans hf (by simp)) hf)
      | ((with_reducible refine (P7.out _ hL).mono ?_); rintro e w2 ⟨rfl, hf⟩; exact hK _ (hC.trans hf (by simp)) hf)
      | ((with_reducible refine (P8.out _ hL).mono ?_); rintro e w2 ⟨rfl, hf⟩; exact hK _ (hC.trans hf (by simp)) hf)
  -- 2
  apply ex_plain rfl rfl rfl
  · intro a w hC hA K hK
    have h3 := hA.free 3 _ (by kernel_rfl) rfl
    obtain ⟨k00, k01, k02, k03, k04, k05, k06, k10, k11, k12, k13, k14, k15, k16⟩ := HCELL.out _ (HF.out.trans hC (by simp))
    simp only [Oper.wp, execOp]; go_simp
    exact hK _ hC (Fp.refl _ _)
  -- 3
  apply ex_plain rfl rfl rfl
  · intro a w hC hA K hK
    have h27 : a.tmps[27]?.getD undef = _ := hA.dep 2 27 _ (by kernel_rfl) rfl
    simp only [Oper.wp, execOp]; go_simp
    have hL := HL.out.fp (HF.out.trans hC (by simp))
    first
      | ((with_reducible refine (P1.out _).mono ?_); rintro e w2 ⟨rfl, hf⟩; exact hK _ (hC.trans hf (by simp)) hf)
      | ((with_reducible refine (P2.out _).mono ?_); rintro e w2 ⟨rfl, hf⟩; exact hK _ (hC.trans hf (by simp)) hf)
      | ((with_reducible refine (P3.out _).mono ?_); rintro e w2 ⟨rfl, hf⟩; exact hK _ (hC.trans hf (by simp)) hf)
      | ((with_reducible refine (P4.out _).mono ?_); rintro e w2 ⟨rfl, hf⟩; exact hK _ (hC.trans hf (by simp)) hf)
      | ((with_reducible refine (P5.out _).mono ?_); rintro e w2 ⟨rfl, hf⟩; exact hK _ (hC.trans hf (by simp)) hf)
      | ((with_reducible refine (P6.out _).mono ?_); rintro e w2 ⟨rfl, hf⟩; exact hK _ (hC.trans hf (by simp)) hf)
      | ((with_reducible refine (P7.out _ hL).mono ?_); rintro e w2 ⟨rfl, hf⟩; exact hK _ (hC.trans hf (by simp)) hf)
      | ((with_reducible refine (P8.out _ hL).mono ?_); rintro e w2 ⟨rfl, hf⟩; exact hK _ (hC.trans hf (by simp)) hf)
  -- 4
  apply ex_plain rfl rfl rfl
  · intro a w hC hA K hK
    have h26 : a.tmps[26]?.getD undef = _ := hA.dep 1 26 _ (by kernel_rfl) rfl
    have h28 : a.tmps[28]?.getD undef = _ := hA.dep 3 28 _ (by kernel_rfl) rfl
    simp only [Oper.wp, execOp]; go_simp
    exact hK _ hC (Fp.refl _ _)
  -- 5
  apply ex_plain rfl rfl rfl
  · intro a w hC hA K hK
    have h29 : a.tmps[29]?.getD undef = _ := hA.dep 4 29 _ (by kernel_rfl) rfl
    simp only [Oper.wp, execOp]; go_simp
    exact hK _ hC (Fp.refl _ _)
  -- 6
  apply ex_yes 5 30 rfl rfl rfl rfl (by kernel_rfl) rfl rfl
  · intro a w hC hA K hK
    have h3 := hA.free 3 _ (by kernel_rfl) rfl
    obtain ⟨k00, k01, k02, k03, k04, k05, k06, k10, k11, k12, k13, k14, k15, k16⟩ := HCELL.out _ (HF.out.trans hC (by simp))
    simp only [Oper.wp, execOp]; go_simp
    exact hK _ hC (Fp.refl _ _)
  -- 7
  apply ex_yes 5 30 rfl rfl rfl rfl (by kernel_rfl) rfl rfl
  · intro a w hC hA K hK
    have h4 := hA.free 4 _ (by kernel_rfl) rfl
    obtain ⟨k00, k01, k02, k03, k04, k05, k06, k10, k11, k12, k13, k14, k15, k16⟩ := HCELL.out _ (HF.out.trans hC (by simp))
    simp only [Oper.wp, execOp]; go_simp
    exact hK _ hC (Fp.refl _ _)
  -- 8
  apply ex_yes 5 30 rfl rfl rfl rfl (by kernel_rfl) rfl rfl
  · intro a w hC hA K hK
    have h31 : a.tmps[31]?.getD undef = _ := hA.dep 6 31 _ (by kernel_rfl) rfl
    have h32 : a.tmps[32]?.getD undef = _ := hA.dep 7 32 _ (by kernel_rfl) rfl
    simp only [Oper.wp, execOp]; go_simp
    have hL := HL.out.fp (HF.out.trans hC (by simp))
    first
      | ((with_reducible refine (P1.out _).mono ?_); rintro e w2 ⟨rfl, hf⟩; exact hK _ (hC.trans hf (by simp)) hf)
      | ((with_reducible refine (P2.out _).mono ?_); rintro e w2 ⟨rfl, hf⟩; exact hK _ (hC.trans hf (by simp)) hf)
      | ((with_reducible refine (P3.out _).mono ?_); rintro e w2 ⟨rfl, hf⟩; exact hK _ (hC.trans hf (by simp)) hf)
      | ((with_reducible refine (P4.out _).mono ?_); rintro e w2 ⟨rfl, hf⟩; exact hK _ (hC.trans hf (by simp)) hf)
      | ((with_reducible refine (P5.out _).mono ?_); rintro e w2 ⟨rfl, hf⟩; exact hK _ (hC.trans hf (by simp)) hf)
      | ((with_reducible refine (P6.out _).mono ?_); rintro e w2 ⟨rfl, hf⟩; exact hK _ (hC.trans hf (by simp)) hf)
      | ((with_reducible refine (P7.out _ hL).mono ?_); rintro e w2 ⟨rfl, hf⟩; exact hK _ (hC.trans hf (by simp)) hf)
      | ((with_reducible refine (P8.out _ hL).mono ?_); rintro e w2 ⟨rfl, hf⟩; exact hK _ (hC.trans hf (by simp)) hf)
  -- 9
  apply ex_yes 5 30 rfl rfl rfl rfl (by kernel_rfl) rfl rfl
  · intro a w hC hA K hK
    have h3 := hA.free 3 _ (by kernel_rfl) rfl
    obtain ⟨k00, k01, k02, k03, k04, k05, k06, k10, k11, k12, k13, k14, k15, k16⟩ := HCELL.out _ (HF.out.trans hC (by simp))
    simp only [Oper.wp, execOp]; go_simp
    exact hK _ hC (Fp.refl _ _)
  -- 10
  apply ex_yes 5 30 rfl rfl rfl rfl (by kernel_rfl) rfl rfl
  · intro a w hC hA K hK
    have h4 := hA.free 4 _ (by kernel_rfl) rfl
    obtain ⟨k00, k01, k02, k03, k04, k05, k06, k10, k11, k12, k13, k14, k15, k16⟩ := HCELL.out _ (HF.out.trans hC (by simp))
    simp only [Oper.wp, execOp]; go_simp
    exact hK _ hC (Fp.refl _ _)
  -- 11
  apply ex_yes 5 30 rfl rfl rfl rfl (by kernel_rfl) rfl rfl
  · intro a w hC hA K hK
    have h34 : a.tmps[34]?.getD undef = _ := hA.dep 9 34 _ (by kernel_rfl) rfl
    have h35 : a.tmps[35]?.getD undef = _ := hA.dep 10 35 _ (by kernel_rfl) rfl
    simp only [Oper.wp, execOp]; go_simp
    have hL := HL.out.fp (HF.out.trans hC (by simp))
    first
      | ((with_reducible refine (P1.out _).mono ?_); rintro e w2 ⟨rfl, hf⟩; exact hK _ (hC.trans hf (by simp)) hf)
      | ((with_reducible refine (P2.out _).mono ?_); rintro e w2 ⟨rfl, hf⟩; exact hK _ (hC.trans hf (by simp)) hf)
      | ((with_reducible refine (P3.out _).mono ?_); rintro e w2 ⟨rfl, hf⟩; exact hK _ (hC.trans hf (by simp)) hf)
      | ((with_reducible refine (P4.out _).mono ?_); rintro e w2 ⟨rfl, hf⟩; exact hK _ (hC.trans hf (by simp)) hf)
      | ((with_reducible refine (P5.out _).mono ?_); rintro e w2 ⟨rfl, hf⟩; exact hK _ (hC.trans hf (by simp)) hf)
      | ((with_reducible refine (P6.out _).mono ?_); rintro e w2 ⟨rfl, hf⟩; exact hK _ (hC.trans hf (by simp)) hf)
      | ((with_reducible refine (P7.out _ hL).mono ?_); rintro e w2 ⟨rfl, hf⟩; exact hK _ (hC.trans hf (by simp)) hf)
      | ((with_reducible refine (P8.out _ hL).mono ?_); rintro e w2 ⟨rfl, hf⟩; exact hK _ (hC.trans hf (by simp)) hf)
  -- 12
  apply ex_yes 5 30 rfl rfl rfl rfl (by kernel_rfl) rfl rfl
  · intro a w hC hA K hK
    have h33 : a.tmps[33]?.getD undef = _ := hA.dep 8 33 _ (by kernel_rfl) rfl
    have h36 : a.tmps[36]?.getD undef = _ := hA.dep 11 36 _ (by kernel_rfl) rfl
    simp only [Oper.wp, execOp]; go_simp
    exact hK _ hC (Fp.refl _ _)
  -- 13
  apply ex_plain rfl rfl rfl
  · intro a w hC hA K hK
    have h30 : a.tmps[30]?.getD undef = _ := hA.dep 5 30 _ (by kernel_rfl) rfl
    have h37 : a.tmps[37]?.getD undef = _ := hA.dep 12 37 _ (by kernel_rfl) rfl
    simp only [Oper.wp, execOp]; go_simp
    exact hK _ hC (Fp.refl _ _)
  -- 14
  apply ex_plain rfl rfl rfl
  · intro a w hC hA K hK
    have h38 : a.tmps[38]?.getD undef = _ := hA.dep 13 38 _ (by kernel_rfl) rfl
    simp only [Oper.wp, execOp]; go_simp
    exact hK _ hC (Fp.refl _ _)
  -- 15
  apply ex_yes 14 39 rfl rfl rfl rfl (by kernel_rfl) rfl rfl
  · intro a w hC hA K hK
    have h3 := hA.free 3 _ (by kernel_rfl) rfl
    obtain ⟨k00, k01, k02, k03, k04, k05, k06, k10, k11, k12, k13, k14, k15, k16⟩ := HCELL.out _ (HF.out.trans hC (by simp))
    simp only [Oper.wp, execOp]; go_simp
    exact hK _ hC (Fp.refl _ _)
  -- 16
  apply ex_yes 14 39 rfl rfl rfl rfl (by kernel_rfl) rfl rfl
  · intro a w hC hA K hK
    have h4 := hA.free 4 _ (by kernel_rfl) rfl
    obtain ⟨k00, k01, k02, k03, k04, k05, k06, k10, k11, k12, k13, k14, k15, k16⟩ := HCELL.out _ (HF.out.trans hC (by simp))
    simp only [Oper.wp, execOp]; go_simp
    exact hK _ hC (Fp.refl _ _)
  -- 17
  apply ex_yes 14 39 rfl rfl rfl rfl (by kernel_rfl) rfl rfl
  · intro a w hC hA K hK
    have h40 : a.tmps[40]?.getD undef = _ := hA.dep 15 40 _ (by kernel_rfl) rfl
    have h41 : a.tmps[41]?.getD undef = _ := hA.dep 16 41 _ (by kernel_rfl) rfl
    simp only [Oper.wp, execOp]; go_simp
    have hL := HL.out.fp (HF.out.trans hC (by simp))
    first
      | ((with_reducible refine (P1.out _).mono ?_); rintro e w2 ⟨rfl, hf⟩; exact hK _ (hC.trans hf (by simp)) hf)
      | ((with_reducible refine (P2.out _).mono ?_); rintro e w2 ⟨rfl, hf⟩; exact hK _ (hC.trans hf (by simp)) hf)
      | ((with_reducible refine (P3.out _).mono ?_); rintro e w2 ⟨rfl, hf⟩; exact hK _ (hC.trans hf (by simp)) hf)
      | ((with_reducible refine (P4.out _).mono ?_); rintro e w2 ⟨rfl, hf⟩; exact hK _ (hC.trans hf (by simp)) hf)
      | ((with_reducible refine (P5.out _).mono ?_); rintro e w2 ⟨rfl, hf⟩; exact hK _ (hC.trans hf (by simp)) hf)
      | ((with_reducible refine (P6.out _).mono ?_); rintro e w2 ⟨rfl, hf⟩; exact hK _ (hC.trans hf (by simp)) hf)
      | ((with_reducible refine (P7.out _ hL).mono ?_); rintro e w2 ⟨rfl, hf⟩; exact hK _ (hC.trans hf (by simp)) hf)
      | ((with_reducible refine (P8.out _ hL).mono ?_); rintro e w2 ⟨rfl, hf⟩; exact hK _ (hC.trans hf (by simp)) hf)
  -- 18
  apply ex_yes 14 39 rfl rfl rfl rfl (by kernel_rfl) rfl rfl
  · intro a w hC hA K hK
    have h3 := hA.free 3 _ (by kernel_rfl) rfl
    obtain ⟨k00, k01, k02, k03, k04, k05, k06, k10, k11, k12, k13, k14, k15, k16⟩ := HCELL.out _ (HF.out.trans hC (by simp))
    simp only [Oper.wp, execOp]; go_simp
    exact hK _ hC (Fp.refl _ _)
  -- 19
  apply ex_yes 14 39 rfl rfl rfl rfl (by kernel_rfl) rfl rfl
  · intro a w hC hA K hK
    have h4 := hA.free 4 _ (by kernel_rfl) rfl
    obtain ⟨k00, k01, k02, k03, k04, k05, k06, k10, k11, k12, k13, k14, k15, k16⟩ := HCELL.out _ (HF.out.trans hC (by simp))
    simp only [Oper.wp, execOp]; go_simp
    exact hK _ hC (Fp.refl _ _)
  -- 20
  apply ex_yes 14 39 rfl rfl rfl rfl (by kernel_rfl) rfl rfl
  · intro a w hC hA K hK
    have h43 : a.tmps[43]?.getD undef = _ := hA.dep 18 43 _ (by kernel_rfl) rfl
    have h44 : a.tmps[44]?.getD undef = _ := hA.dep 19 44 _ (by kernel_rfl) rfl
    simp only [Oper.wp, execOp]; go_simp
    have hL := HL.out.fp (HF.out.trans hC (by simp))
    first
      | ((with_reducible refine (P1.out _).mono ?_); rintro e w2 ⟨rfl, hf⟩; exact hK _ (hC.trans hf (by simp)) hf)
      | ((with_reducible refine (P2.out _).mono ?_); rintro e w2 ⟨rfl, hf⟩; exact hK _ (hC.trans hf (by simp)) hf)
      | ((with_reducible refine (P3.out _).mono ?_); rintro e w2 ⟨rfl, hf⟩; exact hK _ (hC.trans hf (by simp)) hf)
      | ((with_reducible refine (P4.out _).mono ?_); rintro e w2 ⟨rfl, hf⟩; exact hK _ (hC.trans hf (by simp)) hf)
      | ((with_reducible refine (P5.out _).mono ?_); rintro e w2 ⟨rfl, hf⟩; exact hK _ (hC.trans hf (by simp)) hf)
      | ((with_reducible refine (P6.out _).mono ?_); rintro e w2 ⟨rfl, hf⟩; exact hK _ (hC.trans hf (by simp)) hf)
      | ((with_reducible refine (P7.out _ hL).mono ?_); rintro e w2 ⟨rfl, hf⟩; exact hK _ (hC.trans hf (by simp)) hf)
      | ((with_reducible refine (P8.out _ hL).mono ?_); rintro e w2 ⟨rfl, hf⟩; exact hK _ (hC.trans hf (by simp)) hf)
  -- 21
  apply ex_yes 14 39 rfl rfl rfl rfl (by kernel_rfl) rfl rfl
  · intro a w hC hA K hK
    have h42 : a.tmps[42]?.getD undef = _ := hA.dep 17 42 _ (by kernel_rfl) rfl
    have h45 : a.tmps[45]?.getD undef = _ := hA.dep 20 45 _ (by kernel_rfl) rfl
    simp only [Oper.wp, execOp]; go_simp
    exact hK _ hC (Fp.refl _ _)
  -- 22
  apply ex_plain rfl rfl rfl
  · intro a w hC hA K hK
    have h39 : a.tmps[39]?.getD undef = _ := hA.dep 14 39 _ (by kernel_rfl) rfl
    have h46 : a.tmps[46]?.getD undef = _ := hA.dep 21 46 _ (by kernel_rfl) rfl
    simp only [Oper.wp, execOp]; go_simp
    exact hK _ hC (Fp.refl _ _)
  -- 23
  apply ex_plain rfl rfl rfl
  · intro a w hC hA K hK
    have h47 : a.tmps[47]?.getD undef = _ := hA.dep 22 47 _ (by kernel_rfl) rfl
    simp only [Oper.wp, execOp]; go_simp
    exact hK _ hC (Fp.refl _ _)
  -- 24
  apply ex_yes 23 48 rfl rfl rfl rfl (by kernel_rfl) rfl rfl
  · intro a w hC hA K hK
    have h2 := hA.free 2 _ (by kernel_rfl) rfl
    simp only [Oper.wp, execOp]; go_simp
    exact hK _ hC (Fp.refl _ _)
  -- 25
  apply ex_yes 23 48 rfl rfl rfl rfl (by kernel_rfl) rfl rfl
  · intro a w hC hA K hK
    have h49 : a.tmps[49]?.getD undef = _ := hA.dep 24 49 _ (by kernel_rfl) rfl
    simp only [Oper.wp, execOp]; go_simp
    have hL := HL.out.fp (HF.out.trans hC (by simp))
    first
      | ((with_reducible refine (P1.out _).mono ?_); rintro e w2 ⟨rfl, hf⟩; exact hK _ (hC.trans hf (by simp)) hf)
      | ((with_reducible refine (P2.out _).mono ?_); rintro e w2 ⟨rfl, hf⟩; exact hK _ (hC.trans hf (by simp)) hf)
      | ((with_reducible refine (P3.out _).mono ?_); rintro e w2 ⟨rfl, hf⟩; exact hK _ (hC.trans hf (by simp)) hf)
      | ((with_reducible refine (P4.out _).mono ?_); rintro e w2 ⟨rfl, hf⟩; exact hK _ (hC.trans hf (by simp)) hf)
      | ((with_reducible refine (P5.out _).mono ?_); rintro e w2 ⟨rfl, hf⟩; exact hK _ (hC.trans hf (by simp)) hf)
      | ((with_reducible refine (P6.out _).mono ?_); rintro e w2 ⟨rfl, hf⟩; exact hK _ (hC.trans hf (by simp)) hf)
      | ((with_reducible refine (P7.out _ hL).mono ?_); rintro e w2 ⟨rfl, hf⟩; exact hK _ (hC.trans hf (by simp)) hf)
      | ((with_reducible refine (P8.out _ hL).mono ?_); rintro e w2 ⟨rfl, hf⟩; exact hK _ (hC.trans hf (by simp)) hf)
  -- 26
  apply ex_yes 23 48 rfl rfl rfl rfl (by kernel_rfl) rfl rfl
  · intro a w hC hA K hK
    have h2 := hA.free 2 _ (by kernel_rfl) rfl
    simp only [Oper.wp, execOp]; go_simp
    exact hK _ hC (Fp.refl _ _)
  -- 27
  apply ex_yes 23 48 rfl rfl rfl rfl (by kernel_rfl) rfl rfl
  · intro a w hC hA K hK
    have h51 : a.tmps[51]?.getD undef = _ := hA.dep 26 51 _ (by kernel_rfl) rfl
    simp only [Oper.wp, execOp]; go_simp
    have hL := HL.out.fp (HF.out.trans hC (by simp))
    first
      | ((with_reducible refine (P1.out _).mono ?_); rintro e w2 ⟨rfl, hf⟩; exact hK _ (hC.trans hf (by simp)) hf)
      | ((with_reducible refine (P2.out _).mono ?_); rintro e w2 ⟨rfl, hf⟩; exact hK _ (hC.trans hf (by simp)) hf)
      | ((with_reducible refine (P3.out _).mono ?_); rintro e w2 ⟨rfl, hf⟩; exact hK _ (hC.trans hf (by simp)) hf)
      | ((with_reducible refine (P4.out _).mono ?_); rintro e w2 ⟨rfl, hf⟩; exact hK _ (hC.trans hf (by simp)) hf)
      | ((with_reducible refine (P5.out _).mono ?_); rintro e w2 ⟨rfl, hf⟩; exact hK _ (hC.trans hf (by simp)) hf)
      | ((with_reducible refine (P6.out _).mono ?_); rintro e w2 ⟨rfl, hf⟩; exact hK _ (hC.trans hf (by simp)) hf)
      | ((with_reducible refine (P7.out _ hL).mono ?_); rintro e w2 ⟨rfl, hf⟩; exact hK _ (hC.trans hf (by simp)) hf)
      | ((with_reducible refine (P8.out _ hL).mono ?_); rintro e w2 ⟨rfl, hf⟩; exact hK _ (hC.trans hf (by simp)) hf)
  -- 28
  apply ex_yes 23 48 rfl rfl rfl rfl (by kernel_rfl) rfl rfl
  · intro a w hC hA K hK
    have h50 : a.tmps[50]?.getD undef = _ := hA.dep 25 50 _ (by kernel_rfl) rfl
    have h52 : a.tmps[52]?.getD undef = _ := hA.dep 27 52 _ (by kernel_rfl) rfl
    simp only [Oper.wp, execOp]; go_simp
    exact hK _ hC (Fp.refl _ _)
  -- 29
  apply ex_plain rfl rfl rfl
  · intro a w hC hA K hK
    have h48 : a.tmps[48]?.getD undef = _ := hA.dep 23 48 _ (by kernel_rfl) rfl
    have h53 : a.tmps[53]?.getD undef = _ := hA.dep 28 53 _ (by kernel_rfl) rfl
    simp only [Oper.wp, execOp]; go_simp
    exact hK _ hC (Fp.refl _ _)
  -- 30
  apply ex_plain rfl rfl rfl
  · intro a w hC hA K hK
    have h54 : a.tmps[54]?.getD undef = _ := hA.dep 29 54 _ (by kernel_rfl) rfl
    simp only [Oper.wp, execOp]; go_simp
    exact hK _ hC (Fp.refl _ _)
  refine ⟨?_, ?_⟩
  · repeat (first | exact trivial | refine stab_val _ ?_ | refine ⟨fun w1 w2 v _ hf ⟨g, h1, h2⟩ => ⟨g, h1, (hf.block g (heap_lt h2) (by simp)).trans h2⟩, ?_⟩)
  · intro w' hC
    simp only [List.reverse_cons, List.reverse_nil, List.nil_append, List.cons_append]
    iterate 31 (refine all_val ?_)
    refine all_nil ?_
    simp only [putAll, Act.put, List.setIfInBounds_toArray, List.set_cons_succ, List.set_cons_zero]
    have HF := Lib.hid (HF.out.trans hC (by simp))
    clear hC k00 k01 k02 k03 k04 k05 k06 k10 k11 k12 k13 k14 k15 k16
    go_wp2_with (fail)
    go_ret
    exact ⟨rfl, HFW.out.trans HF.out (by simp)⟩
end Go.Proofs.YtlpfijkchbpdmaaDoor
