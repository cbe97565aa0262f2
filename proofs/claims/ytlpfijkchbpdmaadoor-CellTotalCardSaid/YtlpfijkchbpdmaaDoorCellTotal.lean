/-
  CellTotal: the walk.
-/
import Derived.Test.YtlpfijkchbpdmaaDoorCellShown
import Derived.Test.YtlpfijkchbpdmaaDoorCellLaw3
import Derived.IntWalk
namespace Go.Proofs.YtlpfijkchbpdmaaDoor
open Go.RowKit

set_option maxRecDepth 100000 in
set_option maxHeartbeats 4000000 in
theorem total_walk (w : World) (a b c : Cel) (oa : CelOK a) (ob : CelOK b) (oc : CelOK c) (hm : MaxAt w) :
    Calls Tryd.prog 5 #[cellV a, cellV b, cellV c] w fun e w' => e = .returned (.bool true) ∧ Fp [] w w' := by
  have N2 := Lib.hid shown_any
  obtain ⟨W, hW⟩ : ∃ W, W = (((w.alloc (.cells #[.string a.row, .string a.col, .int .u64 a.ts, .int .u64 a.seq, .bool a.del, .string a.val] 24)).alloc (.cells #[.string b.row, .string b.col, .int .u64 b.ts, .int .u64 b.seq, .bool b.del, .string b.val] 24)).alloc (.cells #[.string c.row, .string c.col, .int .u64 c.ts, .int .u64 c.seq, .bool c.del, .string c.val] 24)) := ⟨_, rfl⟩
  have hfw : Fp [] w W := by rw [hW]; exact ((Fp.alloc _ _).alloc' _).alloc' _
  have hb0 : W.heap[w.heap.size]? = some (.cells #[.string a.row, .string a.col, .int .u64 a.ts, .int .u64 a.seq, .bool a.del, .string a.val] 24 (0, 0)) := by
    rw [hW]
    exact heap_alloc_old (heap_alloc_old (heap_alloc_at (by simp) _))
  have hb1 : W.heap[w.heap.size + 1]? = some (.cells #[.string b.row, .string b.col, .int .u64 b.ts, .int .u64 b.seq, .bool b.del, .string b.val] 24 (0, 0)) := by
    rw [hW]
    exact heap_alloc_old (heap_alloc_at (by simp) _)
  have hb2 : W.heap[w.heap.size + 2]? = some (.cells #[.string c.row, .string c.col, .int .u64 c.ts, .int .u64 c.seq, .bool c.del, .string c.val] 24 (0, 0)) := by
    rw [hW]
    exact heap_alloc_at (by simp) _
  have hcell : ∀ w', Fp [] W w' → w'.cell? ⟨w.heap.size, 0, none⟩ = some (.string a.row) ∧ w'.cell? ⟨w.heap.size, 1, none⟩ = some (.string a.col) ∧ w'.cell? ⟨w.heap.size, 2, none⟩ = some (.int .u64 a.ts) ∧ w'.cell? ⟨w.heap.size, 3, none⟩ = some (.int .u64 a.seq) ∧ w'.cell? ⟨w.heap.size, 4, none⟩ = some (.bool a.del) ∧ w'.cell? ⟨w.heap.size, 5, none⟩ = some (.string a.val) ∧ w.heap.size < w'.heap.size ∧ w'.cell? ⟨w.heap.size + 1, 0, none⟩ = some (.string b.row) ∧ w'.cell? ⟨w.heap.size + 1, 1, none⟩ = some (.string b.col) ∧ w'.cell? ⟨w.heap.size + 1, 2, none⟩ = some (.int .u64 b.ts) ∧ w'.cell? ⟨w.heap.size + 1, 3, none⟩ = some (.int .u64 b.seq) ∧ w'.cell? ⟨w.heap.size + 1, 4, none⟩ = some (.bool b.del) ∧ w'.cell? ⟨w.heap.size + 1, 5, none⟩ = some (.string b.val) ∧ w.heap.size + 1 < w'.heap.size ∧ w'.cell? ⟨w.heap.size + 2, 0, none⟩ = some (.string c.row) ∧ w'.cell? ⟨w.heap.size + 2, 1, none⟩ = some (.string c.col) ∧ w'.cell? ⟨w.heap.size + 2, 2, none⟩ = some (.int .u64 c.ts) ∧ w'.cell? ⟨w.heap.size + 2, 3, none⟩ = some (.int .u64 c.seq) ∧ w'.cell? ⟨w.heap.size + 2, 4, none⟩ = some (.bool c.del) ∧ w'.cell? ⟨w.heap.size + 2, 5, none⟩ = some (.string c.val) ∧ w.heap.size + 2 < w'.heap.size := by
    intro w' hf
    have h0 := (hf.block _ (heap_lt hb0) (by simp)).trans hb0
    have h1 := (hf.block _ (heap_lt hb1) (by simp)).trans hb1
    have h2 := (hf.block _ (heap_lt hb2) (by simp)).trans hb2
    exact ⟨cell_of_block h0 0, cell_of_block h0 1, cell_of_block h0 2, cell_of_block h0 3, cell_of_block h0 4, cell_of_block h0 5, heap_lt h0, cell_of_block h1 0, cell_of_block h1 1, cell_of_block h1 2, cell_of_block h1 3, cell_of_block h1 4, cell_of_block h1 5, heap_lt h1, cell_of_block h2 0, cell_of_block h2 1, cell_of_block h2 2, cell_of_block h2 3, cell_of_block h2 4, cell_of_block h2 5, heap_lt h2⟩
  have HCELL := Lib.hid hcell
  have HFW := Lib.hid hfw
  have HW := Lib.hid hW
  have HMM := Lib.hid (MaxAt.fp hm hfw (by simp))
  clear hcell hfw hW hb0 hb1 hb2 hm
  have b_a := fun w => bounded_any a w oa
  have b_b := fun w => bounded_any b w ob
  have b_c := fun w => bounded_any c w oc
  have c_ab := fun w => cmp_any a b w
  have c_ba := fun w => cmp_any b a w
  have c_aa := fun w => cmp_any a a w
  have c_bc := fun w => cmp_any b c w
  have c_ac := fun w => cmp_any a c w
  have z1 := cmpC_self a oa
  have z2 := cmpC_neg a b oa ob
  have z3 := cmpC_trans a b c oa ob oc
  have r1 := cmpC_range a b oa ob
  have r2 := cmpC_range b c ob oc
  have r3 := cmpC_range a c oa oc
  rw [z1] at c_aa
  rw [z2] at c_ba
  unfold cellV at b_a b_b b_c c_ab c_ba c_aa c_bc c_ac ⊢
  obtain ⟨xab, hab⟩ : ∃ x, cmpC a b = x := ⟨_, rfl⟩
  obtain ⟨xbc, hbc⟩ : ∃ x, cmpC b c = x := ⟨_, rfl⟩
  obtain ⟨xac, hac⟩ : ∃ x, cmpC a c = x := ⟨_, rfl⟩
  obtain ⟨xba, hba⟩ : ∃ x, x = -xab := ⟨_, rfl⟩
  rw [hab] at c_ab c_ba z3 r1
  rw [← hba] at c_ba
  rw [hbc] at c_bc z3 r2
  rw [hac] at c_ac z3 r3
  clear z1 z2 hab hbc hac
  obtain ⟨y1, hy1⟩ : ∃ y, bdB a = y := ⟨_, rfl⟩
  obtain ⟨y2, hy2⟩ : ∃ y, bdB b = y := ⟨_, rfl⟩
  obtain ⟨y3, hy3⟩ : ∃ y, bdB c = y := ⟨_, rfl⟩
  rw [hy1] at b_a
  rw [hy2] at b_b
  rw [hy3] at b_c
  clear hy1 hy2 hy3
  cases y1
  · have Ba := Lib.hid b_a
    have Bb := Lib.hid b_b
    have Bc := Lib.hid b_c
    have Cab := Lib.hid c_ab
    have Cba := Lib.hid c_ba
    have Caa := Lib.hid c_aa
    have Cbc := Lib.hid c_bc
    have Cac := Lib.hid c_ac
    clear b_a b_b b_c c_ab c_ba c_aa c_bc c_ac
    clear r1 r2 r3 z3
    go_enter Tryd.func5, Tryd.ntmps5
    go_wp2_with (fail)
    rw [← HW.out]
    have HF := Lib.hid (Fp.refl [] W)
    obtain ⟨k00, k01, k02, k03, k04, k05, k06, k10, k11, k12, k13, k14, k15, k16, k20, k21, k22, k23, k24, k25, k26⟩ := HCELL.out _ HF.out
    go_wp2_with (first
        | (go_at_call 11; (with_reducible refine (Ba.out _).mono ?_); rintro e w1 ⟨rfl, hf⟩; have HF := Lib.hid (HF.out.trans hf (by simp)); clear hf k00 k01 k02 k03 k04 k05 k06 k10 k11 k12 k13 k14 k15 k16 k20 k21 k22 k23 k24 k25 k26; obtain ⟨k00, k01, k02, k03, k04, k05, k06, k10, k11, k12, k13, k14, k15, k16, k20, k21, k22, k23, k24, k25, k26⟩ := HCELL.out _ HF.out)
        | (go_at_call 11; (with_reducible refine (Bb.out _).mono ?_); rintro e w1 ⟨rfl, hf⟩; have HF := Lib.hid (HF.out.trans hf (by simp)); clear hf k00 k01 k02 k03 k04 k05 k06 k10 k11 k12 k13 k14 k15 k16 k20 k21 k22 k23 k24 k25 k26; obtain ⟨k00, k01, k02, k03, k04, k05, k06, k10, k11, k12, k13, k14, k15, k16, k20, k21, k22, k23, k24, k25, k26⟩ := HCELL.out _ HF.out)
        | (go_at_call 11; (with_reducible refine (Bc.out _).mono ?_); rintro e w1 ⟨rfl, hf⟩; have HF := Lib.hid (HF.out.trans hf (by simp)); clear hf k00 k01 k02 k03 k04 k05 k06 k10 k11 k12 k13 k14 k15 k16 k20 k21 k22 k23 k24 k25 k26; obtain ⟨k00, k01, k02, k03, k04, k05, k06, k10, k11, k12, k13, k14, k15, k16, k20, k21, k22, k23, k24, k25, k26⟩ := HCELL.out _ HF.out)
        | (go_at_call 12; (with_reducible refine (N2.out _ (HMM.out.fp HF.out (by simp))).mono ?_); rintro e w1 ⟨rfl, hf⟩; have HF := Lib.hid (HF.out.trans hf (by simp)); clear hf k00 k01 k02 k03 k04 k05 k06 k10 k11 k12 k13 k14 k15 k16 k20 k21 k22 k23 k24 k25 k26; obtain ⟨k00, k01, k02, k03, k04, k05, k06, k10, k11, k12, k13, k14, k15, k16, k20, k21, k22, k23, k24, k25, k26⟩ := HCELL.out _ HF.out)
        | (go_at_call 19; (with_reducible refine (Cab.out _).mono ?_); rintro e w1 ⟨rfl, hf⟩; have HF := Lib.hid (HF.out.trans hf (by simp)); clear hf k00 k01 k02 k03 k04 k05 k06 k10 k11 k12 k13 k14 k15 k16 k20 k21 k22 k23 k24 k25 k26; obtain ⟨k00, k01, k02, k03, k04, k05, k06, k10, k11, k12, k13, k14, k15, k16, k20, k21, k22, k23, k24, k25, k26⟩ := HCELL.out _ HF.out)
        | (go_at_call 19; (with_reducible refine (Cba.out _).mono ?_); rintro e w1 ⟨rfl, hf⟩; have HF := Lib.hid (HF.out.trans hf (by simp)); clear hf k00 k01 k02 k03 k04 k05 k06 k10 k11 k12 k13 k14 k15 k16 k20 k21 k22 k23 k24 k25 k26; obtain ⟨k00, k01, k02, k03, k04, k05, k06, k10, k11, k12, k13, k14, k15, k16, k20, k21, k22, k23, k24, k25, k26⟩ := HCELL.out _ HF.out)
        | (go_at_call 19; (with_reducible refine (Caa.out _).mono ?_); rintro e w1 ⟨rfl, hf⟩; have HF := Lib.hid (HF.out.trans hf (by simp)); clear hf k00 k01 k02 k03 k04 k05 k06 k10 k11 k12 k13 k14 k15 k16 k20 k21 k22 k23 k24 k25 k26; obtain ⟨k00, k01, k02, k03, k04, k05, k06, k10, k11, k12, k13, k14, k15, k16, k20, k21, k22, k23, k24, k25, k26⟩ := HCELL.out _ HF.out)
        | (go_at_call 19; (with_reducible refine (Cbc.out _).mono ?_); rintro e w1 ⟨rfl, hf⟩; have HF := Lib.hid (HF.out.trans hf (by simp)); clear hf k00 k01 k02 k03 k04 k05 k06 k10 k11 k12 k13 k14 k15 k16 k20 k21 k22 k23 k24 k25 k26; obtain ⟨k00, k01, k02, k03, k04, k05, k06, k10, k11, k12, k13, k14, k15, k16, k20, k21, k22, k23, k24, k25, k26⟩ := HCELL.out _ HF.out)
        | (go_at_call 19; (with_reducible refine (Cac.out _).mono ?_); rintro e w1 ⟨rfl, hf⟩; have HF := Lib.hid (HF.out.trans hf (by simp)); clear hf k00 k01 k02 k03 k04 k05 k06 k10 k11 k12 k13 k14 k15 k16 k20 k21 k22 k23 k24 k25 k26; obtain ⟨k00, k01, k02, k03, k04, k05, k06, k10, k11, k12, k13, k14, k15, k16, k20, k21, k22, k23, k24, k25, k26⟩ := HCELL.out _ HF.out))
    go_ret
    exact ⟨rfl, HFW.out.trans HF.out (by simp)⟩
  cases y2
  · have Ba := Lib.hid b_a
    have Bb := Lib.hid b_b
    have Bc := Lib.hid b_c
    have Cab := Lib.hid c_ab
    have Cba := Lib.hid c_ba
    have Caa := Lib.hid c_aa
    have Cbc := Lib.hid c_bc
    have Cac := Lib.hid c_ac
    clear b_a b_b b_c c_ab c_ba c_aa c_bc c_ac
    clear r1 r2 r3 z3
    go_enter Tryd.func5, Tryd.ntmps5
    go_wp2_with (fail)
    rw [← HW.out]
    have HF := Lib.hid (Fp.refl [] W)
    obtain ⟨k00, k01, k02, k03, k04, k05, k06, k10, k11, k12, k13, k14, k15, k16, k20, k21, k22, k23, k24, k25, k26⟩ := HCELL.out _ HF.out
    go_wp2_with (first
        | (go_at_call 11; (with_reducible refine (Ba.out _).mono ?_); rintro e w1 ⟨rfl, hf⟩; have HF := Lib.hid (HF.out.trans hf (by simp)); clear hf k00 k01 k02 k03 k04 k05 k06 k10 k11 k12 k13 k14 k15 k16 k20 k21 k22 k23 k24 k25 k26; obtain ⟨k00, k01, k02, k03, k04, k05, k06, k10, k11, k12, k13, k14, k15, k16, k20, k21, k22, k23, k24, k25, k26⟩ := HCELL.out _ HF.out)
        | (go_at_call 11; (with_reducible refine (Bb.out _).mono ?_); rintro e w1 ⟨rfl, hf⟩; have HF := Lib.hid (HF.out.trans hf (by simp)); clear hf k00 k01 k02 k03 k04 k05 k06 k10 k11 k12 k13 k14 k15 k16 k20 k21 k22 k23 k24 k25 k26; obtain ⟨k00, k01, k02, k03, k04, k05, k06, k10, k11, k12, k13, k14, k15, k16, k20, k21, k22, k23, k24, k25, k26⟩ := HCELL.out _ HF.out)
        | (go_at_call 11; (with_reducible refine (Bc.out _).mono ?_); rintro e w1 ⟨rfl, hf⟩; have HF := Lib.hid (HF.out.trans hf (by simp)); clear hf k00 k01 k02 k03 k04 k05 k06 k10 k11 k12 k13 k14 k15 k16 k20 k21 k22 k23 k24 k25 k26; obtain ⟨k00, k01, k02, k03, k04, k05, k06, k10, k11, k12, k13, k14, k15, k16, k20, k21, k22, k23, k24, k25, k26⟩ := HCELL.out _ HF.out)
        | (go_at_call 12; (with_reducible refine (N2.out _ (HMM.out.fp HF.out (by simp))).mono ?_); rintro e w1 ⟨rfl, hf⟩; have HF := Lib.hid (HF.out.trans hf (by simp)); clear hf k00 k01 k02 k03 k04 k05 k06 k10 k11 k12 k13 k14 k15 k16 k20 k21 k22 k23 k24 k25 k26; obtain ⟨k00, k01, k02, k03, k04, k05, k06, k10, k11, k12, k13, k14, k15, k16, k20, k21, k22, k23, k24, k25, k26⟩ := HCELL.out _ HF.out)
        | (go_at_call 19; (with_reducible refine (Cab.out _).mono ?_); rintro e w1 ⟨rfl, hf⟩; have HF := Lib.hid (HF.out.trans hf (by simp)); clear hf k00 k01 k02 k03 k04 k05 k06 k10 k11 k12 k13 k14 k15 k16 k20 k21 k22 k23 k24 k25 k26; obtain ⟨k00, k01, k02, k03, k04, k05, k06, k10, k11, k12, k13, k14, k15, k16, k20, k21, k22, k23, k24, k25, k26⟩ := HCELL.out _ HF.out)
        | (go_at_call 19; (with_reducible refine (Cba.out _).mono ?_); rintro e w1 ⟨rfl, hf⟩; have HF := Lib.hid (HF.out.trans hf (by simp)); clear hf k00 k01 k02 k03 k04 k05 k06 k10 k11 k12 k13 k14 k15 k16 k20 k21 k22 k23 k24 k25 k26; obtain ⟨k00, k01, k02, k03, k04, k05, k06, k10, k11, k12, k13, k14, k15, k16, k20, k21, k22, k23, k24, k25, k26⟩ := HCELL.out _ HF.out)
        | (go_at_call 19; (with_reducible refine (Caa.out _).mono ?_); rintro e w1 ⟨rfl, hf⟩; have HF := Lib.hid (HF.out.trans hf (by simp)); clear hf k00 k01 k02 k03 k04 k05 k06 k10 k11 k12 k13 k14 k15 k16 k20 k21 k22 k23 k24 k25 k26; obtain ⟨k00, k01, k02, k03, k04, k05, k06, k10, k11, k12, k13, k14, k15, k16, k20, k21, k22, k23, k24, k25, k26⟩ := HCELL.out _ HF.out)
        | (go_at_call 19; (with_reducible refine (Cbc.out _).mono ?_); rintro e w1 ⟨rfl, hf⟩; have HF := Lib.hid (HF.out.trans hf (by simp)); clear hf k00 k01 k02 k03 k04 k05 k06 k10 k11 k12 k13 k14 k15 k16 k20 k21 k22 k23 k24 k25 k26; obtain ⟨k00, k01, k02, k03, k04, k05, k06, k10, k11, k12, k13, k14, k15, k16, k20, k21, k22, k23, k24, k25, k26⟩ := HCELL.out _ HF.out)
        | (go_at_call 19; (with_reducible refine (Cac.out _).mono ?_); rintro e w1 ⟨rfl, hf⟩; have HF := Lib.hid (HF.out.trans hf (by simp)); clear hf k00 k01 k02 k03 k04 k05 k06 k10 k11 k12 k13 k14 k15 k16 k20 k21 k22 k23 k24 k25 k26; obtain ⟨k00, k01, k02, k03, k04, k05, k06, k10, k11, k12, k13, k14, k15, k16, k20, k21, k22, k23, k24, k25, k26⟩ := HCELL.out _ HF.out))
    go_ret
    exact ⟨rfl, HFW.out.trans HF.out (by simp)⟩
  cases y3
  · have Ba := Lib.hid b_a
    have Bb := Lib.hid b_b
    have Bc := Lib.hid b_c
    have Cab := Lib.hid c_ab
    have Cba := Lib.hid c_ba
    have Caa := Lib.hid c_aa
    have Cbc := Lib.hid c_bc
    have Cac := Lib.hid c_ac
    clear b_a b_b b_c c_ab c_ba c_aa c_bc c_ac
    clear r1 r2 r3 z3
    go_enter Tryd.func5, Tryd.ntmps5
    go_wp2_with (fail)
    rw [← HW.out]
    have HF := Lib.hid (Fp.refl [] W)
    obtain ⟨k00, k01, k02, k03, k04, k05, k06, k10, k11, k12, k13, k14, k15, k16, k20, k21, k22, k23, k24, k25, k26⟩ := HCELL.out _ HF.out
    go_wp2_with (first
        | (go_at_call 11; (with_reducible refine (Ba.out _).mono ?_); rintro e w1 ⟨rfl, hf⟩; have HF := Lib.hid (HF.out.trans hf (by simp)); clear hf k00 k01 k02 k03 k04 k05 k06 k10 k11 k12 k13 k14 k15 k16 k20 k21 k22 k23 k24 k25 k26; obtain ⟨k00, k01, k02, k03, k04, k05, k06, k10, k11, k12, k13, k14, k15, k16, k20, k21, k22, k23, k24, k25, k26⟩ := HCELL.out _ HF.out)
        | (go_at_call 11; (with_reducible refine (Bb.out _).mono ?_); rintro e w1 ⟨rfl, hf⟩; have HF := Lib.hid (HF.out.trans hf (by simp)); clear hf k00 k01 k02 k03 k04 k05 k06 k10 k11 k12 k13 k14 k15 k16 k20 k21 k22 k23 k24 k25 k26; obtain ⟨k00, k01, k02, k03, k04, k05, k06, k10, k11, k12, k13, k14, k15, k16, k20, k21, k22, k23, k24, k25, k26⟩ := HCELL.out _ HF.out)
        | (go_at_call 11; (with_reducible refine (Bc.out _).mono ?_); rintro e w1 ⟨rfl, hf⟩; have HF := Lib.hid (HF.out.trans hf (by simp)); clear hf k00 k01 k02 k03 k04 k05 k06 k10 k11 k12 k13 k14 k15 k16 k20 k21 k22 k23 k24 k25 k26; obtain ⟨k00, k01, k02, k03, k04, k05, k06, k10, k11, k12, k13, k14, k15, k16, k20, k21, k22, k23, k24, k25, k26⟩ := HCELL.out _ HF.out)
        | (go_at_call 12; (with_reducible refine (N2.out _ (HMM.out.fp HF.out (by simp))).mono ?_); rintro e w1 ⟨rfl, hf⟩; have HF := Lib.hid (HF.out.trans hf (by simp)); clear hf k00 k01 k02 k03 k04 k05 k06 k10 k11 k12 k13 k14 k15 k16 k20 k21 k22 k23 k24 k25 k26; obtain ⟨k00, k01, k02, k03, k04, k05, k06, k10, k11, k12, k13, k14, k15, k16, k20, k21, k22, k23, k24, k25, k26⟩ := HCELL.out _ HF.out)
        | (go_at_call 19; (with_reducible refine (Cab.out _).mono ?_); rintro e w1 ⟨rfl, hf⟩; have HF := Lib.hid (HF.out.trans hf (by simp)); clear hf k00 k01 k02 k03 k04 k05 k06 k10 k11 k12 k13 k14 k15 k16 k20 k21 k22 k23 k24 k25 k26; obtain ⟨k00, k01, k02, k03, k04, k05, k06, k10, k11, k12, k13, k14, k15, k16, k20, k21, k22, k23, k24, k25, k26⟩ := HCELL.out _ HF.out)
        | (go_at_call 19; (with_reducible refine (Cba.out _).mono ?_); rintro e w1 ⟨rfl, hf⟩; have HF := Lib.hid (HF.out.trans hf (by simp)); clear hf k00 k01 k02 k03 k04 k05 k06 k10 k11 k12 k13 k14 k15 k16 k20 k21 k22 k23 k24 k25 k26; obtain ⟨k00, k01, k02, k03, k04, k05, k06, k10, k11, k12, k13, k14, k15, k16, k20, k21, k22, k23, k24, k25, k26⟩ := HCELL.out _ HF.out)
        | (go_at_call 19; (with_reducible refine (Caa.out _).mono ?_); rintro e w1 ⟨rfl, hf⟩; have HF := Lib.hid (HF.out.trans hf (by simp)); clear hf k00 k01 k02 k03 k04 k05 k06 k10 k11 k12 k13 k14 k15 k16 k20 k21 k22 k23 k24 k25 k26; obtain ⟨k00, k01, k02, k03, k04, k05, k06, k10, k11, k12, k13, k14, k15, k16, k20, k21, k22, k23, k24, k25, k26⟩ := HCELL.out _ HF.out)
        | (go_at_call 19; (with_reducible refine (Cbc.out _).mono ?_); rintro e w1 ⟨rfl, hf⟩; have HF := Lib.hid (HF.out.trans hf (by simp)); clear hf k00 k01 k02 k03 k04 k05 k06 k10 k11 k12 k13 k14 k15 k16 k20 k21 k22 k23 k24 k25 k26; obtain ⟨k00, k01, k02, k03, k04, k05, k06, k10, k11, k12, k13, k14, k15, k16, k20, k21, k22, k23, k24, k25, k26⟩ := HCELL.out _ HF.out)
        | (go_at_call 19; (with_reducible refine (Cac.out _).mono ?_); rintro e w1 ⟨rfl, hf⟩; have HF := Lib.hid (HF.out.trans hf (by simp)); clear hf k00 k01 k02 k03 k04 k05 k06 k10 k11 k12 k13 k14 k15 k16 k20 k21 k22 k23 k24 k25 k26; obtain ⟨k00, k01, k02, k03, k04, k05, k06, k10, k11, k12, k13, k14, k15, k16, k20, k21, k22, k23, k24, k25, k26⟩ := HCELL.out _ HF.out))
    go_ret
    exact ⟨rfl, HFW.out.trans HF.out (by simp)⟩
  have hw : IntKind.i64.wrap (-xba) = xab := by rw [IntWalk.i64_in _ (by omega)]; omega
  clear hba
  by_cases l1 : xab ≤ 0
  · by_cases l2 : xbc ≤ 0
    · have l3 := z3 l1 l2
      clear z3 r1 r2 r3
      have Ba := Lib.hid b_a
      have Bb := Lib.hid b_b
      have Bc := Lib.hid b_c
      have Cab := Lib.hid c_ab
      have Cba := Lib.hid c_ba
      have Caa := Lib.hid c_aa
      have Cbc := Lib.hid c_bc
      have Cac := Lib.hid c_ac
      clear b_a b_b b_c c_ab c_ba c_aa c_bc c_ac
      go_enter Tryd.func5, Tryd.ntmps5
      go_wp2_with (fail)
      rw [← HW.out]
      have HF := Lib.hid (Fp.refl [] W)
      obtain ⟨k00, k01, k02, k03, k04, k05, k06, k10, k11, k12, k13, k14, k15, k16, k20, k21, k22, k23, k24, k25, k26⟩ := HCELL.out _ HF.out
      go_wp2_with (first
          | (go_at_call 11; (with_reducible refine (Ba.out _).mono ?_); rintro e w1 ⟨rfl, hf⟩; have HF := Lib.hid (HF.out.trans hf (by simp)); clear hf k00 k01 k02 k03 k04 k05 k06 k10 k11 k12 k13 k14 k15 k16 k20 k21 k22 k23 k24 k25 k26; obtain ⟨k00, k01, k02, k03, k04, k05, k06, k10, k11, k12, k13, k14, k15, k16, k20, k21, k22, k23, k24, k25, k26⟩ := HCELL.out _ HF.out)
          | (go_at_call 11; (with_reducible refine (Bb.out _).mono ?_); rintro e w1 ⟨rfl, hf⟩; have HF := Lib.hid (HF.out.trans hf (by simp)); clear hf k00 k01 k02 k03 k04 k05 k06 k10 k11 k12 k13 k14 k15 k16 k20 k21 k22 k23 k24 k25 k26; obtain ⟨k00, k01, k02, k03, k04, k05, k06, k10, k11, k12, k13, k14, k15, k16, k20, k21, k22, k23, k24, k25, k26⟩ := HCELL.out _ HF.out)
          | (go_at_call 11; (with_reducible refine (Bc.out _).mono ?_); rintro e w1 ⟨rfl, hf⟩; have HF := Lib.hid (HF.out.trans hf (by simp)); clear hf k00 k01 k02 k03 k04 k05 k06 k10 k11 k12 k13 k14 k15 k16 k20 k21 k22 k23 k24 k25 k26; obtain ⟨k00, k01, k02, k03, k04, k05, k06, k10, k11, k12, k13, k14, k15, k16, k20, k21, k22, k23, k24, k25, k26⟩ := HCELL.out _ HF.out)
          | (go_at_call 12; (with_reducible refine (N2.out _ (HMM.out.fp HF.out (by simp))).mono ?_); rintro e w1 ⟨rfl, hf⟩; have HF := Lib.hid (HF.out.trans hf (by simp)); clear hf k00 k01 k02 k03 k04 k05 k06 k10 k11 k12 k13 k14 k15 k16 k20 k21 k22 k23 k24 k25 k26; obtain ⟨k00, k01, k02, k03, k04, k05, k06, k10, k11, k12, k13, k14, k15, k16, k20, k21, k22, k23, k24, k25, k26⟩ := HCELL.out _ HF.out))
      refine wp_region_calm (by kernel_rfl) (by kernel_rfl) ?_
      -- 0
      apply ex_plain rfl rfl rfl
      · intro a w hC hA K hK
        have h3 := hA.free 3 _ (by kernel_rfl) rfl
        obtain ⟨k00, k01, k02, k03, k04, k05, k06, k10, k11, k12, k13, k14, k15, k16, k20, k21, k22, k23, k24, k25, k26⟩ := HCELL.out _ (HF.out.trans hC (by simp))
        simp only [Oper.wp, execOp]; go_simp
        exact hK _ hC (Fp.refl _ _)
      -- 1
      apply ex_plain rfl rfl rfl
      · intro a w hC hA K hK
        have h4 := hA.free 4 _ (by kernel_rfl) rfl
        obtain ⟨k00, k01, k02, k03, k04, k05, k06, k10, k11, k12, k13, k14, k15, k16, k20, k21, k22, k23, k24, k25, k26⟩ := HCELL.out _ (HF.out.trans hC (by simp))
        simp only [Oper.wp, execOp]; go_simp
        exact hK _ hC (Fp.refl _ _)
      -- 2
      apply ex_plain rfl rfl rfl
      · intro a w hC hA K hK
        have h25 : a.tmps[25]?.getD undef = _ := hA.dep 0 25 _ (by kernel_rfl) rfl
        have h26 : a.tmps[26]?.getD undef = _ := hA.dep 1 26 _ (by kernel_rfl) rfl
        simp only [Oper.wp, execOp]; go_simp
        first
          | ((with_reducible refine (Cab.out _).mono ?_); rintro e w2 ⟨rfl, hf⟩; exact hK _ (hC.trans hf (by simp)) hf)
          | ((with_reducible refine (Cba.out _).mono ?_); rintro e w2 ⟨rfl, hf⟩; exact hK _ (hC.trans hf (by simp)) hf)
          | ((with_reducible refine (Caa.out _).mono ?_); rintro e w2 ⟨rfl, hf⟩; exact hK _ (hC.trans hf (by simp)) hf)
      -- 3
      apply ex_plain rfl rfl rfl
      · intro a w hC hA K hK
        have h4 := hA.free 4 _ (by kernel_rfl) rfl
        obtain ⟨k00, k01, k02, k03, k04, k05, k06, k10, k11, k12, k13, k14, k15, k16, k20, k21, k22, k23, k24, k25, k26⟩ := HCELL.out _ (HF.out.trans hC (by simp))
        simp only [Oper.wp, execOp]; go_simp
        exact hK _ hC (Fp.refl _ _)
      -- 4
      apply ex_plain rfl rfl rfl
      · intro a w hC hA K hK
        have h3 := hA.free 3 _ (by kernel_rfl) rfl
        obtain ⟨k00, k01, k02, k03, k04, k05, k06, k10, k11, k12, k13, k14, k15, k16, k20, k21, k22, k23, k24, k25, k26⟩ := HCELL.out _ (HF.out.trans hC (by simp))
        simp only [Oper.wp, execOp]; go_simp
        exact hK _ hC (Fp.refl _ _)
      -- 5
      apply ex_plain rfl rfl rfl
      · intro a w hC hA K hK
        have h28 : a.tmps[28]?.getD undef = _ := hA.dep 3 28 _ (by kernel_rfl) rfl
        have h29 : a.tmps[29]?.getD undef = _ := hA.dep 4 29 _ (by kernel_rfl) rfl
        simp only [Oper.wp, execOp]; go_simp
        first
          | ((with_reducible refine (Cab.out _).mono ?_); rintro e w2 ⟨rfl, hf⟩; exact hK _ (hC.trans hf (by simp)) hf)
          | ((with_reducible refine (Cba.out _).mono ?_); rintro e w2 ⟨rfl, hf⟩; exact hK _ (hC.trans hf (by simp)) hf)
          | ((with_reducible refine (Caa.out _).mono ?_); rintro e w2 ⟨rfl, hf⟩; exact hK _ (hC.trans hf (by simp)) hf)
      -- 6
      apply ex_plain rfl rfl rfl
      · intro a w hC hA K hK
        have h30 : a.tmps[30]?.getD undef = _ := hA.dep 5 30 _ (by kernel_rfl) rfl
        simp only [Oper.wp, execOp]; go_simp
        exact hK _ hC (Fp.refl _ _)
      -- 7
      apply ex_plain rfl rfl rfl
      · intro a w hC hA K hK
        have h27 : a.tmps[27]?.getD undef = _ := hA.dep 2 27 _ (by kernel_rfl) rfl
        have h31 : a.tmps[31]?.getD undef = _ := hA.dep 6 31 _ (by kernel_rfl) rfl
        simp only [Oper.wp, execOp]; go_simp
        exact hK _ hC (Fp.refl _ _)
      -- 8
      apply ex_plain rfl rfl rfl
      · intro a w hC hA K hK
        have h32 : a.tmps[32]?.getD undef = _ := hA.dep 7 32 _ (by kernel_rfl) rfl
        simp only [Oper.wp, execOp]; go_simp
        exact hK _ hC (Fp.refl _ _)
      -- 9
      apply ex_yes 8 33 rfl rfl rfl rfl (by kernel_rfl) rfl rfl
      · intro a w hC hA K hK
        have h3 := hA.free 3 _ (by kernel_rfl) rfl
        obtain ⟨k00, k01, k02, k03, k04, k05, k06, k10, k11, k12, k13, k14, k15, k16, k20, k21, k22, k23, k24, k25, k26⟩ := HCELL.out _ (HF.out.trans hC (by simp))
        simp only [Oper.wp, execOp]; go_simp
        exact hK _ hC (Fp.refl _ _)
      -- 10
      apply ex_yes 8 33 rfl rfl rfl rfl (by kernel_rfl) rfl rfl
      · intro a w hC hA K hK
        have h3 := hA.free 3 _ (by kernel_rfl) rfl
        obtain ⟨k00, k01, k02, k03, k04, k05, k06, k10, k11, k12, k13, k14, k15, k16, k20, k21, k22, k23, k24, k25, k26⟩ := HCELL.out _ (HF.out.trans hC (by simp))
        simp only [Oper.wp, execOp]; go_simp
        exact hK _ hC (Fp.refl _ _)
      -- 11
      apply ex_yes 8 33 rfl rfl rfl rfl (by kernel_rfl) rfl rfl
      · intro a w hC hA K hK
        have h34 : a.tmps[34]?.getD undef = _ := hA.dep 9 34 _ (by kernel_rfl) rfl
        have h35 : a.tmps[35]?.getD undef = _ := hA.dep 10 35 _ (by kernel_rfl) rfl
        simp only [Oper.wp, execOp]; go_simp
        first
          | ((with_reducible refine (Cab.out _).mono ?_); rintro e w2 ⟨rfl, hf⟩; exact hK _ (hC.trans hf (by simp)) hf)
          | ((with_reducible refine (Cba.out _).mono ?_); rintro e w2 ⟨rfl, hf⟩; exact hK _ (hC.trans hf (by simp)) hf)
          | ((with_reducible refine (Caa.out _).mono ?_); rintro e w2 ⟨rfl, hf⟩; exact hK _ (hC.trans hf (by simp)) hf)
      -- 12
      apply ex_yes 8 33 rfl rfl rfl rfl (by kernel_rfl) rfl rfl
      · intro a w hC hA K hK
        have h36 : a.tmps[36]?.getD undef = _ := hA.dep 11 36 _ (by kernel_rfl) rfl
        simp only [Oper.wp, execOp]; go_simp
        exact hK _ hC (Fp.refl _ _)
      -- 13
      apply ex_plain rfl rfl rfl
      · intro a w hC hA K hK
        have h33 : a.tmps[33]?.getD undef = _ := hA.dep 8 33 _ (by kernel_rfl) rfl
        have h37 : a.tmps[37]?.getD undef = _ := hA.dep 12 37 _ (by kernel_rfl) rfl
        simp only [Oper.wp, execOp]; go_simp
        exact hK _ hC (Fp.refl _ _)
      refine ⟨?_, ?_⟩
      · repeat (first | exact trivial | refine stab_val _ ?_)
      · intro w' hC
        simp only [List.reverse_cons, List.reverse_nil, List.nil_append, List.cons_append]
        repeat (refine all_val ?_)
        refine all_nil ?_
        simp only [putAll, Act.put, List.setIfInBounds_toArray, List.set_cons_succ, List.set_cons_zero]
        have HF := Lib.hid (HF.out.trans hC (by simp))
        clear hC k00 k01 k02 k03 k04 k05 k06 k10 k11 k12 k13 k14 k15 k16 k20 k21 k22 k23 k24 k25 k26
        obtain ⟨k00, k01, k02, k03, k04, k05, k06, k10, k11, k12, k13, k14, k15, k16, k20, k21, k22, k23, k24, k25, k26⟩ := HCELL.out _ HF.out
        go_wp2_with (first
            | (go_at_call 19; (with_reducible refine (Cab.out _).mono ?_); rintro e w1 ⟨rfl, hf⟩; have HF := Lib.hid (HF.out.trans hf (by simp)); clear hf k00 k01 k02 k03 k04 k05 k06 k10 k11 k12 k13 k14 k15 k16 k20 k21 k22 k23 k24 k25 k26; obtain ⟨k00, k01, k02, k03, k04, k05, k06, k10, k11, k12, k13, k14, k15, k16, k20, k21, k22, k23, k24, k25, k26⟩ := HCELL.out _ HF.out)
            | (go_at_call 19; (with_reducible refine (Cba.out _).mono ?_); rintro e w1 ⟨rfl, hf⟩; have HF := Lib.hid (HF.out.trans hf (by simp)); clear hf k00 k01 k02 k03 k04 k05 k06 k10 k11 k12 k13 k14 k15 k16 k20 k21 k22 k23 k24 k25 k26; obtain ⟨k00, k01, k02, k03, k04, k05, k06, k10, k11, k12, k13, k14, k15, k16, k20, k21, k22, k23, k24, k25, k26⟩ := HCELL.out _ HF.out)
            | (go_at_call 19; (with_reducible refine (Caa.out _).mono ?_); rintro e w1 ⟨rfl, hf⟩; have HF := Lib.hid (HF.out.trans hf (by simp)); clear hf k00 k01 k02 k03 k04 k05 k06 k10 k11 k12 k13 k14 k15 k16 k20 k21 k22 k23 k24 k25 k26; obtain ⟨k00, k01, k02, k03, k04, k05, k06, k10, k11, k12, k13, k14, k15, k16, k20, k21, k22, k23, k24, k25, k26⟩ := HCELL.out _ HF.out)
            | (go_at_call 19; (with_reducible refine (Cbc.out _).mono ?_); rintro e w1 ⟨rfl, hf⟩; have HF := Lib.hid (HF.out.trans hf (by simp)); clear hf k00 k01 k02 k03 k04 k05 k06 k10 k11 k12 k13 k14 k15 k16 k20 k21 k22 k23 k24 k25 k26; obtain ⟨k00, k01, k02, k03, k04, k05, k06, k10, k11, k12, k13, k14, k15, k16, k20, k21, k22, k23, k24, k25, k26⟩ := HCELL.out _ HF.out)
            | (go_at_call 19; (with_reducible refine (Cac.out _).mono ?_); rintro e w1 ⟨rfl, hf⟩; have HF := Lib.hid (HF.out.trans hf (by simp)); clear hf k00 k01 k02 k03 k04 k05 k06 k10 k11 k12 k13 k14 k15 k16 k20 k21 k22 k23 k24 k25 k26; obtain ⟨k00, k01, k02, k03, k04, k05, k06, k10, k11, k12, k13, k14, k15, k16, k20, k21, k22, k23, k24, k25, k26⟩ := HCELL.out _ HF.out))
        go_ret
        exact ⟨rfl, HFW.out.trans HF.out (by simp)⟩
    · clear z3 r1 r2 r3
      have Ba := Lib.hid b_a
      have Bb := Lib.hid b_b
      have Bc := Lib.hid b_c
      have Cab := Lib.hid c_ab
      have Cba := Lib.hid c_ba
      have Caa := Lib.hid c_aa
      have Cbc := Lib.hid c_bc
      have Cac := Lib.hid c_ac
      clear b_a b_b b_c c_ab c_ba c_aa c_bc c_ac
      go_enter Tryd.func5, Tryd.ntmps5
      go_wp2_with (fail)
      rw [← HW.out]
      have HF := Lib.hid (Fp.refl [] W)
      obtain ⟨k00, k01, k02, k03, k04, k05, k06, k10, k11, k12, k13, k14, k15, k16, k20, k21, k22, k23, k24, k25, k26⟩ := HCELL.out _ HF.out
      go_wp2_with (first
          | (go_at_call 11; (with_reducible refine (Ba.out _).mono ?_); rintro e w1 ⟨rfl, hf⟩; have HF := Lib.hid (HF.out.trans hf (by simp)); clear hf k00 k01 k02 k03 k04 k05 k06 k10 k11 k12 k13 k14 k15 k16 k20 k21 k22 k23 k24 k25 k26; obtain ⟨k00, k01, k02, k03, k04, k05, k06, k10, k11, k12, k13, k14, k15, k16, k20, k21, k22, k23, k24, k25, k26⟩ := HCELL.out _ HF.out)
          | (go_at_call 11; (with_reducible refine (Bb.out _).mono ?_); rintro e w1 ⟨rfl, hf⟩; have HF := Lib.hid (HF.out.trans hf (by simp)); clear hf k00 k01 k02 k03 k04 k05 k06 k10 k11 k12 k13 k14 k15 k16 k20 k21 k22 k23 k24 k25 k26; obtain ⟨k00, k01, k02, k03, k04, k05, k06, k10, k11, k12, k13, k14, k15, k16, k20, k21, k22, k23, k24, k25, k26⟩ := HCELL.out _ HF.out)
          | (go_at_call 11; (with_reducible refine (Bc.out _).mono ?_); rintro e w1 ⟨rfl, hf⟩; have HF := Lib.hid (HF.out.trans hf (by simp)); clear hf k00 k01 k02 k03 k04 k05 k06 k10 k11 k12 k13 k14 k15 k16 k20 k21 k22 k23 k24 k25 k26; obtain ⟨k00, k01, k02, k03, k04, k05, k06, k10, k11, k12, k13, k14, k15, k16, k20, k21, k22, k23, k24, k25, k26⟩ := HCELL.out _ HF.out)
          | (go_at_call 12; (with_reducible refine (N2.out _ (HMM.out.fp HF.out (by simp))).mono ?_); rintro e w1 ⟨rfl, hf⟩; have HF := Lib.hid (HF.out.trans hf (by simp)); clear hf k00 k01 k02 k03 k04 k05 k06 k10 k11 k12 k13 k14 k15 k16 k20 k21 k22 k23 k24 k25 k26; obtain ⟨k00, k01, k02, k03, k04, k05, k06, k10, k11, k12, k13, k14, k15, k16, k20, k21, k22, k23, k24, k25, k26⟩ := HCELL.out _ HF.out))
      refine wp_region_calm (by kernel_rfl) (by kernel_rfl) ?_
      -- 0
      apply ex_plain rfl rfl rfl
      · intro a w hC hA K hK
        have h3 := hA.free 3 _ (by kernel_rfl) rfl
        obtain ⟨k00, k01, k02, k03, k04, k05, k06, k10, k11, k12, k13, k14, k15, k16, k20, k21, k22, k23, k24, k25, k26⟩ := HCELL.out _ (HF.out.trans hC (by simp))
        simp only [Oper.wp, execOp]; go_simp
        exact hK _ hC (Fp.refl _ _)
      -- 1
      apply ex_plain rfl rfl rfl
      · intro a w hC hA K hK
        have h4 := hA.free 4 _ (by kernel_rfl) rfl
        obtain ⟨k00, k01, k02, k03, k04, k05, k06, k10, k11, k12, k13, k14, k15, k16, k20, k21, k22, k23, k24, k25, k26⟩ := HCELL.out _ (HF.out.trans hC (by simp))
        simp only [Oper.wp, execOp]; go_simp
        exact hK _ hC (Fp.refl _ _)
      -- 2
      apply ex_plain rfl rfl rfl
      · intro a w hC hA K hK
        have h25 : a.tmps[25]?.getD undef = _ := hA.dep 0 25 _ (by kernel_rfl) rfl
        have h26 : a.tmps[26]?.getD undef = _ := hA.dep 1 26 _ (by kernel_rfl) rfl
        simp only [Oper.wp, execOp]; go_simp
        first
          | ((with_reducible refine (Cab.out _).mono ?_); rintro e w2 ⟨rfl, hf⟩; exact hK _ (hC.trans hf (by simp)) hf)
          | ((with_reducible refine (Cba.out _).mono ?_); rintro e w2 ⟨rfl, hf⟩; exact hK _ (hC.trans hf (by simp)) hf)
          | ((with_reducible refine (Caa.out _).mono ?_); rintro e w2 ⟨rfl, hf⟩; exact hK _ (hC.trans hf (by simp)) hf)
      -- 3
      apply ex_plain rfl rfl rfl
      · intro a w hC hA K hK
        have h4 := hA.free 4 _ (by kernel_rfl) rfl
        obtain ⟨k00, k01, k02, k03, k04, k05, k06, k10, k11, k12, k13, k14, k15, k16, k20, k21, k22, k23, k24, k25, k26⟩ := HCELL.out _ (HF.out.trans hC (by simp))
        simp only [Oper.wp, execOp]; go_simp
        exact hK _ hC (Fp.refl _ _)
      -- 4
      apply ex_plain rfl rfl rfl
      · intro a w hC hA K hK
        have h3 := hA.free 3 _ (by kernel_rfl) rfl
        obtain ⟨k00, k01, k02, k03, k04, k05, k06, k10, k11, k12, k13, k14, k15, k16, k20, k21, k22, k23, k24, k25, k26⟩ := HCELL.out _ (HF.out.trans hC (by simp))
        simp only [Oper.wp, execOp]; go_simp
        exact hK _ hC (Fp.refl _ _)
      -- 5
      apply ex_plain rfl rfl rfl
      · intro a w hC hA K hK
        have h28 : a.tmps[28]?.getD undef = _ := hA.dep 3 28 _ (by kernel_rfl) rfl
        have h29 : a.tmps[29]?.getD undef = _ := hA.dep 4 29 _ (by kernel_rfl) rfl
        simp only [Oper.wp, execOp]; go_simp
        first
          | ((with_reducible refine (Cab.out _).mono ?_); rintro e w2 ⟨rfl, hf⟩; exact hK _ (hC.trans hf (by simp)) hf)
          | ((with_reducible refine (Cba.out _).mono ?_); rintro e w2 ⟨rfl, hf⟩; exact hK _ (hC.trans hf (by simp)) hf)
          | ((with_reducible refine (Caa.out _).mono ?_); rintro e w2 ⟨rfl, hf⟩; exact hK _ (hC.trans hf (by simp)) hf)
      -- 6
      apply ex_plain rfl rfl rfl
      · intro a w hC hA K hK
        have h30 : a.tmps[30]?.getD undef = _ := hA.dep 5 30 _ (by kernel_rfl) rfl
        simp only [Oper.wp, execOp]; go_simp
        exact hK _ hC (Fp.refl _ _)
      -- 7
      apply ex_plain rfl rfl rfl
      · intro a w hC hA K hK
        have h27 : a.tmps[27]?.getD undef = _ := hA.dep 2 27 _ (by kernel_rfl) rfl
        have h31 : a.tmps[31]?.getD undef = _ := hA.dep 6 31 _ (by kernel_rfl) rfl
        simp only [Oper.wp, execOp]; go_simp
        exact hK _ hC (Fp.refl _ _)
      -- 8
      apply ex_plain rfl rfl rfl
      · intro a w hC hA K hK
        have h32 : a.tmps[32]?.getD undef = _ := hA.dep 7 32 _ (by kernel_rfl) rfl
        simp only [Oper.wp, execOp]; go_simp
        exact hK _ hC (Fp.refl _ _)
      -- 9
      apply ex_yes 8 33 rfl rfl rfl rfl (by kernel_rfl) rfl rfl
      · intro a w hC hA K hK
        have h3 := hA.free 3 _ (by kernel_rfl) rfl
        obtain ⟨k00, k01, k02, k03, k04, k05, k06, k10, k11, k12, k13, k14, k15, k16, k20, k21, k22, k23, k24, k25, k26⟩ := HCELL.out _ (HF.out.trans hC (by simp))
        simp only [Oper.wp, execOp]; go_simp
        exact hK _ hC (Fp.refl _ _)
      -- 10
      apply ex_yes 8 33 rfl rfl rfl rfl (by kernel_rfl) rfl rfl
      · intro a w hC hA K hK
        have h3 := hA.free 3 _ (by kernel_rfl) rfl
        obtain ⟨k00, k01, k02, k03, k04, k05, k06, k10, k11, k12, k13, k14, k15, k16, k20, k21, k22, k23, k24, k25, k26⟩ := HCELL.out _ (HF.out.trans hC (by simp))
        simp only [Oper.wp, execOp]; go_simp
        exact hK _ hC (Fp.refl _ _)
      -- 11
      apply ex_yes 8 33 rfl rfl rfl rfl (by kernel_rfl) rfl rfl
      · intro a w hC hA K hK
        have h34 : a.tmps[34]?.getD undef = _ := hA.dep 9 34 _ (by kernel_rfl) rfl
        have h35 : a.tmps[35]?.getD undef = _ := hA.dep 10 35 _ (by kernel_rfl) rfl
        simp only [Oper.wp, execOp]; go_simp
        first
          | ((with_reducible refine (Cab.out _).mono ?_); rintro e w2 ⟨rfl, hf⟩; exact hK _ (hC.trans hf (by simp)) hf)
          | ((with_reducible refine (Cba.out _).mono ?_); rintro e w2 ⟨rfl, hf⟩; exact hK _ (hC.trans hf (by simp)) hf)
          | ((with_reducible refine (Caa.out _).mono ?_); rintro e w2 ⟨rfl, hf⟩; exact hK _ (hC.trans hf (by simp)) hf)
      -- 12
      apply ex_yes 8 33 rfl rfl rfl rfl (by kernel_rfl) rfl rfl
      · intro a w hC hA K hK
        have h36 : a.tmps[36]?.getD undef = _ := hA.dep 11 36 _ (by kernel_rfl) rfl
        simp only [Oper.wp, execOp]; go_simp
        exact hK _ hC (Fp.refl _ _)
      -- 13
      apply ex_plain rfl rfl rfl
      · intro a w hC hA K hK
        have h33 : a.tmps[33]?.getD undef = _ := hA.dep 8 33 _ (by kernel_rfl) rfl
        have h37 : a.tmps[37]?.getD undef = _ := hA.dep 12 37 _ (by kernel_rfl) rfl
        simp only [Oper.wp, execOp]; go_simp
        exact hK _ hC (Fp.refl _ _)
      refine ⟨?_, ?_⟩
      · repeat (first | exact trivial | refine stab_val _ ?_)
      · intro w' hC
        simp only [List.reverse_cons, List.reverse_nil, List.nil_append, List.cons_append]
        repeat (refine all_val ?_)
        refine all_nil ?_
        simp only [putAll, Act.put, List.setIfInBounds_toArray, List.set_cons_succ, List.set_cons_zero]
        have HF := Lib.hid (HF.out.trans hC (by simp))
        clear hC k00 k01 k02 k03 k04 k05 k06 k10 k11 k12 k13 k14 k15 k16 k20 k21 k22 k23 k24 k25 k26
        obtain ⟨k00, k01, k02, k03, k04, k05, k06, k10, k11, k12, k13, k14, k15, k16, k20, k21, k22, k23, k24, k25, k26⟩ := HCELL.out _ HF.out
        go_wp2_with (first
            | (go_at_call 19; (with_reducible refine (Cab.out _).mono ?_); rintro e w1 ⟨rfl, hf⟩; have HF := Lib.hid (HF.out.trans hf (by simp)); clear hf k00 k01 k02 k03 k04 k05 k06 k10 k11 k12 k13 k14 k15 k16 k20 k21 k22 k23 k24 k25 k26; obtain ⟨k00, k01, k02, k03, k04, k05, k06, k10, k11, k12, k13, k14, k15, k16, k20, k21, k22, k23, k24, k25, k26⟩ := HCELL.out _ HF.out)
            | (go_at_call 19; (with_reducible refine (Cba.out _).mono ?_); rintro e w1 ⟨rfl, hf⟩; have HF := Lib.hid (HF.out.trans hf (by simp)); clear hf k00 k01 k02 k03 k04 k05 k06 k10 k11 k12 k13 k14 k15 k16 k20 k21 k22 k23 k24 k25 k26; obtain ⟨k00, k01, k02, k03, k04, k05, k06, k10, k11, k12, k13, k14, k15, k16, k20, k21, k22, k23, k24, k25, k26⟩ := HCELL.out _ HF.out)
            | (go_at_call 19; (with_reducible refine (Caa.out _).mono ?_); rintro e w1 ⟨rfl, hf⟩; have HF := Lib.hid (HF.out.trans hf (by simp)); clear hf k00 k01 k02 k03 k04 k05 k06 k10 k11 k12 k13 k14 k15 k16 k20 k21 k22 k23 k24 k25 k26; obtain ⟨k00, k01, k02, k03, k04, k05, k06, k10, k11, k12, k13, k14, k15, k16, k20, k21, k22, k23, k24, k25, k26⟩ := HCELL.out _ HF.out)
            | (go_at_call 19; (with_reducible refine (Cbc.out _).mono ?_); rintro e w1 ⟨rfl, hf⟩; have HF := Lib.hid (HF.out.trans hf (by simp)); clear hf k00 k01 k02 k03 k04 k05 k06 k10 k11 k12 k13 k14 k15 k16 k20 k21 k22 k23 k24 k25 k26; obtain ⟨k00, k01, k02, k03, k04, k05, k06, k10, k11, k12, k13, k14, k15, k16, k20, k21, k22, k23, k24, k25, k26⟩ := HCELL.out _ HF.out)
            | (go_at_call 19; (with_reducible refine (Cac.out _).mono ?_); rintro e w1 ⟨rfl, hf⟩; have HF := Lib.hid (HF.out.trans hf (by simp)); clear hf k00 k01 k02 k03 k04 k05 k06 k10 k11 k12 k13 k14 k15 k16 k20 k21 k22 k23 k24 k25 k26; obtain ⟨k00, k01, k02, k03, k04, k05, k06, k10, k11, k12, k13, k14, k15, k16, k20, k21, k22, k23, k24, k25, k26⟩ := HCELL.out _ HF.out))
        go_ret
        exact ⟨rfl, HFW.out.trans HF.out (by simp)⟩
  · clear z3 r1 r2 r3
    have Ba := Lib.hid b_a
    have Bb := Lib.hid b_b
    have Bc := Lib.hid b_c
    have Cab := Lib.hid c_ab
    have Cba := Lib.hid c_ba
    have Caa := Lib.hid c_aa
    have Cbc := Lib.hid c_bc
    have Cac := Lib.hid c_ac
    clear b_a b_b b_c c_ab c_ba c_aa c_bc c_ac
    go_enter Tryd.func5, Tryd.ntmps5
    go_wp2_with (fail)
    rw [← HW.out]
    have HF := Lib.hid (Fp.refl [] W)
    obtain ⟨k00, k01, k02, k03, k04, k05, k06, k10, k11, k12, k13, k14, k15, k16, k20, k21, k22, k23, k24, k25, k26⟩ := HCELL.out _ HF.out
    go_wp2_with (first
        | (go_at_call 11; (with_reducible refine (Ba.out _).mono ?_); rintro e w1 ⟨rfl, hf⟩; have HF := Lib.hid (HF.out.trans hf (by simp)); clear hf k00 k01 k02 k03 k04 k05 k06 k10 k11 k12 k13 k14 k15 k16 k20 k21 k22 k23 k24 k25 k26; obtain ⟨k00, k01, k02, k03, k04, k05, k06, k10, k11, k12, k13, k14, k15, k16, k20, k21, k22, k23, k24, k25, k26⟩ := HCELL.out _ HF.out)
        | (go_at_call 11; (with_reducible refine (Bb.out _).mono ?_); rintro e w1 ⟨rfl, hf⟩; have HF := Lib.hid (HF.out.trans hf (by simp)); clear hf k00 k01 k02 k03 k04 k05 k06 k10 k11 k12 k13 k14 k15 k16 k20 k21 k22 k23 k24 k25 k26; obtain ⟨k00, k01, k02, k03, k04, k05, k06, k10, k11, k12, k13, k14, k15, k16, k20, k21, k22, k23, k24, k25, k26⟩ := HCELL.out _ HF.out)
        | (go_at_call 11; (with_reducible refine (Bc.out _).mono ?_); rintro e w1 ⟨rfl, hf⟩; have HF := Lib.hid (HF.out.trans hf (by simp)); clear hf k00 k01 k02 k03 k04 k05 k06 k10 k11 k12 k13 k14 k15 k16 k20 k21 k22 k23 k24 k25 k26; obtain ⟨k00, k01, k02, k03, k04, k05, k06, k10, k11, k12, k13, k14, k15, k16, k20, k21, k22, k23, k24, k25, k26⟩ := HCELL.out _ HF.out)
        | (go_at_call 12; (with_reducible refine (N2.out _ (HMM.out.fp HF.out (by simp))).mono ?_); rintro e w1 ⟨rfl, hf⟩; have HF := Lib.hid (HF.out.trans hf (by simp)); clear hf k00 k01 k02 k03 k04 k05 k06 k10 k11 k12 k13 k14 k15 k16 k20 k21 k22 k23 k24 k25 k26; obtain ⟨k00, k01, k02, k03, k04, k05, k06, k10, k11, k12, k13, k14, k15, k16, k20, k21, k22, k23, k24, k25, k26⟩ := HCELL.out _ HF.out))
    refine wp_region_calm (by kernel_rfl) (by kernel_rfl) ?_
    -- 0
    apply ex_plain rfl rfl rfl
    · intro a w hC hA K hK
      have h3 := hA.free 3 _ (by kernel_rfl) rfl
      obtain ⟨k00, k01, k02, k03, k04, k05, k06, k10, k11, k12, k13, k14, k15, k16, k20, k21, k22, k23, k24, k25, k26⟩ := HCELL.out _ (HF.out.trans hC (by simp))
      simp only [Oper.wp, execOp]; go_simp
      exact hK _ hC (Fp.refl _ _)
    -- 1
    apply ex_plain rfl rfl rfl
    · intro a w hC hA K hK
      have h4 := hA.free 4 _ (by kernel_rfl) rfl
      obtain ⟨k00, k01, k02, k03, k04, k05, k06, k10, k11, k12, k13, k14, k15, k16, k20, k21, k22, k23, k24, k25, k26⟩ := HCELL.out _ (HF.out.trans hC (by simp))
      simp only [Oper.wp, execOp]; go_simp
      exact hK _ hC (Fp.refl _ _)
    -- 2
    apply ex_plain rfl rfl rfl
    · intro a w hC hA K hK
      have h25 : a.tmps[25]?.getD undef = _ := hA.dep 0 25 _ (by kernel_rfl) rfl
      have h26 : a.tmps[26]?.getD undef = _ := hA.dep 1 26 _ (by kernel_rfl) rfl
      simp only [Oper.wp, execOp]; go_simp
      first
        | ((with_reducible refine (Cab.out _).mono ?_); rintro e w2 ⟨rfl, hf⟩; exact hK _ (hC.trans hf (by simp)) hf)
        | ((with_reducible refine (Cba.out _).mono ?_); rintro e w2 ⟨rfl, hf⟩; exact hK _ (hC.trans hf (by simp)) hf)
        | ((with_reducible refine (Caa.out _).mono ?_); rintro e w2 ⟨rfl, hf⟩; exact hK _ (hC.trans hf (by simp)) hf)
    -- 3
    apply ex_plain rfl rfl rfl
    · intro a w hC hA K hK
      have h4 := hA.free 4 _ (by kernel_rfl) rfl
      obtain ⟨k00, k01, k02, k03, k04, k05, k06, k10, k11, k12, k13, k14, k15, k16, k20, k21, k22, k23, k24, k25, k26⟩ := HCELL.out _ (HF.out.trans hC (by simp))
      simp only [Oper.wp, execOp]; go_simp
      exact hK _ hC (Fp.refl _ _)
    -- 4
    apply ex_plain rfl rfl rfl
    · intro a w hC hA K hK
      have h3 := hA.free 3 _ (by kernel_rfl) rfl
      obtain ⟨k00, k01, k02, k03, k04, k05, k06, k10, k11, k12, k13, k14, k15, k16, k20, k21, k22, k23, k24, k25, k26⟩ := HCELL.out _ (HF.out.trans hC (by simp))
      simp only [Oper.wp, execOp]; go_simp
      exact hK _ hC (Fp.refl _ _)
    -- 5
    apply ex_plain rfl rfl rfl
    · intro a w hC hA K hK
      have h28 : a.tmps[28]?.getD undef = _ := hA.dep 3 28 _ (by kernel_rfl) rfl
      have h29 : a.tmps[29]?.getD undef = _ := hA.dep 4 29 _ (by kernel_rfl) rfl
      simp only [Oper.wp, execOp]; go_simp
      first
        | ((with_reducible refine (Cab.out _).mono ?_); rintro e w2 ⟨rfl, hf⟩; exact hK _ (hC.trans hf (by simp)) hf)
        | ((with_reducible refine (Cba.out _).mono ?_); rintro e w2 ⟨rfl, hf⟩; exact hK _ (hC.trans hf (by simp)) hf)
        | ((with_reducible refine (Caa.out _).mono ?_); rintro e w2 ⟨rfl, hf⟩; exact hK _ (hC.trans hf (by simp)) hf)
    -- 6
    apply ex_plain rfl rfl rfl
    · intro a w hC hA K hK
      have h30 : a.tmps[30]?.getD undef = _ := hA.dep 5 30 _ (by kernel_rfl) rfl
      simp only [Oper.wp, execOp]; go_simp
      exact hK _ hC (Fp.refl _ _)
    -- 7
    apply ex_plain rfl rfl rfl
    · intro a w hC hA K hK
      have h27 : a.tmps[27]?.getD undef = _ := hA.dep 2 27 _ (by kernel_rfl) rfl
      have h31 : a.tmps[31]?.getD undef = _ := hA.dep 6 31 _ (by kernel_rfl) rfl
      simp only [Oper.wp, execOp]; go_simp
      exact hK _ hC (Fp.refl _ _)
    -- 8
    apply ex_plain rfl rfl rfl
    · intro a w hC hA K hK
      have h32 : a.tmps[32]?.getD undef = _ := hA.dep 7 32 _ (by kernel_rfl) rfl
      simp only [Oper.wp, execOp]; go_simp
      exact hK _ hC (Fp.refl _ _)
    -- 9
    apply ex_yes 8 33 rfl rfl rfl rfl (by kernel_rfl) rfl rfl
    · intro a w hC hA K hK
      have h3 := hA.free 3 _ (by kernel_rfl) rfl
      obtain ⟨k00, k01, k02, k03, k04, k05, k06, k10, k11, k12, k13, k14, k15, k16, k20, k21, k22, k23, k24, k25, k26⟩ := HCELL.out _ (HF.out.trans hC (by simp))
      simp only [Oper.wp, execOp]; go_simp
      exact hK _ hC (Fp.refl _ _)
    -- 10
    apply ex_yes 8 33 rfl rfl rfl rfl (by kernel_rfl) rfl rfl
    · intro a w hC hA K hK
      have h3 := hA.free 3 _ (by kernel_rfl) rfl
      obtain ⟨k00, k01, k02, k03, k04, k05, k06, k10, k11, k12, k13, k14, k15, k16, k20, k21, k22, k23, k24, k25, k26⟩ := HCELL.out _ (HF.out.trans hC (by simp))
      simp only [Oper.wp, execOp]; go_simp
      exact hK _ hC (Fp.refl _ _)
    -- 11
    apply ex_yes 8 33 rfl rfl rfl rfl (by kernel_rfl) rfl rfl
    · intro a w hC hA K hK
      have h34 : a.tmps[34]?.getD undef = _ := hA.dep 9 34 _ (by kernel_rfl) rfl
      have h35 : a.tmps[35]?.getD undef = _ := hA.dep 10 35 _ (by kernel_rfl) rfl
      simp only [Oper.wp, execOp]; go_simp
      first
        | ((with_reducible refine (Cab.out _).mono ?_); rintro e w2 ⟨rfl, hf⟩; exact hK _ (hC.trans hf (by simp)) hf)
        | ((with_reducible refine (Cba.out _).mono ?_); rintro e w2 ⟨rfl, hf⟩; exact hK _ (hC.trans hf (by simp)) hf)
        | ((with_reducible refine (Caa.out _).mono ?_); rintro e w2 ⟨rfl, hf⟩; exact hK _ (hC.trans hf (by simp)) hf)
    -- 12
    apply ex_yes 8 33 rfl rfl rfl rfl (by kernel_rfl) rfl rfl
    · intro a w hC hA K hK
      have h36 : a.tmps[36]?.getD undef = _ := hA.dep 11 36 _ (by kernel_rfl) rfl
      simp only [Oper.wp, execOp]; go_simp
      exact hK _ hC (Fp.refl _ _)
    -- 13
    apply ex_plain rfl rfl rfl
    · intro a w hC hA K hK
      have h33 : a.tmps[33]?.getD undef = _ := hA.dep 8 33 _ (by kernel_rfl) rfl
      have h37 : a.tmps[37]?.getD undef = _ := hA.dep 12 37 _ (by kernel_rfl) rfl
      simp only [Oper.wp, execOp]; go_simp
      exact hK _ hC (Fp.refl _ _)
    refine ⟨?_, ?_⟩
    · repeat (first | exact trivial | refine stab_val _ ?_)
    · intro w' hC
      simp only [List.reverse_cons, List.reverse_nil, List.nil_append, List.cons_append]
      repeat (refine all_val ?_)
      refine all_nil ?_
      simp only [putAll, Act.put, List.setIfInBounds_toArray, List.set_cons_succ, List.set_cons_zero]
      have HF := Lib.hid (HF.out.trans hC (by simp))
      clear hC k00 k01 k02 k03 k04 k05 k06 k10 k11 k12 k13 k14 k15 k16 k20 k21 k22 k23 k24 k25 k26
      obtain ⟨k00, k01, k02, k03, k04, k05, k06, k10, k11, k12, k13, k14, k15, k16, k20, k21, k22, k23, k24, k25, k26⟩ := HCELL.out _ HF.out
      go_wp2_with (first
          | (go_at_call 19; (with_reducible refine (Cab.out _).mono ?_); rintro e w1 ⟨rfl, hf⟩; have HF := Lib.hid (HF.out.trans hf (by simp)); clear hf k00 k01 k02 k03 k04 k05 k06 k10 k11 k12 k13 k14 k15 k16 k20 k21 k22 k23 k24 k25 k26; obtain ⟨k00, k01, k02, k03, k04, k05, k06, k10, k11, k12, k13, k14, k15, k16, k20, k21, k22, k23, k24, k25, k26⟩ := HCELL.out _ HF.out)
          | (go_at_call 19; (with_reducible refine (Cba.out _).mono ?_); rintro e w1 ⟨rfl, hf⟩; have HF := Lib.hid (HF.out.trans hf (by simp)); clear hf k00 k01 k02 k03 k04 k05 k06 k10 k11 k12 k13 k14 k15 k16 k20 k21 k22 k23 k24 k25 k26; obtain ⟨k00, k01, k02, k03, k04, k05, k06, k10, k11, k12, k13, k14, k15, k16, k20, k21, k22, k23, k24, k25, k26⟩ := HCELL.out _ HF.out)
          | (go_at_call 19; (with_reducible refine (Caa.out _).mono ?_); rintro e w1 ⟨rfl, hf⟩; have HF := Lib.hid (HF.out.trans hf (by simp)); clear hf k00 k01 k02 k03 k04 k05 k06 k10 k11 k12 k13 k14 k15 k16 k20 k21 k22 k23 k24 k25 k26; obtain ⟨k00, k01, k02, k03, k04, k05, k06, k10, k11, k12, k13, k14, k15, k16, k20, k21, k22, k23, k24, k25, k26⟩ := HCELL.out _ HF.out)
          | (go_at_call 19; (with_reducible refine (Cbc.out _).mono ?_); rintro e w1 ⟨rfl, hf⟩; have HF := Lib.hid (HF.out.trans hf (by simp)); clear hf k00 k01 k02 k03 k04 k05 k06 k10 k11 k12 k13 k14 k15 k16 k20 k21 k22 k23 k24 k25 k26; obtain ⟨k00, k01, k02, k03, k04, k05, k06, k10, k11, k12, k13, k14, k15, k16, k20, k21, k22, k23, k24, k25, k26⟩ := HCELL.out _ HF.out)
          | (go_at_call 19; (with_reducible refine (Cac.out _).mono ?_); rintro e w1 ⟨rfl, hf⟩; have HF := Lib.hid (HF.out.trans hf (by simp)); clear hf k00 k01 k02 k03 k04 k05 k06 k10 k11 k12 k13 k14 k15 k16 k20 k21 k22 k23 k24 k25 k26; obtain ⟨k00, k01, k02, k03, k04, k05, k06, k10, k11, k12, k13, k14, k15, k16, k20, k21, k22, k23, k24, k25, k26⟩ := HCELL.out _ HF.out))
      go_ret
      exact ⟨rfl, HFW.out.trans HF.out (by simp)⟩
end Go.Proofs.YtlpfijkchbpdmaaDoor
