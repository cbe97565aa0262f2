/-
  CellKeys: the walk.
-/
import Derived.Test.YtlpfijkchbpdmaaDoorCellShown
import Derived.Test.YtlpfijkchbpdmaaDoorCellLaw6
namespace Go.Proofs.YtlpfijkchbpdmaaDoor
open Go.RowKit

set_option maxRecDepth 100000 in
set_option maxHeartbeats 4000000 in
theorem keys_walk (w : World) (c : Cel) (s : ByteArray) (oc : CelOK c) (hs : s.size ≤ maxLen) (hm : MaxAt w) :
    Calls Tryd.prog 9 #[cellV c, .string s] w fun e w' => e = .returned (.bool true) ∧ Fp [] w w' := by
  unfold maxLen at hs
  have N2 := Lib.hid shown_any
  obtain ⟨W, hW⟩ : ∃ W, W = (w.alloc (.cells #[.string c.row, .string c.col, .int .u64 c.ts, .int .u64 c.seq, .bool c.del, .string c.val] 24)) := ⟨_, rfl⟩
  have hfw : Fp [] w W := by rw [hW]; exact Fp.alloc _ _
  have hb0 : W.heap[w.heap.size]? = some (.cells #[.string c.row, .string c.col, .int .u64 c.ts, .int .u64 c.seq, .bool c.del, .string c.val] 24 (0, 0)) := by
    rw [hW]
    exact heap_alloc_at (by simp) _
  have hcell : ∀ w', Fp [] W w' → w'.cell? ⟨w.heap.size, 0, none⟩ = some (.string c.row) ∧ w'.cell? ⟨w.heap.size, 1, none⟩ = some (.string c.col) ∧ w'.cell? ⟨w.heap.size, 2, none⟩ = some (.int .u64 c.ts) ∧ w'.cell? ⟨w.heap.size, 3, none⟩ = some (.int .u64 c.seq) ∧ w'.cell? ⟨w.heap.size, 4, none⟩ = some (.bool c.del) ∧ w'.cell? ⟨w.heap.size, 5, none⟩ = some (.string c.val) ∧ w.heap.size < w'.heap.size := by
    intro w' hf
    have h0 := (hf.block _ (heap_lt hb0) (by simp)).trans hb0
    exact ⟨cell_of_block h0 0, cell_of_block h0 1, cell_of_block h0 2, cell_of_block h0 3, cell_of_block h0 4, cell_of_block h0 5, heap_lt h0⟩
  have HCELL := Lib.hid hcell
  have HFW := Lib.hid hfw
  have HW := Lib.hid hW
  have HMM := Lib.hid (MaxAt.fp hm hfw (by simp))
  clear hcell hfw hW hb0 hm
  have b_c := fun w => bounded_any c w oc
  unfold cellV at b_c ⊢
  by_cases h4 : s.size ≤ 300
  case neg =>
    have h5 : (300 : Int) < (s.size : Int) := by omega
    have Bc := Lib.hid b_c
    clear b_c
    go_enter Tryd.func9, Tryd.ntmps9
    go_wp2_with (fail)
    rw [← HW.out]
    have HF := Lib.hid (Fp.refl [] W)
    obtain ⟨k00, k01, k02, k03, k04, k05, k06⟩ := HCELL.out _ HF.out
    go_wp2_with (first
        | (go_at_call 11; (with_reducible refine (Bc.out _).mono ?_); rintro e w1 ⟨rfl, hf⟩; have HF := Lib.hid (HF.out.trans hf (by simp)); clear hf k00 k01 k02 k03 k04 k05 k06; obtain ⟨k00, k01, k02, k03, k04, k05, k06⟩ := HCELL.out _ HF.out)
        | (go_at_call 12; (with_reducible refine (N2.out _ (HMM.out.fp HF.out (by simp))).mono ?_); rintro e w1 ⟨rfl, hf⟩; have HF := Lib.hid (HF.out.trans hf (by simp)); clear hf k00 k01 k02 k03 k04 k05 k06; obtain ⟨k00, k01, k02, k03, k04, k05, k06⟩ := HCELL.out _ HF.out))
    go_ret
    exact ⟨rfl, HFW.out.trans HF.out (by simp)⟩
  have h5 : ¬ (300 : Int) < (s.size : Int) := by omega
  cases hy : bdB c
  · rw [hy] at b_c
    clear hy
    have Bc := Lib.hid b_c
    clear b_c
    go_enter Tryd.func9, Tryd.ntmps9
    go_wp2_with (fail)
    rw [← HW.out]
    have HF := Lib.hid (Fp.refl [] W)
    obtain ⟨k00, k01, k02, k03, k04, k05, k06⟩ := HCELL.out _ HF.out
    go_wp2_with (first
        | (go_at_call 11; (with_reducible refine (Bc.out _).mono ?_); rintro e w1 ⟨rfl, hf⟩; have HF := Lib.hid (HF.out.trans hf (by simp)); clear hf k00 k01 k02 k03 k04 k05 k06; obtain ⟨k00, k01, k02, k03, k04, k05, k06⟩ := HCELL.out _ HF.out)
        | (go_at_call 12; (with_reducible refine (N2.out _ (HMM.out.fp HF.out (by simp))).mono ?_); rintro e w1 ⟨rfl, hf⟩; have HF := Lib.hid (HF.out.trans hf (by simp)); clear hf k00 k01 k02 k03 k04 k05 k06; obtain ⟨k00, k01, k02, k03, k04, k05, k06⟩ := HCELL.out _ HF.out))
    go_ret
    exact ⟨rfl, HFW.out.trans HF.out (by simp)⟩
  rw [hy] at b_c
  clear hy
  have d_s := fun w hm => fromkey_any s w hm (by omega)
  have q_s := fun w => rfromkey_any s w (by omega)
  have k_c := fun w hm => key_all c w oc hm
  have l_c := fun w => rkey_any c w oc
  rw [← fk_same] at q_s
  obtain ⟨⟨X, re⟩, hX⟩ : ∃ x, fkP s = x := ⟨_, rfl⟩
  rw [hX] at d_s q_s
  obtain ⟨kb, hkb⟩ : ∃ x, keyB c = x := ⟨_, rfl⟩
  rw [hkb] at k_c l_c
  clear hX hkb
  unfold cellV at d_s q_s k_c l_c
  simp only at d_s q_s
  have Bc := Lib.hid b_c
  clear b_c
  have Ds := Lib.hid d_s
  have Qs := Lib.hid q_s
  have Kc := Lib.hid k_c
  have Lc := Lib.hid l_c
  clear d_s q_s k_c l_c
  go_enter Tryd.func9, Tryd.ntmps9
  go_wp2_with (fail)
  rw [← HW.out]
  have HF := Lib.hid (Fp.refl [] W)
  obtain ⟨k00, k01, k02, k03, k04, k05, k06⟩ := HCELL.out _ HF.out
  go_wp2_with (first
      | (go_at_call 11; (with_reducible refine (Bc.out _).mono ?_); rintro e w1 ⟨rfl, hf⟩; have HF := Lib.hid (HF.out.trans hf (by simp)); clear hf k00 k01 k02 k03 k04 k05 k06; obtain ⟨k00, k01, k02, k03, k04, k05, k06⟩ := HCELL.out _ HF.out)
      | (go_at_call 12; (with_reducible refine (N2.out _ (HMM.out.fp HF.out (by simp))).mono ?_); rintro e w1 ⟨rfl, hf⟩; have HF := Lib.hid (HF.out.trans hf (by simp)); clear hf k00 k01 k02 k03 k04 k05 k06; obtain ⟨k00, k01, k02, k03, k04, k05, k06⟩ := HCELL.out _ HF.out))
  clear k00 k01 k02 k03 k04 k05 k06
  (with_reducible refine (Ds.out _ (HMM.out.fp HF.out (by simp))).mono ?_)
  rintro e w2 ⟨rfl, hf⟩
  have HF := Lib.hid (HF.out.trans hf (by simp))
  clear hf
  go_wp2_with (fail)
  have HX1 := Lib.hid (heap_alloc_at (w := w2) rfl (.cells #[.string X.row, .string X.col, .int .u64 X.ts, .int .u64 X.seq, .bool X.del, .string X.val] 24))
  (with_reducible refine (Qs.out _).mono ?_)
  rintro e w3 ⟨rfl, hf⟩
  have HX2 := Lib.hid ((hf.block _ (heap_lt HX1.out) (by simp)).trans HX1.out)
  have HF := Lib.hid ((HF.out.alloc' _).trans hf (by simp))
  clear hf
  go_wp2_with (fail)
  obtain ⟨V, hV⟩ : ∃ V, V = w3.alloc (.cells #[.string X.row, .string X.col, .int .u64 X.ts, .int .u64 X.seq, .bool X.del, .string X.val] 24) := ⟨_, rfl⟩
  rw [← hV]
  have HF := Lib.hid (show Fp [] W V by rw [hV]; exact HF.out.alloc' _)
  have v1 : V.heap[w2.heap.size]? = some (.cells #[.string X.row, .string X.col, .int .u64 X.ts, .int .u64 X.seq, .bool X.del, .string X.val] 24 (0, 0)) := by rw [hV]; exact heap_alloc_old HX2.out
  have v2 : V.heap[w3.heap.size]? = some (.cells #[.string X.row, .string X.col, .int .u64 X.ts, .int .u64 X.seq, .bool X.del, .string X.val] 24 (0, 0)) := by rw [hV]; exact heap_alloc_at rfl _
  have hall : ∀ w', Fp [] V w' → (w'.cell? ⟨w2.heap.size, 0, none⟩ = some (.string X.row) ∧ w'.cell? ⟨w2.heap.size, 1, none⟩ = some (.string X.col) ∧ w'.cell? ⟨w2.heap.size, 2, none⟩ = some (.int .u64 X.ts) ∧ w'.cell? ⟨w2.heap.size, 3, none⟩ = some (.int .u64 X.seq) ∧ w'.cell? ⟨w2.heap.size, 4, none⟩ = some (.bool X.del) ∧ w'.cell? ⟨w2.heap.size, 5, none⟩ = some (.string X.val)) ∧ (w'.cell? ⟨w3.heap.size, 0, none⟩ = some (.string X.row) ∧ w'.cell? ⟨w3.heap.size, 1, none⟩ = some (.string X.col) ∧ w'.cell? ⟨w3.heap.size, 2, none⟩ = some (.int .u64 X.ts) ∧ w'.cell? ⟨w3.heap.size, 3, none⟩ = some (.int .u64 X.seq) ∧ w'.cell? ⟨w3.heap.size, 4, none⟩ = some (.bool X.del) ∧ w'.cell? ⟨w3.heap.size, 5, none⟩ = some (.string X.val)) := by
    intro w' hf
    have h1 := (hf.block _ (heap_lt v1) (by simp)).trans v1
    have h2 := (hf.block _ (heap_lt v2) (by simp)).trans v2
    exact ⟨⟨cell_of_block h1 0, cell_of_block h1 1, cell_of_block h1 2, cell_of_block h1 3, cell_of_block h1 4, cell_of_block h1 5⟩, ⟨cell_of_block h2 0, cell_of_block h2 1, cell_of_block h2 2, cell_of_block h2 3, cell_of_block h2 4, cell_of_block h2 5⟩⟩
  have HALL := Lib.hid hall
  clear hV v1 v2 hall
  refine wp_region_calm (by kernel_rfl) (by kernel_rfl) ?_
  -- 0
  apply ex_plain rfl rfl rfl
  · intro a w hC hA K hK
    have h2 := hA.free 2 _ (by kernel_rfl) rfl
    obtain ⟨k00, k01, k02, k03, k04, k05, k06⟩ := HCELL.out _ (HF.out.trans hC (by simp))
    obtain ⟨⟨x0, x1, x2, x3, x4, x5⟩, ⟨z0, z1, z2, z3, z4, z5⟩⟩ := HALL.out _ hC
    simp only [Oper.wp, execOp]; go_simp
    exact hK _ hC (Fp.refl _ _)
  -- 1
  apply ex_plain rfl rfl rfl
  · intro a w hC hA K hK
    have h32 : a.tmps[32]?.getD undef = _ := hA.dep 0 32 _ (by kernel_rfl) rfl
    simp only [Oper.wp, execOp]; go_simp
    first
      | ((with_reducible refine (Kc.out _ (HMM.out.fp (HF.out.trans hC (by simp)) (by simp))).mono ?_); rintro e w2 ⟨rfl, hf⟩; exact hK _ (hC.trans hf (by simp)) hf)
      | ((with_reducible refine (Lc.out _).mono ?_); rintro e w2 ⟨rfl, hf⟩; exact hK _ (hC.trans hf (by simp)) hf)
  -- 2
  apply ex_plain rfl rfl rfl
  · intro a w hC hA K hK
    have h2 := hA.free 2 _ (by kernel_rfl) rfl
    obtain ⟨k00, k01, k02, k03, k04, k05, k06⟩ := HCELL.out _ (HF.out.trans hC (by simp))
    obtain ⟨⟨x0, x1, x2, x3, x4, x5⟩, ⟨z0, z1, z2, z3, z4, z5⟩⟩ := HALL.out _ hC
    simp only [Oper.wp, execOp]; go_simp
    exact hK _ hC (Fp.refl _ _)
  -- 3
  apply ex_plain rfl rfl rfl
  · intro a w hC hA K hK
    have h34 : a.tmps[34]?.getD undef = _ := hA.dep 2 34 _ (by kernel_rfl) rfl
    simp only [Oper.wp, execOp]; go_simp
    first
      | ((with_reducible refine (Kc.out _ (HMM.out.fp (HF.out.trans hC (by simp)) (by simp))).mono ?_); rintro e w2 ⟨rfl, hf⟩; exact hK _ (hC.trans hf (by simp)) hf)
      | ((with_reducible refine (Lc.out _).mono ?_); rintro e w2 ⟨rfl, hf⟩; exact hK _ (hC.trans hf (by simp)) hf)
  -- 4
  apply ex_plain rfl rfl rfl
  · intro a w hC hA K hK
    have h33 : a.tmps[33]?.getD undef = _ := hA.dep 1 33 _ (by kernel_rfl) rfl
    have h35 : a.tmps[35]?.getD undef = _ := hA.dep 3 35 _ (by kernel_rfl) rfl
    simp only [Oper.wp, execOp]; go_simp
    exact hK _ hC (Fp.refl _ _)
  -- 5
  apply ex_plain rfl rfl rfl
  · intro a w hC hA K hK
    have h36 : a.tmps[36]?.getD undef = _ := hA.dep 4 36 _ (by kernel_rfl) rfl
    simp only [Oper.wp, execOp]; go_simp
    exact hK _ hC (Fp.refl _ _)
  -- 6
  apply ex_yes 5 37 rfl rfl rfl rfl (by kernel_rfl) rfl rfl
  · intro a w hC hA K hK
    have h5 := hA.free 5 _ (by kernel_rfl) rfl
    obtain ⟨k00, k01, k02, k03, k04, k05, k06⟩ := HCELL.out _ (HF.out.trans hC (by simp))
    obtain ⟨⟨x0, x1, x2, x3, x4, x5⟩, ⟨z0, z1, z2, z3, z4, z5⟩⟩ := HALL.out _ hC
    simp only [Oper.wp, execOp]; go_simp
    exact hK _ hC (Fp.refl _ _)
  -- 7
  apply ex_yes 5 37 rfl rfl rfl rfl (by kernel_rfl) rfl rfl
  · intro a w hC hA K hK
    have h7 := hA.free 7 _ (by kernel_rfl) rfl
    obtain ⟨k00, k01, k02, k03, k04, k05, k06⟩ := HCELL.out _ (HF.out.trans hC (by simp))
    obtain ⟨⟨x0, x1, x2, x3, x4, x5⟩, ⟨z0, z1, z2, z3, z4, z5⟩⟩ := HALL.out _ hC
    simp only [Oper.wp, execOp]; go_simp
    exact hK _ hC (Fp.refl _ _)
  -- 8
  apply ex_yes 5 37 rfl rfl rfl rfl (by kernel_rfl) rfl rfl
  · intro a w hC hA K hK
    have h38 : a.tmps[38]?.getD undef = _ := hA.dep 6 38 _ (by kernel_rfl) rfl
    have h39 : a.tmps[39]?.getD undef = _ := hA.dep 7 39 _ (by kernel_rfl) rfl
    simp only [Oper.wp, execOp]; go_simp
    exact hK _ hC (Fp.refl _ _)
  -- 9
  apply ex_plain rfl rfl rfl
  · intro a w hC hA K hK
    have h37 : a.tmps[37]?.getD undef = _ := hA.dep 5 37 _ (by kernel_rfl) rfl
    have h40 : a.tmps[40]?.getD undef = _ := hA.dep 8 40 _ (by kernel_rfl) rfl
    simp only [Oper.wp, execOp]; go_simp
    exact hK _ hC (Fp.refl _ _)
  -- 10
  apply ex_plain rfl rfl rfl
  · intro a w hC hA K hK
    have h41 : a.tmps[41]?.getD undef = _ := hA.dep 9 41 _ (by kernel_rfl) rfl
    simp only [Oper.wp, execOp]; go_simp
    exact hK _ hC (Fp.refl _ _)
  -- 11
  apply ex_yes 10 42 rfl rfl rfl rfl (by kernel_rfl) rfl rfl
  · intro a w hC hA K hK
    have h6 := hA.free 6 _ (by kernel_rfl) rfl
    simp only [Oper.wp, execOp]; go_simp
    exact hK _ hC (Fp.refl _ _)
  -- 12
  apply ex_yes 10 42 rfl rfl rfl rfl (by kernel_rfl) rfl rfl
  · intro a w hC hA K hK
    have h8 := hA.free 8 _ (by kernel_rfl) rfl
    simp only [Oper.wp, execOp]; go_simp
    exact hK _ hC (Fp.refl _ _)
  -- 13
  apply ex_yes 10 42 rfl rfl rfl rfl (by kernel_rfl) rfl rfl
  · intro a w hC hA K hK
    have h43 : a.tmps[43]?.getD undef = _ := hA.dep 11 43 _ (by kernel_rfl) rfl
    have h44 : a.tmps[44]?.getD undef = _ := hA.dep 12 44 _ (by kernel_rfl) rfl
    simp only [Oper.wp, execOp]; go_simp
    exact hK _ hC (Fp.refl _ _)
  -- 14
  apply ex_plain rfl rfl rfl
  · intro a w hC hA K hK
    have h42 : a.tmps[42]?.getD undef = _ := hA.dep 10 42 _ (by kernel_rfl) rfl
    have h45 : a.tmps[45]?.getD undef = _ := hA.dep 13 45 _ (by kernel_rfl) rfl
    simp only [Oper.wp, execOp]; go_simp
    exact hK _ hC (Fp.refl _ _)
  -- 15
  apply ex_plain rfl rfl rfl
  · intro a w hC hA K hK
    have h46 : a.tmps[46]?.getD undef = _ := hA.dep 14 46 _ (by kernel_rfl) rfl
    simp only [Oper.wp, execOp]; go_simp
    exact hK _ hC (Fp.refl _ _)
  refine ⟨?_, ?_⟩
  · repeat (first | exact trivial | refine stab_val _ ?_ | refine ⟨fun w1 w2 v _ hf ⟨g, h1, h2⟩ => ⟨g, h1, (hf.block g (heap_lt h2) (by simp)).trans h2⟩, ?_⟩)
  · intro w' hC
    simp only [List.reverse_cons, List.reverse_nil, List.nil_append, List.cons_append]
    iterate 16 (refine all_val ?_)
    refine all_nil ?_
    simp only [putAll, Act.put, List.setIfInBounds_toArray, List.set_cons_succ, List.set_cons_zero]
    have HF := Lib.hid (HF.out.trans hC (by simp))
    clear hC
    go_wp2_with (fail)
    go_ret
    exact ⟨rfl, HFW.out.trans HF.out (by simp)⟩
end Go.Proofs.YtlpfijkchbpdmaaDoor
