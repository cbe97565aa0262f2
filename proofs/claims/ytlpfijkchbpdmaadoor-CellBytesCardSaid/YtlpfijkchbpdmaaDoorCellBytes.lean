/-
  CellBytes: the walk.
-/
import Derived.Test.YtlpfijkchbpdmaaDoorCellShown
import Derived.Test.YtlpfijkchbpdmaaDoorCellLaw5
namespace Go.Proofs.YtlpfijkchbpdmaaDoor
open Go.RowKit

theorem enc_all (c : Cel) (w : World) (hc : CelOK c) : Calls Tryd.prog 13 #[cellV c] w fun e w' => e = .returned (.tuple #[.string (encB c), .int .i64 (encE c)]) ∧ Fp [] w w' := by
  unfold encB encE
  cases h : mayB c
  · exact enc_no c w hc h
  · exact enc_yes c w hc h
set_option maxRecDepth 100000 in
set_option maxHeartbeats 4000000 in
theorem bytes_walk (w : World) (c : Cel) (s : ByteArray) (oc : CelOK c) (hs : s.size ≤ maxLen) (hm : MaxAt w) :
    Calls Tryd.prog 3 #[cellV c, .string s] w fun e w' => e = .returned (.bool true) ∧ Fp [] w w' := by
  unfold maxLen at hs
  have N2 := Lib.hid shown_any
  obtain ⟨W, hW⟩ : ∃ W, W = (w.alloc (.cells #[.string c.row, .string c.col, .int .u64 c.ts, .int .u64 c.seq, .bool c.del, .string c.val] 24)) := ⟨_, rfl⟩
  have hfw : Fp [] w W := by rw [hW]; exact Fp.alloc _ _
  have hb0 : W.heap[w.heap.size]? = some (.cells #[.string c.row, .string c.col, .int .u64 c.ts, .int .u64 c.seq, .bool c.del, .string c.val] 24 (0, 0)) := by
    rw [hW]
    exact heap_alloc_at (by simp) _
  have hcell : ∀ w', Fp [] W w' → w'.cell? ⟨w.heap.size, 0, none⟩ = some (.string c.row) ∧ w'.cell? ⟨w.heap.size, 1, none⟩ = some (.string c.col) ∧ w'.cell? ⟨w.heap.size, 2, none⟩ = some (.int .u64 c.ts) ∧ w'.cell? ⟨w.heap.size, 3, none⟩ = some (.int .u64 c.seq) ∧ w'.cell? ⟨w.heap.size, 4, none⟩ = some (.bool c.del) ∧ w'.cell? ⟨w.heap.size, 5, none⟩ = some (.string c.val) ∧ w.heap.size < w'.heap.size := by
    intro w' hf
    have h0 := (hf.block _ (heap_lt hb0) (by simp)).trans hb0
    exact ⟨cell_of_block h0 0, cell_of_block h0 1, cell_of_block h0 2, cell_of_block h0 3, cell_of_block h0 4, cell_of_block h0 5, heap_lt h0⟩
  have HCELL := Lib.hid hcell
  have HFW := Lib.hid hfw
  have HW := Lib.hid hW
  have HMM := Lib.hid (MaxAt.fp hm hfw (by simp))
  clear hcell hfw hW hb0 hm
  have b_c := fun w => bounded_any c w oc
  have e_c := fun w => enc_all c w oc
  have r_c := fun w => renc_any c w oc
  have d_s := fun w => dec_any s w hs
  have q_s := fun w => rdec_any s w hs
  rw [dec_ref] at q_s
  obtain ⟨eb, heb⟩ : ∃ x, encB c = x := ⟨_, rfl⟩
  obtain ⟨ee, hee⟩ : ∃ x, encE c = x := ⟨_, rfl⟩
  rw [heb, hee] at e_c r_c
  obtain ⟨⟨X, rr, re⟩, hX⟩ : ∃ x, decP s = x := ⟨_, rfl⟩
  rw [hX] at d_s q_s
  clear heb hee hX
  unfold cellV at b_c e_c r_c d_s q_s ⊢
  simp only at d_s q_s
  by_cases h4 : s.size ≤ 400
  case neg =>
    have h5 : (400 : Int) < (s.size : Int) := by omega
    have Bc := Lib.hid b_c
    have Ec := Lib.hid e_c
    have Rc := Lib.hid r_c
    have Ds := Lib.hid d_s
    have Qs := Lib.hid q_s
    clear b_c e_c r_c d_s q_s
    go_enter Tryd.func3, Tryd.ntmps3
    go_wp2_with (fail)
    rw [← HW.out]
    have HF := Lib.hid (Fp.refl [] W)
    obtain ⟨k00, k01, k02, k03, k04, k05, k06⟩ := HCELL.out _ HF.out
    go_wp2_with (first
        | (go_at_call 11; (with_reducible refine (Bc.out _).mono ?_); rintro e w1 ⟨rfl, hf⟩; have HF := Lib.hid (HF.out.trans hf (by simp)); clear hf k00 k01 k02 k03 k04 k05 k06; obtain ⟨k00, k01, k02, k03, k04, k05, k06⟩ := HCELL.out _ HF.out)
        | (go_at_call 12; (with_reducible refine (N2.out _ (HMM.out.fp HF.out (by simp))).mono ?_); rintro e w1 ⟨rfl, hf⟩; have HF := Lib.hid (HF.out.trans hf (by simp)); clear hf k00 k01 k02 k03 k04 k05 k06; obtain ⟨k00, k01, k02, k03, k04, k05, k06⟩ := HCELL.out _ HF.out))
    go_ret
    exact ⟨rfl, HFW.out.trans HF.out (by simp)⟩
  have h5 : ¬ (400 : Int) < (s.size : Int) := by omega
  cases hy : bdB c
  · rw [hy] at b_c
    clear hy
    have Bc := Lib.hid b_c
    have Ec := Lib.hid e_c
    have Rc := Lib.hid r_c
    have Ds := Lib.hid d_s
    have Qs := Lib.hid q_s
    clear b_c e_c r_c d_s q_s
    go_enter Tryd.func3, Tryd.ntmps3
    go_wp2_with (fail)
    rw [← HW.out]
    have HF := Lib.hid (Fp.refl [] W)
    obtain ⟨k00, k01, k02, k03, k04, k05, k06⟩ := HCELL.out _ HF.out
    go_wp2_with (first
        | (go_at_call 11; (with_reducible refine (Bc.out _).mono ?_); rintro e w1 ⟨rfl, hf⟩; have HF := Lib.hid (HF.out.trans hf (by simp)); clear hf k00 k01 k02 k03 k04 k05 k06; obtain ⟨k00, k01, k02, k03, k04, k05, k06⟩ := HCELL.out _ HF.out)
        | (go_at_call 12; (with_reducible refine (N2.out _ (HMM.out.fp HF.out (by simp))).mono ?_); rintro e w1 ⟨rfl, hf⟩; have HF := Lib.hid (HF.out.trans hf (by simp)); clear hf k00 k01 k02 k03 k04 k05 k06; obtain ⟨k00, k01, k02, k03, k04, k05, k06⟩ := HCELL.out _ HF.out))
    go_ret
    exact ⟨rfl, HFW.out.trans HF.out (by simp)⟩
  rw [hy] at b_c
  clear hy
  have Bc := Lib.hid b_c
  have Ec := Lib.hid e_c
  have Rc := Lib.hid r_c
  have Ds := Lib.hid d_s
  have Qs := Lib.hid q_s
  clear b_c e_c r_c d_s q_s
  go_enter Tryd.func3, Tryd.ntmps3
  go_wp2_with (fail)
  rw [← HW.out]
  have HF := Lib.hid (Fp.refl [] W)
  obtain ⟨k00, k01, k02, k03, k04, k05, k06⟩ := HCELL.out _ HF.out
  go_wp2_with (first
      | (go_at_call 11; (with_reducible refine (Bc.out _).mono ?_); rintro e w1 ⟨rfl, hf⟩; have HF := Lib.hid (HF.out.trans hf (by simp)); clear hf k00 k01 k02 k03 k04 k05 k06; obtain ⟨k00, k01, k02, k03, k04, k05, k06⟩ := HCELL.out _ HF.out)
      | (go_at_call 12; (with_reducible refine (N2.out _ (HMM.out.fp HF.out (by simp))).mono ?_); rintro e w1 ⟨rfl, hf⟩; have HF := Lib.hid (HF.out.trans hf (by simp)); clear hf k00 k01 k02 k03 k04 k05 k06; obtain ⟨k00, k01, k02, k03, k04, k05, k06⟩ := HCELL.out _ HF.out)
      | (go_at_call 13; (with_reducible refine (Ec.out _).mono ?_); rintro e w1 ⟨rfl, hf⟩; have HF := Lib.hid (HF.out.trans hf (by simp)); clear hf k00 k01 k02 k03 k04 k05 k06; obtain ⟨k00, k01, k02, k03, k04, k05, k06⟩ := HCELL.out _ HF.out)
      | (go_at_call 14; (with_reducible refine (Rc.out _).mono ?_); rintro e w1 ⟨rfl, hf⟩; have HF := Lib.hid (HF.out.trans hf (by simp)); clear hf k00 k01 k02 k03 k04 k05 k06; obtain ⟨k00, k01, k02, k03, k04, k05, k06⟩ := HCELL.out _ HF.out))
  clear k00 k01 k02 k03 k04 k05 k06
  refine (Ds.out _).mono ?_
  rintro e w2 ⟨rfl, hf⟩
  have HF := Lib.hid (HF.out.trans hf (by simp))
  clear hf
  go_wp2_with (fail)
  have HX1 := Lib.hid (heap_alloc_at (w := w2) rfl (.cells #[.string X.row, .string X.col, .int .u64 X.ts, .int .u64 X.seq, .bool X.del, .string X.val] 24))
  refine (Qs.out _).mono ?_
  rintro e w3 ⟨rfl, hf⟩
  have HX2 := Lib.hid ((hf.block _ (heap_lt HX1.out) (by simp)).trans HX1.out)
  have HF := Lib.hid ((HF.out.alloc' _).trans hf (by simp))
  have hlt := heap_lt HX2.out
  have x0 := cell_of_block HX2.out 0
  have x1 := cell_of_block HX2.out 1
  have x2 := cell_of_block HX2.out 2
  have x3 := cell_of_block HX2.out 3
  have x4 := cell_of_block HX2.out 4
  have x5 := cell_of_block HX2.out 5
  simp only [List.getElem?_toArray, List.getElem?_cons_succ, List.getElem?_cons_zero] at x0 x1 x2 x3 x4 x5
  clear hf
  go_wp2_with (fail)
  go_ret
  exact ⟨rfl, HFW.out.trans (HF.out.alloc' _) (by simp)⟩
end Go.Proofs.YtlpfijkchbpdmaaDoor
