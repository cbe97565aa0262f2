/-
  CellBack: the walk.
-/
import Derived.Test.YtlpfijkchbpdmaaDoorCellShown
import Derived.Test.YtlpfijkchbpdmaaDoorCellLaw6
namespace Go.Proofs.YtlpfijkchbpdmaaDoor
open Go.RowKit

set_option maxRecDepth 100000 in
set_option maxHeartbeats 4000000 in
theorem back_walk (w : World) (c : Cel) (s : ByteArray) (oc : CelOK c) (hs : s.size ≤ maxLen) (hm : MaxAt w) :
    Calls Tryd.prog 10 #[cellV c, .string s] w fun e w' => e = .returned (.bool true) ∧ Fp [] w w' := by
  unfold maxLen at hs
  have N2 := Lib.hid shown_any
  obtain ⟨W, hW⟩ : ∃ W, W = (w.alloc (.cells #[.string c.row, .string c.col, .int .u64 c.ts, .int .u64 c.seq, .bool c.del, .string c.val] 24)) := ⟨_, rfl⟩
  have hfw : Fp [] w W := by rw [hW]; exact Fp.alloc _ _
  have hb0 : W.heap[w.heap.size]? = some (.cells #[.string c.row, .string c.col, .int .u64 c.ts, .int .u64 c.seq, .bool c.del, .string c.val] 24 (0, 0)) := by
    rw [hW]
    exact heap_alloc_at (by simp) _
  have hcell : ∀ w', Fp [] W w' → w'.cell? ⟨w.heap.size, 0, none⟩ = some (.string c.row) ∧ w'.cell? ⟨w.heap.size, 1, none⟩ = some (.string c.col) ∧ w'.cell? ⟨w.heap.size, 2, none⟩ = some (.int .u64 c.ts) ∧ w'.cell? ⟨w.heap.size, 3, none⟩ = some (.int .u64 c.seq) ∧ w'.cell? ⟨w.heap.size, 4, none⟩ = some (.bool c.del) ∧ w'.cell? ⟨w.heap.size, 5, none⟩ = some (.string c.val) ∧ w.heap.size < w'.heap.size := by
    intro w' hf
    have h0 := (hf.block _ (heap_lt hb0) (by simp)).trans hb0
    exact ⟨cell_of_block h0 0, cell_of_block h0 1, cell_of_block h0 2, cell_of_block h0 3, cell_of_block h0 4, cell_of_block h0 5, heap_lt h0⟩
  have HCELL := Lib.hid hcell
  have HFW := Lib.hid hfw
  have HW := Lib.hid hW
  have HMM := Lib.hid (MaxAt.fp hm hfw (by simp))
  clear hcell hfw hW hb0 hm
  have b_c := fun w => bounded_any c w oc
  have e_n := fun w hmay => enc_no c w oc hmay
  have e_y := fun w hmay => enc_yes c w oc hmay
  have k_n := fun w hmay => key_no c w oc hmay
  have k_y := fun w hmay hm => key_yes c w oc hmay hm
  have m_c := fun w => may_any c w oc
  unfold cellV at b_c e_n e_y k_n k_y m_c ⊢
  cases hy : bdB c
  · rw [hy] at b_c
    clear hy
    have Bc := Lib.hid b_c
    clear b_c
    clear e_n e_y k_n k_y m_c
    go_enter Tryd.func10, Tryd.ntmps10
    go_wp2_with (fail)
    rw [← HW.out]
    have HF := Lib.hid (Fp.refl [] W)
    obtain ⟨k00, k01, k02, k03, k04, k05, k06⟩ := HCELL.out _ HF.out
    go_wp2_with (first
        | (go_at_call 11; (with_reducible refine (Bc.out _).mono ?_); rintro e w1 ⟨rfl, hf⟩; have HF := Lib.hid (HF.out.trans hf (by simp)); clear hf k00 k01 k02 k03 k04 k05 k06; obtain ⟨k00, k01, k02, k03, k04, k05, k06⟩ := HCELL.out _ HF.out)
        | (go_at_call 12; (with_reducible refine (N2.out _ (HMM.out.fp HF.out (by simp))).mono ?_); rintro e w1 ⟨rfl, hf⟩; have HF := Lib.hid (HF.out.trans hf (by simp)); clear hf k00 k01 k02 k03 k04 k05 k06; obtain ⟨k00, k01, k02, k03, k04, k05, k06⟩ := HCELL.out _ HF.out))
    go_ret
    exact ⟨rfl, HFW.out.trans HF.out (by simp)⟩
  rw [hy] at b_c
  clear hy
  by_cases h4 : s.size ≤ 300
  case neg =>
    have h5 : (300 : Int) < (s.size : Int) := by omega
    have Bc := Lib.hid b_c
    clear b_c
    clear e_n e_y k_n k_y m_c
    go_enter Tryd.func10, Tryd.ntmps10
    go_wp2_with (fail)
    rw [← HW.out]
    have HF := Lib.hid (Fp.refl [] W)
    obtain ⟨k00, k01, k02, k03, k04, k05, k06⟩ := HCELL.out _ HF.out
    go_wp2_with (first
        | (go_at_call 11; (with_reducible refine (Bc.out _).mono ?_); rintro e w1 ⟨rfl, hf⟩; have HF := Lib.hid (HF.out.trans hf (by simp)); clear hf k00 k01 k02 k03 k04 k05 k06; obtain ⟨k00, k01, k02, k03, k04, k05, k06⟩ := HCELL.out _ HF.out)
        | (go_at_call 12; (with_reducible refine (N2.out _ (HMM.out.fp HF.out (by simp))).mono ?_); rintro e w1 ⟨rfl, hf⟩; have HF := Lib.hid (HF.out.trans hf (by simp)); clear hf k00 k01 k02 k03 k04 k05 k06; obtain ⟨k00, k01, k02, k03, k04, k05, k06⟩ := HCELL.out _ HF.out))
    go_ret
    exact ⟨rfl, HFW.out.trans HF.out (by simp)⟩
  have h5 : ¬ (300 : Int) < (s.size : Int) := by omega
  cases hmay : mayB c
  · have Bc := Lib.hid b_c
    clear b_c
    have Ec := Lib.hid (fun w => e_n w hmay)
    have Kc := Lib.hid (fun w => k_n w hmay)
    rw [hmay] at m_c
    have Mc := Lib.hid m_c
    clear hmay
    clear e_n e_y k_n k_y m_c
    go_enter Tryd.func10, Tryd.ntmps10
    go_wp2_with (fail)
    rw [← HW.out]
    have HF := Lib.hid (Fp.refl [] W)
    obtain ⟨k00, k01, k02, k03, k04, k05, k06⟩ := HCELL.out _ HF.out
    go_wp2_with (first
        | (go_at_call 11; (with_reducible refine (Bc.out _).mono ?_); rintro e w1 ⟨rfl, hf⟩; have HF := Lib.hid (HF.out.trans hf (by simp)); clear hf k00 k01 k02 k03 k04 k05 k06; obtain ⟨k00, k01, k02, k03, k04, k05, k06⟩ := HCELL.out _ HF.out)
        | (go_at_call 12; (with_reducible refine (N2.out _ (HMM.out.fp HF.out (by simp))).mono ?_); rintro e w1 ⟨rfl, hf⟩; have HF := Lib.hid (HF.out.trans hf (by simp)); clear hf k00 k01 k02 k03 k04 k05 k06; obtain ⟨k00, k01, k02, k03, k04, k05, k06⟩ := HCELL.out _ HF.out)
        | (go_at_call 13; (with_reducible refine (Ec.out _).mono ?_); rintro e w1 ⟨rfl, hf⟩; have HF := Lib.hid (HF.out.trans hf (by simp)); clear hf k00 k01 k02 k03 k04 k05 k06; obtain ⟨k00, k01, k02, k03, k04, k05, k06⟩ := HCELL.out _ HF.out)
        | (go_at_call 18; (with_reducible refine (Kc.out _).mono ?_); rintro e w1 ⟨rfl, hf⟩; have HF := Lib.hid (HF.out.trans hf (by simp)); clear hf k00 k01 k02 k03 k04 k05 k06; obtain ⟨k00, k01, k02, k03, k04, k05, k06⟩ := HCELL.out _ HF.out)
        | (go_at_call 17; (with_reducible refine (Mc.out _).mono ?_); rintro e w1 ⟨rfl, hf⟩; have HF := Lib.hid (HF.out.trans hf (by simp)); clear hf k00 k01 k02 k03 k04 k05 k06; obtain ⟨k00, k01, k02, k03, k04, k05, k06⟩ := HCELL.out _ HF.out))
    go_ret
    exact ⟨rfl, HFW.out.trans HF.out (by simp)⟩
  obtain ⟨hr, hk, hv, _⟩ := mayB_true hmay
  have hen := dec_enc c oc hmay s.data.toList
  have hkey := fkP_key c.row c.col c.ts c.seq (by have := oc.ts; unfold M64; omega) (by have := oc.seq; unfold M64; omega) (may_coord hmay)
  have hkl : keyL (coordC c.row c.col c.ts c.seq) = keyL c := rfl
  rw [hkl] at hkey
  rw [← bl_append, bl_data] at hen
  obtain ⟨eb, heb⟩ : ∃ x, bl (encL c) = x := ⟨_, rfl⟩
  obtain ⟨kb, hkb⟩ : ∃ x, bl (keyL c) = x := ⟨_, rfl⟩
  have z1 : eb.size ≤ 1000 := by
    rw [← heb, bl_size]
    have h1 := Lib.size_eq c.row
    have h2 := Lib.size_eq c.col
    have h3 := Lib.size_eq c.val
    unfold encL
    simp only [List.length_append, List.length_cons, List.length_nil, le8_length]
    omega
  have z2 : kb.size ≤ 1000 := by
    rw [← hkb, bl_size]
    have h1 := esc_length c.row.data.toList
    have h2 := esc_length c.col.data.toList
    rw [← Lib.size_eq] at h1 h2
    unfold keyL
    simp only [List.length_append, List.length_cons, be8_length]
    omega
  rw [heb] at hen
  rw [hkb] at hkey
  have d_s := fun w => dec_any (eb ++ s) w (by rw [ByteArray.size_append]; omega)
  rw [hen] at d_s
  have f_k := fun w hm => fromkey_any kb w hm (by omega)
  rw [hkey] at f_k
  unfold cellV at d_s f_k
  simp only [coordC] at d_s f_k
  have e_y2 : ∀ w, Calls Tryd.prog 13 #[.agg #[.string c.row, .string c.col, .int .u64 c.ts, .int .u64 c.seq, .bool c.del, .string c.val]] w fun e w' => e = .returned (.tuple #[.string eb, .int .i64 0]) ∧ Fp [] w w' := by rw [← heb]; exact fun w => e_y w hmay
  have k_y2 : ∀ w, MaxAt w → Calls Tryd.prog 18 #[.agg #[.string c.row, .string c.col, .int .u64 c.ts, .int .u64 c.seq, .bool c.del, .string c.val]] w fun e w' => e = .returned (.string kb) ∧ Fp [] w w' := by rw [← hkb]; exact fun w hm => k_y w hmay hm
  have Bc := Lib.hid b_c
  clear b_c
  have Ec := Lib.hid e_y2
  have Kc := Lib.hid k_y2
  have Ds := Lib.hid d_s
  have Fk := Lib.hid f_k
  clear e_y2 k_y2 d_s f_k hen hkey hkl heb hkb hmay hr hk hv
  clear e_n e_y k_n k_y m_c
  go_enter Tryd.func10, Tryd.ntmps10
  go_wp2_with (fail)
  rw [← HW.out]
  have HF := Lib.hid (Fp.refl [] W)
  obtain ⟨k00, k01, k02, k03, k04, k05, k06⟩ := HCELL.out _ HF.out
  go_wp2_with (first
      | (go_at_call 11; (with_reducible refine (Bc.out _).mono ?_); rintro e w1 ⟨rfl, hf⟩; have HF := Lib.hid (HF.out.trans hf (by simp)); clear hf k00 k01 k02 k03 k04 k05 k06; obtain ⟨k00, k01, k02, k03, k04, k05, k06⟩ := HCELL.out _ HF.out)
      | (go_at_call 12; (with_reducible refine (N2.out _ (HMM.out.fp HF.out (by simp))).mono ?_); rintro e w1 ⟨rfl, hf⟩; have HF := Lib.hid (HF.out.trans hf (by simp)); clear hf k00 k01 k02 k03 k04 k05 k06; obtain ⟨k00, k01, k02, k03, k04, k05, k06⟩ := HCELL.out _ HF.out)
      | (go_at_call 13; (with_reducible refine (Ec.out _).mono ?_); rintro e w1 ⟨rfl, hf⟩; have HF := Lib.hid (HF.out.trans hf (by simp)); clear hf k00 k01 k02 k03 k04 k05 k06; obtain ⟨k00, k01, k02, k03, k04, k05, k06⟩ := HCELL.out _ HF.out)
      | (go_at_call 18; (with_reducible refine (Kc.out _ (HMM.out.fp HF.out (by simp))).mono ?_); rintro e w1 ⟨rfl, hf⟩; have HF := Lib.hid (HF.out.trans hf (by simp)); clear hf k00 k01 k02 k03 k04 k05 k06; obtain ⟨k00, k01, k02, k03, k04, k05, k06⟩ := HCELL.out _ HF.out))
  clear k00 k01 k02 k03 k04 k05 k06
  (with_reducible refine (Ds.out _).mono ?_)
  rintro e w2 ⟨rfl, hf⟩
  have HF := Lib.hid (HF.out.trans hf (by simp))
  clear hf
  go_wp2_with (fail)
  have HX1 := Lib.hid (heap_alloc_at (w := w2) rfl (.cells #[.string c.row, .string c.col, .int .u64 c.ts, .int .u64 c.seq, .bool c.del, .string c.val] 24))
  have HF := Lib.hid (HF.out.alloc' (.cells #[.string c.row, .string c.col, .int .u64 c.ts, .int .u64 c.seq, .bool c.del, .string c.val] 24))
  (with_reducible refine (Fk.out _ (HMM.out.fp HF.out (by simp))).mono ?_)
  rintro e w3 ⟨rfl, hf⟩
  have HX2 := Lib.hid ((hf.block _ (heap_lt HX1.out) (by simp)).trans HX1.out)
  have HF := Lib.hid (HF.out.trans hf (by simp))
  have hlt := heap_lt HX2.out
  have x0 := cell_of_block HX2.out 0
  have x1 := cell_of_block HX2.out 1
  have x2 := cell_of_block HX2.out 2
  have x3 := cell_of_block HX2.out 3
  have x4 := cell_of_block HX2.out 4
  have x5 := cell_of_block HX2.out 5
  simp only [List.getElem?_toArray, List.getElem?_cons_succ, List.getElem?_cons_zero] at x0 x1 x2 x3 x4 x5
  obtain ⟨k00, k01, k02, k03, k04, k05, k06⟩ := HCELL.out _ HF.out
  clear hf
  go_wp2_with (fail)
  go_ret
  exact ⟨rfl, HFW.out.trans (HF.out.alloc' _) (by simp)⟩
end Go.Proofs.YtlpfijkchbpdmaaDoor
