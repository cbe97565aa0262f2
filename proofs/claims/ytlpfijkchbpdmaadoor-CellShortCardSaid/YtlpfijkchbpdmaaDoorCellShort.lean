/-
  CellShort: the walk.
-/
import Derived.Test.YtlpfijkchbpdmaaDoorCellShown
namespace Go.Proofs.YtlpfijkchbpdmaaDoor
open Go.RowKit

set_option maxRecDepth 100000 in
set_option maxHeartbeats 4000000 in
theorem short_walk (w : World) (c : Cel) (cut : Int) (hc : CelOK c) (h0 : 0 ≤ cut) (h1 : cut ≤ 65535) (hm : MaxAt w) :
    Calls Tryd.prog 6 #[cellV c, .int .u16 cut] w fun e w' => e = .returned (.bool true) ∧ Fp [] w w' := by
  have n1 := fun w => bounded_any c w hc
  have HM := Lib.hid hm
  have N2 := Lib.hid shown_any
  obtain ⟨W, hW⟩ : ∃ W, W = w.alloc (.cells #[.string c.row, .string c.col, .int .u64 c.ts, .int .u64 c.seq, .bool c.del, .string c.val] 24) := ⟨_, rfl⟩
  have hb : W.heap[w.heap.size]? = some (.cells #[.string c.row, .string c.col, .int .u64 c.ts, .int .u64 c.seq, .bool c.del, .string c.val] 24 (0, 0)) := by
    rw [hW]; exact heap_alloc_at rfl _
  have hfw : Fp [] w W := by rw [hW]; exact Fp.alloc _ _
  have hcell : ∀ w', Fp [] W w' → w'.cell? ⟨w.heap.size, 0, none⟩ = some (.string c.row) ∧ w'.cell? ⟨w.heap.size, 1, none⟩ = some (.string c.col) ∧ w'.cell? ⟨w.heap.size, 2, none⟩ = some (.int .u64 c.ts) ∧ w'.cell? ⟨w.heap.size, 3, none⟩ = some (.int .u64 c.seq) ∧ w'.cell? ⟨w.heap.size, 4, none⟩ = some (.bool c.del) ∧ w'.cell? ⟨w.heap.size, 5, none⟩ = some (.string c.val) ∧ w.heap.size < w'.heap.size := by
    intro w' hf
    have h1 := (hf.block _ (heap_lt hb) (by simp)).trans hb
    exact ⟨cell_of_block h1 0, cell_of_block h1 1, cell_of_block h1 2, cell_of_block h1 3, cell_of_block h1 4, cell_of_block h1 5, heap_lt h1⟩
  have HCELL := Lib.hid hcell
  have HFW := Lib.hid hfw
  have HW := Lib.hid hW
  have HMM := Lib.hid (MaxAt.fp hm hfw (by simp))
  clear hcell hfw hb hW hm
  have hen := fun w hmay => enc_no c w hc hmay
  have hey := fun w hmay => enc_yes c w hc hmay
  unfold cellV at n1 hen hey ⊢
  cases hbd : bdB c
  · rw [hbd] at n1
    have N1 := Lib.hid n1
    clear n1 hen hey hbd
    go_enter Tryd.func6, Tryd.ntmps6
    go_wp2_with (fail)
    rw [← HW.out]
    refine (N1.out _).mono ?_
    rintro e w1 ⟨rfl, hf1⟩
    have HF1 := Lib.hid hf1
    clear hf1
    go_wp2_with (fail)
    refine (N2.out _ (HMM.out.fp HF1.out (by simp))).mono ?_
    rintro e w2 ⟨rfl, hf2⟩
    have HF2 := Lib.hid hf2
    clear hf2
    go_wp2_with (fail)
    go_ret
    exact ⟨rfl, (HFW.out.trans HF1.out (by simp)).trans HF2.out (by simp)⟩
  · rw [hbd] at n1
    have N1 := Lib.hid n1
    clear n1 hbd
    cases hmay : mayB c
    · have E1 := Lib.hid (fun w => hen w hmay)
      clear hen hey hmay
      go_enter Tryd.func6, Tryd.ntmps6
      go_wp2_with (fail)
      rw [← HW.out]
      refine (N1.out _).mono ?_
      rintro e w1 ⟨rfl, hf1⟩
      have HF1 := Lib.hid hf1
      clear hf1
      go_wp2_with (fail)
      refine (N2.out _ (HMM.out.fp HF1.out (by simp))).mono ?_
      rintro e w2 ⟨rfl, hf2⟩
      have HF2 := Lib.hid (HF1.out.trans hf2 (by simp))
      obtain ⟨c0, c1, c2, c3, c4, c5, -⟩ := HCELL.out _ HF2.out
      clear hf2
      go_wp2_with (fail)
      refine (E1.out _).mono ?_
      rintro e w3 ⟨rfl, hf3⟩
      have HF3 := Lib.hid (HF2.out.trans hf3 (by simp))
      clear hf3
      go_wp2_with (fail)
      go_ret
      exact ⟨rfl, HFW.out.trans HF3.out (by simp)⟩
    · have E1 := Lib.hid (fun w => hey w hmay)
      have hlen : 0 < (encL c).length ∧ (encL c).length ≤ 1000 := by
        obtain ⟨hr, hk, hv, _⟩ := mayB_true hmay
        have h1 := Lib.size_eq c.row
        have h2 := Lib.size_eq c.col
        have h3 := Lib.size_eq c.val
        unfold encL
        simp only [List.length_append, List.length_cons, List.length_nil, le8_length]
        omega
      obtain ⟨k, rfl⟩ : ∃ k : Nat, cut = k := ⟨cut.toNat, by omega⟩
      have hcut := dec_cut c hc hmay (k % (encL c).length) (Nat.mod_lt _ hlen.1)
      obtain ⟨s, hs⟩ : ∃ s, s = bl (encL c) := ⟨_, rfl⟩
      have hsz : s.size = (encL c).length := by rw [hs, bl_size]
      have hex : bl ((encL c).take (k % (encL c).length)) = s.extract 0 (k % s.size) := by
        rw [hs, bl_extract, bl_size]; simp
      rw [hex] at hcut
      have hd := fun w => dec_any (s.extract 0 (k % s.size)) w (by rw [ByteArray.size_extract]; omega)
      rw [hcut] at hd
      have D1 : Hid (∀ w, Calls Tryd.prog 15 #[.string (s.extract 0 (k % s.size))] w fun e w' => e = .returned (.tuple #[.agg #[.string ⟨#[]⟩, .string ⟨#[]⟩, .int .u64 0, .int .u64 0, .bool false, .string ⟨#[]⟩], .string ⟨#[]⟩, .int .i64 10]) ∧ Fp [] w w') := hd
      have hs0 : 0 < s.size := by omega
      have hs1 : s.size ≤ 1000 := by omega
      have hmod : k % s.size ≤ s.size := Nat.le_of_lt (Nat.mod_lt _ hs0)
      have E2 : Hid (∀ w, Calls Tryd.prog 13 #[.agg #[.string c.row, .string c.col, .int .u64 c.ts, .int .u64 c.seq, .bool c.del, .string c.val]] w fun e w' => e = .returned (.tuple #[.string s, .int .i64 0]) ∧ Fp [] w w') := by
        rw [hs]; exact E1.out
      clear hen hey hmay hcut hex hsz hs hd E1 hlen
      go_enter Tryd.func6, Tryd.ntmps6
      go_wp2_with (fail)
      rw [← HW.out]
      refine (N1.out _).mono ?_
      rintro e w1 ⟨rfl, hf1⟩
      have HF1 := Lib.hid hf1
      clear hf1
      go_wp2_with (fail)
      refine (N2.out _ (HMM.out.fp HF1.out (by simp))).mono ?_
      rintro e w2 ⟨rfl, hf2⟩
      have HF2 := Lib.hid (HF1.out.trans hf2 (by simp))
      obtain ⟨c0, c1, c2, c3, c4, c5, -⟩ := HCELL.out _ HF2.out
      clear hf2
      go_wp2_with (fail)
      refine (E2.out _).mono ?_
      rintro e w3 ⟨rfl, hf3⟩
      have HF3 := Lib.hid (HF2.out.trans hf3 (by simp))
      clear hf3 c0 c1 c2 c3 c4 c5
      go_wp2_with (fail)
      refine (D1.out _).mono ?_
      rintro e w4 ⟨rfl, hf4⟩
      have HF4 := Lib.hid (HF3.out.trans hf4 (by simp))
      clear hf4
      go_wp2_with (fail)
      go_ret
      exact ⟨rfl, HFW.out.trans (HF4.out.alloc' _) (by simp)⟩
end Go.Proofs.YtlpfijkchbpdmaaDoor
