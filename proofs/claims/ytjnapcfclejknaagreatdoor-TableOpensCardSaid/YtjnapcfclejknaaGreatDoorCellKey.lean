/-
  Key.
-/
import Derived.Test.YtjnapcfclejknaaGreatDoorMem
import Derived.Test.YtjnapcfclejknaaGreatDoorCellA
import Derived.Test.YtjnapcfclejknaaGreatDoorCellLaw
import Derived.Test.YtjnapcfclejknaaGreatDoorBytes
import Derived.Laws.Bits64
import Derived.Outline
namespace Go.Proofs.YtjnapcfclejknaaGreatDoor
open Go.RowKit

def M64 : Nat := 18446744073709551615
def keyL (c : Cel) : List UInt8 := esc c.row.data.toList ++ 0 :: 1 :: (esc c.col.data.toList ++ 0 :: 1 :: (be8 (M64 - c.ts) ++ be8 (M64 - c.seq)))
def keyB (c : Cel) : ByteArray := if mayB c = true then ⟨(keyL c).toArray⟩ else ⟨#[]⟩
def keyPre (c : Cel) : Nat → List UInt8
  | 0 => []
  | 1 => esc c.row.data.toList ++ [0, 1]
  | _ => esc c.row.data.toList ++ [0, 1] ++ esc c.col.data.toList ++ [0, 1]

theorem mayB_true {c : Cel} (h : mayB c = true) : (1 ≤ c.row.size ∧ c.row.size ≤ 40) ∧ (1 ≤ c.col.size ∧ c.col.size ≤ 40) ∧ c.val.size ≤ 100 ∧ (c.del = true → c.val.size = 0) := by
  unfold mayB nmB at h
  simp only [Bool.and_eq_true, decide_eq_true_eq, Bool.or_eq_true, Bool.not_eq_true'] at h
  obtain ⟨⟨⟨h1, h2⟩, h3⟩, h4⟩ := h
  refine ⟨h1, h2, h3, fun hd => ?_⟩
  rcases h4 with h4 | h4
  · rw [hd] at h4; cases h4
  · exact h4

theorem two_news (w : World) (x y : UInt8) : ∀ j (h : j < [x, y].length), (w.alloc (.cells #[byteV x, byteV y] 5)).cell? ⟨w.heap.size, 0 + j, none⟩ = some (byteV [x, y][j]) := by
  intro j hj
  have h2 : j = 0 ∨ j = 1 := by have : j < 2 := hj; omega
  rcases h2 with rfl | rfl
  · exact cell_of_block (heap_alloc_at rfl _) 0
  · exact cell_of_block (heap_alloc_at rfl _) 1
theorem esc_size (s : ByteArray) : (⟨(esc s.data.toList).toArray⟩ : ByteArray).size ≤ 2 * s.size := by
  have h := esc_length s.data.toList
  rw [← Lib.size_eq] at h
  show (esc s.data.toList).toArray.size ≤ _
  simpa using h
theorem keyPre_length (c : Cel) (k : Nat) (hr : c.row.size ≤ 40) (hc : c.col.size ≤ 40) : (keyPre c k).length ≤ 200 := by
  have h1 := esc_length c.row.data.toList
  have h2 := esc_length c.col.data.toList
  rw [← Lib.size_eq] at h1 h2
  unfold keyPre
  split <;> simp only [List.length_append, List.length_cons, List.length_nil] <;> omega
theorem keyPre_step0 (c : Cel) {w : World} {b : Nat} {v : Value} (h : Owned w b v (keyPre c 0 ++ (⟨(esc c.row.data.toList).toArray⟩ : ByteArray).data.toList ++ [0, 1])) : Owned w b v (keyPre c (0 + 1)) := h
theorem keyPre_step1 (c : Cel) {w : World} {b : Nat} {v : Value} (h : Owned w b v (keyPre c 1 ++ (⟨(esc c.col.data.toList).toArray⟩ : ByteArray).data.toList ++ [0, 1])) : Owned w b v (keyPre c (1 + 1)) := h
theorem not_u64 (a : Nat) (h : a < 18446744073709551616) : bits .xor .u64 IntKind.u64.max (a : Int) = ((M64 - a : Nat) : Int) := by
  have h1 := BitVec.toNat_not (x := BitVec.ofNat 64 a)
  rw [BitVec.not_def, BitVec.toNat_xor, BitVec.toNat_allOnes, BitVec.toNat_ofNat, Nat.mod_eq_of_lt h] at h1
  have h2 := bits_xor_u64_nat 18446744073709551615 a (by decide) h
  have h3 : (18446744073709551615 : Nat) ^^^ a = M64 - a := h1
  rw [h3] at h2
  exact h2
theorem keyPre_all (c : Cel) : keyPre c 2 ++ be8 (M64 - c.ts) ++ be8 (M64 - c.seq) = keyL c := by
  unfold keyPre keyL; simp
/-- a name, as ReplaceAll writes it -/
theorem esc_any (s : ByteArray) (w : World) (hm : MaxAt w) (hs : s.size ≤ 1000) :
    Calls Tryz.prog 91 #[.string s, .string ⟨#[0]⟩, .string ⟨#[0, 255]⟩] w fun e w' => e = .returned (.string ⟨(esc s.data.toList).toArray⟩) ∧ Fp [] w w' := by
  obtain ⟨m, hm⟩ := hm
  have hcb : Lib.countB s ⟨#[0]⟩ ≤ s.size := Lib.countB_le ⟨#[0]⟩ (by decide) s.size s (Nat.le_refl _)
  have h2 : (⟨#[0, 255]⟩ : ByteArray).size = 2 := rfl
  refine (Tryz.strings_ReplaceAll s ⟨#[0]⟩ ⟨#[0, 255]⟩ m w (by omega) hm (by decide) (by rw [h2]; omega)).mono ?_
  rintro e w' ⟨rfl, hb⟩
  exact ⟨by rw [← repl_esc], Below.toFp hb⟩

theorem index_two0 (a b : ByteArray) (w : World) : (Instr.index 129 (.agg #[.string a, .string b]) (.int .i64 0)).run Tryz.prog w = .ok (.string a) w := by
  simp [Instr.index, run_underlying Tryz.underlying129, asIntOf, go_sem]
theorem index_two1 (a b : ByteArray) (w : World) : (Instr.index 129 (.agg #[.string a, .string b]) (.int .i64 1)).run Tryz.prog w = .ok (.string b) w := by
  simp [Instr.index, run_underlying Tryz.underlying129, asIntOf, go_sem]
set_option maxRecDepth 100000 in
set_option maxHeartbeats 2000000 in
theorem key_no (c : Cel) (w : World) (hc : CelOK c) (hmay : mayB c = false) : Calls Tryz.prog 60 #[cellV c] w fun e w' => e = .returned (.string ⟨#[]⟩) ∧ Fp [] w w' := by
  have n1 := fun w => may_any c w hc
  rw [hmay] at n1
  unfold cellV at n1 ⊢
  have N1 := Lib.hid n1
  clear n1 hmay
  go_enter Tryz.func60, Tryz.ntmps60
  go_wp2_with (fail)
  refine (N1.out _).mono ?_
  rintro e w1 ⟨rfl, hf1⟩
  have HF1 := Lib.hid hf1
  clear hf1
  go_wp2_with (fail)
  go_ret
  exact ⟨rfl, (Fp.alloc w _).trans HF1.out (by simp)⟩

set_option maxRecDepth 100000 in
set_option maxHeartbeats 2000000 in
theorem key_yes (c : Cel) (w : World) (hc : CelOK c) (hmay : mayB c = true) (hm : MaxAt w) : Calls Tryz.prog 60 #[cellV c] w fun e w' => e = .returned (.string ⟨(keyL c).toArray⟩) ∧ Fp [] w w' := by
  have n1 := fun w => may_any c w hc
  obtain ⟨hr, hk, _⟩ := mayB_true hmay
  rw [hmay] at n1
  have ht := hc.ts
  have hq := hc.seq
  unfold cellV at n1 ⊢
  have N1 := Lib.hid n1
  have HM := Lib.hid hm
  clear n1 hmay hm
  obtain ⟨W, hW⟩ : ∃ W, W = w.alloc (.cells #[.string c.row, .string c.col, .int .u64 c.ts, .int .u64 c.seq, .bool c.del, .string c.val] 34) := ⟨_, rfl⟩
  have hb : W.heap[w.heap.size]? = some (.cells #[.string c.row, .string c.col, .int .u64 c.ts, .int .u64 c.seq, .bool c.del, .string c.val] 34 (0, 0)) := by
    rw [hW]; exact heap_alloc_at rfl _
  have hfw : Fp [] w W := by rw [hW]; exact Fp.alloc _ _
  have hcell : ∀ w', Fp [] W w' → w'.cell? ⟨w.heap.size, 0, none⟩ = some (.string c.row) ∧ w'.cell? ⟨w.heap.size, 1, none⟩ = some (.string c.col) ∧ w'.cell? ⟨w.heap.size, 2, none⟩ = some (.int .u64 c.ts) ∧ w'.cell? ⟨w.heap.size, 3, none⟩ = some (.int .u64 c.seq) ∧ w.heap.size < w'.heap.size := by
    intro w' hf
    have h1 := (hf.block _ (heap_lt hb) (by simp)).trans hb
    exact ⟨cell_of_block h1 0, cell_of_block h1 1, cell_of_block h1 2, cell_of_block h1 3, heap_lt h1⟩
  have HCELL := Lib.hid hcell
  have HFW := Lib.hid hfw
  have HW := Lib.hid hW
  have HMM := Lib.hid (MaxAt.fp HM.out hfw (by simp))
  clear hcell hfw hb hW
  go_enter Tryz.func60, Tryz.ntmps60
  go_wp2_with (fail)
  rw [← HW.out]
  refine (N1.out _).mono ?_
  rintro e w1 ⟨rfl, hf1⟩
  have HF1 := Lib.hid hf1
  obtain ⟨c0, c1, -, -, hlt⟩ := HCELL.out _ hf1
  clear hf1
  go_wp2_with (fail)
  have HLT := Lib.hid hlt
  have hw1 : W.heap.size ≤ w1.heap.size := HF1.out.size
  have hwW : W.heap.size = w.heap.size + 1 := by rw [HW.out]; simp
  clear c0 c1 hlt
  go_loopg [3, 15] 2 (fun g vb vi wr => ∃ k : Nat, g + k = 2 ∧ vi = .int .i64 k ∧ Owned wr W.heap.size vb (keyPre c k) ∧ Fp [] W wr)
  case atStart =>
    refine ⟨0, rfl, rfl, ?_, HF1.out.alloc' _⟩
    exact Owned.made w1 W.heap.size [] (by omega) (by decide)
  case round =>
    obtain ⟨k, hg, rfl, ho, hf⟩ := hrel
    have HO := Lib.hid ho
    have HF := Lib.hid hf
    clear ho hf
    have h3 : k = 0 ∨ k = 1 ∨ k = 2 := by omega
    rcases h3 with rfl | rfl | rfl
    · rw [show ((0 : Nat) : Int) = 0 from rfl]
      have hx := fun w => index_two0 c.row c.col w
      go_wp2_with (fail)
      refine (esc_any c.row _ (HMM.out.fp HF.out (by simp)) (by omega)).mono ?_
      rintro e w2 ⟨rfl, hf2⟩
      have HF2 := Lib.hid (HF.out.trans hf2 (by simp))
      have HO2 := Lib.hid (HO.out.fp hf2)
      have hb2 : W.heap.size ≤ w2.heap.size := by have := HF2.out.size; omega
      have hlen : (keyPre c 0).length + (⟨(esc c.row.data.toList).toArray⟩ : ByteArray).size ≤ 1000000000 := by
        have := keyPre_length c 0 hr.2 hk.2
        have := esc_size c.row
        omega
      have HL := Lib.hid hlen
      clear hf2 hlen
      have hlen : (keyPre c 0 ++ (⟨(esc c.row.data.toList).toArray⟩ : ByteArray).data.toList).length + 2 ≤ 1000000000 := by
        have h4 := keyPre_length c 0 hr.2 hk.2
        have h5 := esc_length c.row.data.toList
        rw [← Lib.size_eq] at h5
        show (keyPre c 0 ++ esc c.row.data.toList).length + 2 ≤ _
        simp only [List.length_append]
        omega
      have HL3 := Lib.hid hlen
      clear hlen
      go_wp2_with (first
        | (at_builtin; refine wpList_append_str rfl _ _ rfl W.heap.size _ _ rfl HO2.out _ rfl HL.out hb2 ?_; intro v3 w3 hown3 hbel3; have HF3 := Lib.hid (HF2.out.belowTrans hbel3); have hb3 : W.heap.size ≤ w3.heap.size := HF3.out.size; have HO3 := Lib.hid hown3; have HCL := Lib.hid (two_news w3 0 1); clear hown3 hbel3)
        | (at_builtin; refine wpList_append_bytes rfl _ _ rfl W.heap.size _ _ rfl (HO3.out.alloc _) w3.heap.size 0 2 2 [0, 1] rfl rfl HCL.out HL3.out (by simp; omega) ?_; intro v4 w4 hown4 hbel4))
      have HF4 := Lib.hid ((HF3.out.alloc' _).belowTrans hbel4)
      have HO4 := Lib.hid hown4
      clear hown4 hbel4
      go_wp2_with (fail)
      go_roundg (gk - 1)
      case measure => omega
      case rel => exact ⟨1, by omega, by go_num, keyPre_step0 c HO4.out, HF4.out⟩
    · rw [show ((1 : Nat) : Int) = 1 from rfl]
      have hx := fun w => index_two1 c.row c.col w
      go_wp2_with (fail)
      refine (esc_any c.col _ (HMM.out.fp HF.out (by simp)) (by omega)).mono ?_
      rintro e w2 ⟨rfl, hf2⟩
      have HF2 := Lib.hid (HF.out.trans hf2 (by simp))
      have HO2 := Lib.hid (HO.out.fp hf2)
      have hb2 : W.heap.size ≤ w2.heap.size := by have := HF2.out.size; omega
      have hlen : (keyPre c 1).length + (⟨(esc c.col.data.toList).toArray⟩ : ByteArray).size ≤ 1000000000 := by
        have := keyPre_length c 1 hr.2 hk.2
        have := esc_size c.col
        omega
      have HL := Lib.hid hlen
      clear hf2 hlen
      have hlen : (keyPre c 1 ++ (⟨(esc c.col.data.toList).toArray⟩ : ByteArray).data.toList).length + 2 ≤ 1000000000 := by
        have h4 := keyPre_length c 1 hr.2 hk.2
        have h5 := esc_length c.col.data.toList
        rw [← Lib.size_eq] at h5
        show (keyPre c 1 ++ esc c.col.data.toList).length + 2 ≤ _
        simp only [List.length_append]
        omega
      have HL3 := Lib.hid hlen
      clear hlen
      go_wp2_with (first
        | (at_builtin; refine wpList_append_str rfl _ _ rfl W.heap.size _ _ rfl HO2.out _ rfl HL.out hb2 ?_; intro v3 w3 hown3 hbel3; have HF3 := Lib.hid (HF2.out.belowTrans hbel3); have hb3 : W.heap.size ≤ w3.heap.size := HF3.out.size; have HO3 := Lib.hid hown3; have HCL := Lib.hid (two_news w3 0 1); clear hown3 hbel3)
        | (at_builtin; refine wpList_append_bytes rfl _ _ rfl W.heap.size _ _ rfl (HO3.out.alloc _) w3.heap.size 0 2 2 [0, 1] rfl rfl HCL.out HL3.out (by simp; omega) ?_; intro v4 w4 hown4 hbel4))
      have HF4 := Lib.hid ((HF3.out.alloc' _).belowTrans hbel4)
      have HO4 := Lib.hid hown4
      clear hown4 hbel4
      go_wp2_with (fail)
      go_roundg (gk - 1)
      case measure => omega
      case rel => exact ⟨2, by omega, by go_num, keyPre_step1 c HO4.out, HF4.out⟩
    · obtain ⟨-, -, c2, c3, hlt⟩ := HCELL.out _ HF.out
      have hbw : W.heap.size ≤ wr.heap.size := HF.out.size
      have NX := Lib.hid (not_u64 c.ts ht)
      have NY := Lib.hid (not_u64 c.seq hq)
      go_wp2_with (fail)
      rw [NX.out]
      refine (big_any wr W.heap.size _ _ (M64 - c.ts) HO.out hbw (by have := keyPre_length c 2 hr.2 hk.2; omega) (by unfold M64; omega)).mono ?_
      rintro e w5 ⟨v5, rfl, ho5, hb5⟩
      have HO5 := Lib.hid ho5
      have hf5 := HF.out.belowTrans hb5
      have HF5 := Lib.hid hf5
      have hbw5 : W.heap.size ≤ w5.heap.size := hf5.size
      obtain ⟨-, -, d2, d3, hlt5⟩ := HCELL.out _ hf5
      clear ho5 hb5 hf5 c2 c3
      go_wp2_with (fail)
      rw [NY.out]
      refine (big_any w5 W.heap.size _ _ (M64 - c.seq) HO5.out hbw5 (by have := keyPre_length c 2 hr.2 hk.2; simp only [List.length_append, be8, List.length_reverse, le8_length]; omega) (by unfold M64; omega)).mono ?_
      rintro e w6 ⟨v6, rfl, ho6, hb6⟩
      have HF6 := Lib.hid (HF5.out.belowTrans hb6)
      have hs := run_str_of ho6
      clear ho6 hb6 d2 d3
      go_wp2_with (fail)
      go_ret
      exact ⟨ret_str (by rw [← keyPre_all, List.append_assoc]), HFW.out.trans HF6.out (by simp)⟩
end Go.Proofs.YtjnapcfclejknaaGreatDoor
