/-
  The reference of layer 1: name, Key, part. The reference of layer 1: Key, part. The reference of layer 1: Decode. The reference of layer 1: FromKey.
-/
import Derived.Test.YtjnapcfclejknaaGreatDoorRefC
namespace Go.Proofs.YtjnapcfclejknaaGreatDoor
section
open Go.RowKit

theorem esc_append (a b : List UInt8) : esc (a ++ b) = esc a ++ esc b := by
  induction a with
  | nil => rfl
  | cons x a ih =>
    by_cases h : x = 0
    · subst h; rw [List.cons_append, esc_zero, esc_zero, ih]; rfl
    · rw [List.cons_append, esc_one h, esc_one h, ih]; rfl
theorem take_at {s : ByteArray} {k : Nat} (h : k < s.size) : s.data.toList.take (k + 1) = s.data.toList.take k ++ [atB s k] := by
  have hl : k < s.data.toList.length := by rw [← Lib.size_eq]; exact h
  rw [List.take_succ_eq_append_getElem hl]
  congr 2
  unfold atB
  rw [List.getD_eq_getElem?_getD, List.getElem?_eq_getElem hl]
  rfl
theorem esc_take {s : ByteArray} {k : Nat} (h : k < s.size) : esc (s.data.toList.take (k + 1)) = esc (s.data.toList.take k) ++ esc [atB s k] := by
  rw [take_at h, esc_append]
theorem esc_take_length (s : ByteArray) (k : Nat) : (esc (s.data.toList.take k)).length ≤ 2 * s.size := by
  have h := esc_length (s.data.toList.take k)
  have h2 := List.length_take_le k s.data.toList
  have h3 : (s.data.toList.take k).length ≤ s.data.toList.length := by rw [List.length_take]; omega
  rw [← Lib.size_eq] at h3
  omega
theorem ofNat_toNat (y : UInt8) : UInt8.ofNat y.toNat = y := by simp

set_option maxRecDepth 100000 in
set_option maxHeartbeats 4000000 in
theorem rname_any (s : ByteArray) (w : World) (hs : s.size ≤ 100000) :
    Calls Tryz.prog 97 #[.string s] w fun e w' => e = .returned (.string (bl (esc s.data.toList ++ [0, 1]))) ∧ Fp [] w w' := by
  go_enter Tryz.func97, Tryz.ntmps97
  go_wp2_with (fail)
  go_loopg [3, 4] s.size (fun g vb vi wr => ∃ k : Nat, g + k = s.size ∧ vi = .int .i64 k ∧ Owned wr w.heap.size vb (esc (s.data.toList.take k)) ∧ Fp [] w wr)
  case atStart => exact ⟨0, rfl, rfl, Owned.made w w.heap.size [] (Nat.le_refl _) (by decide), Fp.alloc _ _⟩
  case round =>
    obtain ⟨k, hg, rfl, ho, hf⟩ := hrel
    have HO := Lib.hid ho
    have HF := Lib.hid hf
    have hbw := hf.size
    have hle := esc_take_length s k
    clear ho hf
    by_cases hk : k < s.size
    · have HE := Lib.hid (esc_take hk)
      have hat := at_any hk
      have hy8 : (atB s k).toNat < 256 := (atB s k).toNat_lt
      obtain ⟨y, hy⟩ : ∃ y, atB s k = y := ⟨_, rfl⟩
      rw [hy] at HE hat hy8
      have HL : Hid ((esc (s.data.toList.take k)).length + 1 ≤ 1000000000) := by unfold Hid; omega
      clear hy
      by_cases hz : y = 0
      · subst hz
        have HL2 : Hid ((esc (s.data.toList.take k) ++ [UInt8.ofNat 0]).length + 1 ≤ 1000000000) := by unfold Hid; rw [List.length_append]; simp only [List.length_cons, List.length_nil]; omega
        have R1 : Hid (∀ w : World, Reads (w.alloc (.cells #[.int .u8 0] 5)) (.slice (some ⟨w.heap.size, 0, none⟩) 1 1) [UInt8.ofNat 0]) := fun w => Reads.one w (n := 0) (by decide)
        have R2 : Hid (∀ w : World, Reads (w.alloc (.cells #[.int .u8 255] 5)) (.slice (some ⟨w.heap.size, 0, none⟩) 1 1) [UInt8.ofNat 255]) := fun w => Reads.one w (n := 255) (by decide)
        go_wp2_with (first
          | (at_builtin; with_reducible refine wpList_append_reads rfl _ _ rfl w.heap.size _ _ rfl (HO.out.alloc _) _ _ rfl (R1.out _) HL.out (by simp; omega) ?_; intro v3 w3 hown3 hbel3; have HF3 := Lib.hid ((HF.out.alloc' _).belowTrans hbel3); have hb3 : w.heap.size ≤ w3.heap.size := HF3.out.size; have HO3 := Lib.hid hown3; clear hown3 hbel3)
          | (at_builtin; with_reducible refine wpList_append_reads rfl _ _ rfl w.heap.size _ _ rfl (HO3.out.alloc _) _ _ rfl (R2.out _) HL2.out (by simp; omega) ?_; intro v4 w4 hown4 hbel4; have HF4 := Lib.hid ((HF3.out.alloc' _).belowTrans hbel4); have HO4 := Lib.hid hown4; clear hown4 hbel4))
        go_roundg (gk - 1)
        case measure => omega
        case rel => exact ⟨k + 1, by omega, by go_num, by rw [HE.out]; have := HO4.out; rw [List.append_assoc] at this; exact this, HF4.out⟩
      · have hyn : ¬ ((y.toNat : Int) = 0) := fun h => hz (UInt8.toNat_inj.1 (by show y.toNat = 0; omega))
        have t1 : ((y.toNat : Int) == 0) = false := by simpa using hyn
        have R1 : Hid (∀ w : World, Reads (w.alloc (.cells #[.int .u8 y.toNat] 5)) (.slice (some ⟨w.heap.size, 0, none⟩) 1 1) [UInt8.ofNat y.toNat]) := fun w => Reads.one w (n := y.toNat) hy8
        have HE2 : Hid (esc [y] = [UInt8.ofNat y.toNat]) := by unfold Hid; rw [ofNat_toNat, esc_one hz]; rfl
        go_wp2_with (first
          | (at_builtin; with_reducible refine wpList_append_reads rfl _ _ rfl w.heap.size _ _ rfl (HO.out.alloc _) _ _ rfl (R1.out _) HL.out (by simp; omega) ?_; intro v3 w3 hown3 hbel3; have HF3 := Lib.hid ((HF.out.alloc' _).belowTrans hbel3); have HO3 := Lib.hid hown3; clear hown3 hbel3))
        go_roundg (gk - 1)
        case measure => omega
        case rel => exact ⟨k + 1, by omega, by go_num, by rw [HE.out, HE2.out]; exact HO3.out, HF3.out⟩
    · have hkk : k = s.size := by omega
      have h2 := HO.out
      rw [hkk, Lib.size_eq, List.take_length] at h2
      have HO2 := Lib.hid h2
      have HL : Hid ((esc s.data.toList).length + 2 ≤ 1000000000) := by
        unfold Hid
        have := esc_length s.data.toList
        rw [← Lib.size_eq] at this
        omega
      have R1 : Hid (∀ w : World, Reads (w.alloc (.cells #[.int .u8 0, .int .u8 1] 5)) (.slice (some ⟨w.heap.size, 0, none⟩) 2 2) [0, 1]) := fun w => Or.inr ⟨w.heap.size, 0, 2, rfl, by simp, two_news w 0 1⟩
      clear h2 hkk
      go_wp2_with (first
        | (at_builtin; with_reducible refine wpList_append_reads rfl _ _ rfl w.heap.size _ _ rfl (HO2.out.alloc _) _ _ rfl (R1.out _) HL.out (by simp; omega) ?_; intro v3 w3 hown3 hbel3; have HF3 := Lib.hid ((HF.out.alloc' _).belowTrans hbel3); have hstr := run_str_of hown3; clear hown3 hbel3))
      go_ret
      exact ⟨rfl, HF3.out⟩
end

section
open Go.RowKit

theorem keyL_names (c : Cel) : bl (esc c.row.data.toList ++ [0, 1]) ++ bl (esc c.col.data.toList ++ [0, 1]) ++ bl (be8 (M64 - c.ts)) ++ bl (be8 (M64 - c.seq)) = bl (keyL c) := by
  simp only [bl_append]
  unfold keyL
  simp
theorem wrap_most {a : Nat} (h : a < 18446744073709551616) : IntKind.u64.wrap (18446744073709551615 - (a : Int)) = ((M64 - a : Nat) : Int) := by
  rw [IntKind.wrap_u64]; unfold M64; omega

set_option maxRecDepth 100000 in
set_option maxHeartbeats 4000000 in
theorem rkey_any (c : Cel) (w : World) (hc : CelOK c) : Calls Tryz.prog 70 #[cellV c] w fun e w' => e = .returned (.string (keyB c)) ∧ Fp [] w w' := by
  have n1 := fun w => rmay_any c w hc
  have ht := hc.ts
  have hq := hc.seq
  have HB : Hid (keyB c = if mayB c = true then ⟨(keyL c).toArray⟩ else ⟨#[]⟩) := rfl
  unfold cellV at n1 ⊢
  cases hmay : mayB c
  · rw [hmay] at n1
    have HB2 : Hid (keyB c = ⟨#[]⟩) := by unfold Hid; rw [HB.out, hmay]; rfl
    have N1 := Lib.hid n1
    clear n1 hmay
    go_enter Tryz.func70, Tryz.ntmps70
    go_wp2_with (fail)
    refine (N1.out _).mono ?_
    rintro e w1 ⟨rfl, hf1⟩
    have HF1 := Lib.hid hf1
    clear hf1
    go_wp2_with (fail)
    go_ret
    rw [HB2.out]
    exact ⟨rfl, (Fp.alloc w _).trans HF1.out (by simp)⟩
  obtain ⟨⟨hr0, hr⟩, ⟨hk0, hk⟩, hv, _⟩ := mayB_true hmay
  rw [hmay] at n1
  have heq : bl (esc c.row.data.toList ++ [0, 1]) ++ bl (esc c.col.data.toList ++ [0, 1]) ++ bl (be8 (M64 - c.ts)) ++ bl (be8 (M64 - c.seq)) = keyB c := by
    rw [keyL_names, HB.out, hmay]; rfl
  have N1 := Lib.hid n1
  clear n1 hmay
  have m1 := fun w => rname_any c.row w (by omega)
  have m2 := fun w => rname_any c.col w (by omega)
  have m3 := fun w => rnumber_any' (M64 - c.ts) true w (by unfold M64; omega)
  have m4 := fun w => rnumber_any' (M64 - c.seq) true w (by unfold M64; omega)
  have hw1 := wrap_most ht
  have hw2 := wrap_most hq
  simp only [numL] at m3 m4
  have e1 := esc_length c.row.data.toList
  have e2 := esc_length c.col.data.toList
  rw [← Lib.size_eq] at e1 e2
  obtain ⟨b1, hb1⟩ : ∃ b, bl (esc c.row.data.toList ++ [0, 1]) = b := ⟨_, rfl⟩
  obtain ⟨b2, hb2⟩ : ∃ b, bl (esc c.col.data.toList ++ [0, 1]) = b := ⟨_, rfl⟩
  obtain ⟨b3, hb3⟩ : ∃ b, bl (be8 (M64 - c.ts)) = b := ⟨_, rfl⟩
  obtain ⟨b4, hb4⟩ : ∃ b, bl (be8 (M64 - c.seq)) = b := ⟨_, rfl⟩
  have z1 : b1.size ≤ 82 := by rw [← hb1, bl_size, List.length_append]; simp only [List.length_cons, List.length_nil]; omega
  have z2 : b2.size ≤ 82 := by rw [← hb2, bl_size, List.length_append]; simp only [List.length_cons, List.length_nil]; omega
  have z3 : b3.size = 8 := by rw [← hb3, bl_size]; unfold be8; rw [List.length_reverse, le8_length]
  have z4 : b4.size = 8 := by rw [← hb4, bl_size]; unfold be8; rw [List.length_reverse, le8_length]
  rw [hb1] at m1 heq
  rw [hb2] at m2 heq
  rw [hb3] at m3 heq
  rw [hb4] at m4 heq
  have M1 := Lib.hid m1
  have M2 := Lib.hid m2
  have M3 := Lib.hid m3
  have M4 := Lib.hid m4
  have HEQ := Lib.hid heq
  clear m1 m2 m3 m4 hb1 hb2 hb3 hb4 heq e1 e2
  obtain ⟨W, hW⟩ : ∃ W, W = w.alloc (.cells #[.string c.row, .string c.col, .int .u64 c.ts, .int .u64 c.seq, .bool c.del, .string c.val] 34) := ⟨_, rfl⟩
  have hb : W.heap[w.heap.size]? = some (.cells #[.string c.row, .string c.col, .int .u64 c.ts, .int .u64 c.seq, .bool c.del, .string c.val] 34 (0, 0)) := by
    rw [hW]; exact heap_alloc_at rfl _
  have hfw : Fp [] w W := by rw [hW]; exact Fp.alloc _ _
  have hcell : ∀ w', Fp [] W w' → w'.cell? ⟨w.heap.size, 0, none⟩ = some (.string c.row) ∧ w'.cell? ⟨w.heap.size, 1, none⟩ = some (.string c.col) ∧ w'.cell? ⟨w.heap.size, 2, none⟩ = some (.int .u64 c.ts) ∧ w'.cell? ⟨w.heap.size, 3, none⟩ = some (.int .u64 c.seq) := by
    intro w' hf
    have h1 := (hf.block _ (heap_lt hb) (by simp)).trans hb
    exact ⟨cell_of_block h1 0, cell_of_block h1 1, cell_of_block h1 2, cell_of_block h1 3⟩
  have HCELL := Lib.hid hcell
  have HFW := Lib.hid hfw
  have HW := Lib.hid hW
  clear hcell hfw hb hW
  go_enter Tryz.func70, Tryz.ntmps70
  go_wp2_with (fail)
  rw [← HW.out]
  refine (N1.out _).mono ?_
  rintro e w1 ⟨rfl, hf1⟩
  have HF1 := Lib.hid hf1
  clear hf1
  go_wp2_with (fail)
  refine wp_region_calm (by kernel_rfl) (by kernel_rfl) ?_
  -- 0
  apply ex_plain rfl rfl rfl
  · intro a w hC hA K hK
    have h1 := hA.free 1 _ (by kernel_rfl) rfl
    simp only [Oper.wp, execOp]; go_simp
    exact hK _ hC (Fp.refl _ _)
  -- 1
  apply ex_plain rfl rfl rfl
  · intro a w hC hA K hK
    have h6 : a.tmps[6]?.getD undef = _ := hA.dep 0 6 _ (by kernel_rfl) rfl
    obtain ⟨k0, k1, k2, k3⟩ := HCELL.out _ (HF1.out.trans hC (by simp))
    simp only [Oper.wp, execOp]; go_simp
    exact hK _ hC (Fp.refl _ _)
  -- 2
  apply ex_plain rfl rfl rfl
  · intro a w hC hA K hK
    have h7 : a.tmps[7]?.getD undef = _ := hA.dep 1 7 _ (by kernel_rfl) rfl
    simp only [Oper.wp, execOp]; go_simp
    first
      | ((with_reducible refine (M1.out _).mono ?_); rintro e w2 ⟨rfl, hf⟩; exact hK _ (hC.trans hf (by simp)) hf)
      | ((with_reducible refine (M2.out _).mono ?_); rintro e w2 ⟨rfl, hf⟩; exact hK _ (hC.trans hf (by simp)) hf)
      | ((with_reducible refine (M3.out _).mono ?_); rintro e w2 ⟨rfl, hf⟩; exact hK _ (hC.trans hf (by simp)) hf)
      | ((with_reducible refine (M4.out _).mono ?_); rintro e w2 ⟨rfl, hf⟩; exact hK _ (hC.trans hf (by simp)) hf)
  -- 3
  apply ex_plain rfl rfl rfl
  · intro a w hC hA K hK
    have h1 := hA.free 1 _ (by kernel_rfl) rfl
    simp only [Oper.wp, execOp]; go_simp
    exact hK _ hC (Fp.refl _ _)
  -- 4
  apply ex_plain rfl rfl rfl
  · intro a w hC hA K hK
    have h9 : a.tmps[9]?.getD undef = _ := hA.dep 3 9 _ (by kernel_rfl) rfl
    obtain ⟨k0, k1, k2, k3⟩ := HCELL.out _ (HF1.out.trans hC (by simp))
    simp only [Oper.wp, execOp]; go_simp
    exact hK _ hC (Fp.refl _ _)
  -- 5
  apply ex_plain rfl rfl rfl
  · intro a w hC hA K hK
    have h10 : a.tmps[10]?.getD undef = _ := hA.dep 4 10 _ (by kernel_rfl) rfl
    simp only [Oper.wp, execOp]; go_simp
    first
      | ((with_reducible refine (M1.out _).mono ?_); rintro e w2 ⟨rfl, hf⟩; exact hK _ (hC.trans hf (by simp)) hf)
      | ((with_reducible refine (M2.out _).mono ?_); rintro e w2 ⟨rfl, hf⟩; exact hK _ (hC.trans hf (by simp)) hf)
      | ((with_reducible refine (M3.out _).mono ?_); rintro e w2 ⟨rfl, hf⟩; exact hK _ (hC.trans hf (by simp)) hf)
      | ((with_reducible refine (M4.out _).mono ?_); rintro e w2 ⟨rfl, hf⟩; exact hK _ (hC.trans hf (by simp)) hf)
  -- 6
  apply ex_plain rfl rfl rfl
  · intro a w hC hA K hK
    have h8 : a.tmps[8]?.getD undef = _ := hA.dep 2 8 _ (by kernel_rfl) rfl
    have h11 : a.tmps[11]?.getD undef = _ := hA.dep 5 11 _ (by kernel_rfl) rfl
    simp only [Oper.wp, execOp]; go_simp
    rw [if_neg (by first | omega | (simp only [ByteArray.size_append]; omega))]
    exact hK _ hC (Fp.refl _ _)
  -- 7
  apply ex_plain rfl rfl rfl
  · intro a w hC hA K hK
    have h1 := hA.free 1 _ (by kernel_rfl) rfl
    simp only [Oper.wp, execOp]; go_simp
    exact hK _ hC (Fp.refl _ _)
  -- 8
  apply ex_plain rfl rfl rfl
  · intro a w hC hA K hK
    have h13 : a.tmps[13]?.getD undef = _ := hA.dep 7 13 _ (by kernel_rfl) rfl
    obtain ⟨k0, k1, k2, k3⟩ := HCELL.out _ (HF1.out.trans hC (by simp))
    simp only [Oper.wp, execOp]; go_simp
    exact hK _ hC (Fp.refl _ _)
  -- 9
  apply ex_plain rfl rfl rfl
  · intro a w hC hA K hK
    have h14 : a.tmps[14]?.getD undef = _ := hA.dep 8 14 _ (by kernel_rfl) rfl
    simp only [Oper.wp, execOp]; go_simp
    exact hK _ hC (Fp.refl _ _)
  -- 10
  apply ex_plain rfl rfl rfl
  · intro a w hC hA K hK
    have h15 : a.tmps[15]?.getD undef = _ := hA.dep 9 15 _ (by kernel_rfl) rfl
    simp only [Oper.wp, execOp]; go_simp
    first
      | ((with_reducible refine (M1.out _).mono ?_); rintro e w2 ⟨rfl, hf⟩; exact hK _ (hC.trans hf (by simp)) hf)
      | ((with_reducible refine (M2.out _).mono ?_); rintro e w2 ⟨rfl, hf⟩; exact hK _ (hC.trans hf (by simp)) hf)
      | ((with_reducible refine (M3.out _).mono ?_); rintro e w2 ⟨rfl, hf⟩; exact hK _ (hC.trans hf (by simp)) hf)
      | ((with_reducible refine (M4.out _).mono ?_); rintro e w2 ⟨rfl, hf⟩; exact hK _ (hC.trans hf (by simp)) hf)
  -- 11
  apply ex_plain rfl rfl rfl
  · intro a w hC hA K hK
    have h12 : a.tmps[12]?.getD undef = _ := hA.dep 6 12 _ (by kernel_rfl) rfl
    have h16 : a.tmps[16]?.getD undef = _ := hA.dep 10 16 _ (by kernel_rfl) rfl
    simp only [Oper.wp, execOp]; go_simp
    rw [if_neg (by first | omega | (simp only [ByteArray.size_append]; omega))]
    exact hK _ hC (Fp.refl _ _)
  -- 12
  apply ex_plain rfl rfl rfl
  · intro a w hC hA K hK
    have h1 := hA.free 1 _ (by kernel_rfl) rfl
    simp only [Oper.wp, execOp]; go_simp
    exact hK _ hC (Fp.refl _ _)
  -- 13
  apply ex_plain rfl rfl rfl
  · intro a w hC hA K hK
    have h18 : a.tmps[18]?.getD undef = _ := hA.dep 12 18 _ (by kernel_rfl) rfl
    obtain ⟨k0, k1, k2, k3⟩ := HCELL.out _ (HF1.out.trans hC (by simp))
    simp only [Oper.wp, execOp]; go_simp
    exact hK _ hC (Fp.refl _ _)
  -- 14
  apply ex_plain rfl rfl rfl
  · intro a w hC hA K hK
    have h19 : a.tmps[19]?.getD undef = _ := hA.dep 13 19 _ (by kernel_rfl) rfl
    simp only [Oper.wp, execOp]; go_simp
    exact hK _ hC (Fp.refl _ _)
  -- 15
  apply ex_plain rfl rfl rfl
  · intro a w hC hA K hK
    have h20 : a.tmps[20]?.getD undef = _ := hA.dep 14 20 _ (by kernel_rfl) rfl
    simp only [Oper.wp, execOp]; go_simp
    first
      | ((with_reducible refine (M1.out _).mono ?_); rintro e w2 ⟨rfl, hf⟩; exact hK _ (hC.trans hf (by simp)) hf)
      | ((with_reducible refine (M2.out _).mono ?_); rintro e w2 ⟨rfl, hf⟩; exact hK _ (hC.trans hf (by simp)) hf)
      | ((with_reducible refine (M3.out _).mono ?_); rintro e w2 ⟨rfl, hf⟩; exact hK _ (hC.trans hf (by simp)) hf)
      | ((with_reducible refine (M4.out _).mono ?_); rintro e w2 ⟨rfl, hf⟩; exact hK _ (hC.trans hf (by simp)) hf)
  -- 16
  apply ex_plain rfl rfl rfl
  · intro a w hC hA K hK
    have h17 : a.tmps[17]?.getD undef = _ := hA.dep 11 17 _ (by kernel_rfl) rfl
    have h21 : a.tmps[21]?.getD undef = _ := hA.dep 15 21 _ (by kernel_rfl) rfl
    simp only [Oper.wp, execOp]; go_simp
    rw [if_neg (by first | omega | (simp only [ByteArray.size_append]; omega))]
    exact hK _ hC (Fp.refl _ _)
  -- 17
  apply ex_plain rfl rfl rfl
  · intro a w hC hA K hK
    have h22 : a.tmps[22]?.getD undef = _ := hA.dep 16 22 _ (by kernel_rfl) rfl
    simp only [Oper.wp, execOp]; go_simp
    exact hK _ hC (Fp.refl _ _)
  refine ⟨?_, ?_⟩
  · repeat (first | exact trivial | refine stab_val _ ?_ | refine ⟨fun w1 w2 v _ hf ⟨g, h1, h2⟩ => ⟨g, h1, (hf.block g (heap_lt h2) (by simp)).trans h2⟩, ?_⟩)
  · intro w' hC
    simp only [List.reverse_cons, List.reverse_nil, List.nil_append, List.cons_append]
    iterate 18 (refine all_val ?_)
    refine all_nil ?_
    simp only [putAll, Act.put, List.setIfInBounds_toArray, List.set_cons_succ, List.set_cons_zero]
    have HF := Lib.hid (HF1.out.trans hC (by simp))
    clear hC
    go_wp2_with (fail)
    go_ret
    rw [← HEQ.out]
    exact ⟨rfl, HFW.out.trans HF.out (by simp)⟩

/-! ### part -/
def partL : List UInt8 → List UInt8 → Nat → List UInt8 × Nat
  | [], _, _ => ([], 0)
  | [_], _, _ => ([], 0)
  | x :: y :: l, acc, i => if x = 0 then (if y = 1 then (acc, i + 2) else if y = 255 then partL l (acc ++ [0]) (i + 2) else ([], 0)) else partL (y :: l) (acc ++ [x]) (i + 1)
theorem partL_step {x : UInt8} (h : x ≠ 0) (l acc : List UInt8) (i : Nat) : partL (x :: l) acc i = partL l (acc ++ [x]) (i + 1) := by
  cases l with
  | nil => rfl
  | cons y l =>
    conv => lhs; unfold partL
    rw [if_neg h]
theorem partL_zero (y : UInt8) (l acc : List UInt8) (i : Nat) : partL (0 :: y :: l) acc i = if y = 1 then (acc, i + 2) else if y = 255 then partL l (acc ++ [0]) (i + 2) else ([], 0) := by
  conv => lhs; unfold partL
  rw [if_pos rfl]
theorem drop_at {s : ByteArray} {k : Nat} (h : k < s.size) : s.data.toList.drop k = atB s k :: s.data.toList.drop (k + 1) := by
  have hl : k < s.data.toList.length := by rw [← Lib.size_eq]; exact h
  rw [List.drop_eq_getElem_cons hl]
  congr 1
  unfold atB
  rw [List.getD_eq_getElem?_getD, List.getElem?_eq_getElem hl]
  rfl

set_option maxRecDepth 100000 in
set_option maxHeartbeats 8000000 in
theorem rpart_any (s : ByteArray) (w : World) (hs : s.size ≤ 100000) :
    Calls Tryz.prog 108 #[.string s] w fun e w' => e = .returned (.tuple #[.string (bl (partL s.data.toList [] 0).1), .int .i64 (partL s.data.toList [] 0).2]) ∧ Fp [] w w' := by
  obtain ⟨P, hP⟩ : ∃ P, partL s.data.toList [] 0 = P := ⟨_, rfl⟩
  rw [hP]
  have HP := Lib.hid hP
  clear hP
  go_enter Tryz.func108, Tryz.ntmps108
  go_wp2_with (fail)
  go_loopg [4, 5] s.size (fun g vb vi wr => ∃ (k : Nat) (l : List UInt8), g + k = s.size ∧ vi = .int .i64 k ∧ l.length ≤ k ∧ Owned wr w.heap.size vb l ∧ partL (s.data.toList.drop k) l k = P ∧ Fp [] w wr)
  case atStart => exact ⟨0, [], rfl, rfl, Nat.le_refl _, Owned.made w w.heap.size [] (Nat.le_refl _) (by decide), HP.out, Fp.alloc _ _⟩
  case round =>
    obtain ⟨k, l, hg, rfl, hlk, ho, hp, hf⟩ := hrel
    have HO := Lib.hid ho
    have HF := Lib.hid hf
    have HPP := Lib.hid hp
    have hbw := hf.size
    clear ho hf hp
    by_cases hk : k < s.size
    · have hd := drop_at hk
      have hat := at_any hk
      have hy8 : (atB s k).toNat < 256 := (atB s k).toNat_lt
      have HL : Hid (l.length + 1 ≤ 1000000000) := by unfold Hid; omega
      obtain ⟨y, hy⟩ : ∃ y, atB s k = y := ⟨_, rfl⟩
      rw [hy] at hd hat hy8
      have HD := Lib.hid hd
      clear hy hd
      by_cases hz : y = 0
      · subst hz
        by_cases hk1 : k + 1 < s.size
        · have hd2 := drop_at hk1
          have hat2 := at_any hk1
          have hz8 : (atB s (k + 1)).toNat < 256 := (atB s (k + 1)).toNat_lt
          obtain ⟨z, hz⟩ : ∃ z, atB s (k + 1) = z := ⟨_, rfl⟩
          rw [hz] at hd2 hat2 hz8
          have hpz := partL_zero z (s.data.toList.drop (k + 1 + 1)) l k
          rw [← hd2, ← HD.out, HPP.out] at hpz
          have HZ := Lib.hid hpz
          have i1 : (k : Int) + 1 < (s.size : Int) := by omega
          have i2 : ((k : Int) + 1 == (s.size : Int)) = false := by rw [beq_eq_false_iff_ne]; omega
          have i3 : ((k : Int) + 1).toNat = k + 1 := by omega
          have i4 : (0 : Int) ≤ (k : Int) + 1 := by omega
          clear hz hd2 hpz
          by_cases h1 : z = 1
          · subst h1
            have hstr := run_str_of HO.out
            have HZ2 : Hid (P = (l, k + 2)) := HZ.out
            go_wp2_with (fail)
            go_ret2
            rw [HZ2.out]
            exact ⟨rfl, HF.out⟩
          · have t1 : ((z.toNat : Int) == 1) = false := by
              rw [beq_eq_false_iff_ne]
              intro e
              exact h1 (UInt8.toNat_inj.1 (by show z.toNat = 1; omega))
            by_cases h2 : z = 255
            · subst h2
              have HZ2 : Hid (P = partL (s.data.toList.drop (k + 1 + 1)) (l ++ [0]) (k + 2)) := HZ.out
              have R1 : Hid (∀ w : World, Reads (w.alloc (.cells #[.int .u8 0] 5)) (.slice (some ⟨w.heap.size, 0, none⟩) 1 1) [UInt8.ofNat 0]) := fun w => Reads.one w (n := 0) (by decide)
              go_wp2_with (first
                | (at_builtin; with_reducible refine wpList_append_reads rfl _ _ rfl w.heap.size _ _ rfl (HO.out.alloc _) _ _ rfl (R1.out _) HL.out (by simp; omega) ?_; intro v3 w3 hown3 hbel3; have HF3 := Lib.hid ((HF.out.alloc' _).belowTrans hbel3); have HO3 := Lib.hid hown3; clear hown3 hbel3))
              go_roundg (gk - 2)
              case measure => omega
              case rel => exact ⟨k + 2, l ++ [0], by omega, by go_num, by rw [List.length_append]; simp only [List.length_cons, List.length_nil]; omega, HO3.out, HZ2.out.symm, HF3.out⟩
            · have t2 : ((z.toNat : Int) == 255) = false := by
                rw [beq_eq_false_iff_ne]
                intro e
                exact h2 (UInt8.toNat_inj.1 (by show z.toNat = 255; omega))
              have HZ2 : Hid (P = ([], 0)) := by unfold Hid; rw [HZ.out, if_neg h1, if_neg h2]
              go_wp2_with (fail)
              go_ret2
              rw [HZ2.out]
              exact ⟨rfl, HF.out⟩
        · have i2 : ((k : Int) + 1 == (s.size : Int)) = true := by rw [beq_iff_eq]; omega
          have HZ2 : Hid (P = ([], 0)) := by
            unfold Hid
            rw [← HPP.out, HD.out, List.drop_eq_nil_of_le (by rw [← Lib.size_eq]; omega)]
            rfl
          go_wp2_with (fail)
          go_ret2
          rw [HZ2.out]
          exact ⟨rfl, HF.out⟩
      · have hyn : ¬ ((y.toNat : Int) = 0) := fun h => hz (UInt8.toNat_inj.1 (by show y.toNat = 0; omega))
        have t1 : ((y.toNat : Int) == 0) = false := by simpa using hyn
        have R1 : Hid (∀ w : World, Reads (w.alloc (.cells #[.int .u8 y.toNat] 5)) (.slice (some ⟨w.heap.size, 0, none⟩) 1 1) [UInt8.ofNat y.toNat]) := fun w => Reads.one w (n := y.toNat) hy8
        have HZ2 : Hid (partL (s.data.toList.drop (k + 1)) (l ++ [UInt8.ofNat y.toNat]) (k + 1) = P) := by
          unfold Hid
          rw [ofNat_toNat, ← partL_step hz, ← HD.out]
          exact HPP.out
        go_wp2_with (first
          | (at_builtin; with_reducible refine wpList_append_reads rfl _ _ rfl w.heap.size _ _ rfl (HO.out.alloc _) _ _ rfl (R1.out _) HL.out (by simp; omega) ?_; intro v3 w3 hown3 hbel3; have HF3 := Lib.hid ((HF.out.alloc' _).belowTrans hbel3); have HO3 := Lib.hid hown3; clear hown3 hbel3))
        go_roundg (gk - 1)
        case measure => omega
        case rel => exact ⟨k + 1, l ++ [UInt8.ofNat y.toNat], by omega, by go_num, by rw [List.length_append]; simp only [List.length_cons, List.length_nil]; omega, HO3.out, HZ2.out, HF3.out⟩
    · have HZ2 : Hid (P = ([], 0)) := by
        unfold Hid
        rw [← HPP.out, List.drop_eq_nil_of_le (by rw [← Lib.size_eq]; omega)]
        rfl
      go_wp2_with (fail)
      go_ret2
      rw [HZ2.out]
      exact ⟨rfl, HF.out⟩
end

section
open Go.RowKit

def zr : Cel × ByteArray × Int → Prop := fun _ => True
def decR3 (row col s2 : ByteArray) : Cel × ByteArray × Int :=
  if 1 < (atB s2 16).toNat then (zeroC, ⟨#[]⟩, 1)
  else if (shortR (s2.extract 17 s2.size)).2.2 = true then
    (if mayB ⟨row, col, valV s2 false 8, valV (s2.extract 8 s2.size) false 8, atB s2 16 == 1, (shortR (s2.extract 17 s2.size)).1⟩ = true
     then (⟨row, col, valV s2 false 8, valV (s2.extract 8 s2.size) false 8, atB s2 16 == 1, (shortR (s2.extract 17 s2.size)).1⟩, (shortR (s2.extract 17 s2.size)).2.1, 0) else (zeroC, ⟨#[]⟩, 1))
  else (zeroC, ⟨#[]⟩, 10)
def decR2 (row s1 : ByteArray) : Cel × ByteArray × Int :=
  if (shortR s1).2.2 = true ∧ 17 ≤ (shortR s1).2.1.size then decR3 row (shortR s1).1 (shortR s1).2.1 else (zeroC, ⟨#[]⟩, 10)
def decR (s : ByteArray) : Cel × ByteArray × Int :=
  if (shortR s).2.2 = true then decR2 (shortR s).1 (shortR s).2.1 else (zeroC, ⟨#[]⟩, 10)

theorem shortR_sizes (s : ByteArray) : (shortR s).1.size ≤ 255 ∧ (shortR s).2.1.size ≤ s.size := by
  unfold shortR
  have : (atB s 0).toNat < 256 := (atB s 0).toNat_lt
  split
  · exact ⟨Nat.zero_le _, Nat.zero_le _⟩
  · exact ⟨by simp; omega, by simp⟩

/-- the blocks of the result and of the cell in the making -/
structure Two (w W : World) (l : Array Value) : Prop where
  a : W.heap[w.heap.size]? = some (.cells #[.string ⟨#[]⟩, .string ⟨#[]⟩, .int .u64 0, .int .u64 0, .bool false, .string ⟨#[]⟩] 34 (0, 0))
  b : W.heap[w.heap.size + 1]? = some (.cells l 34 (0, 0))
  f : Fp [] w W
theorem Two.fp {w W W' : World} {l : Array Value} (h : Two w W l) (hf : Fp [] W W') : Two w W' l :=
  ⟨(hf.block _ (heap_lt h.a) (by simp)).trans h.a, (hf.block _ (heap_lt h.b) (by simp)).trans h.b, h.f.trans hf (by simp)⟩
theorem Two.set {w W : World} {l : Array Value} (h : Two w W l) (o : Nat) (v : Value) : Two w (W.setCell ⟨w.heap.size + 1, o, none⟩ v) (l.setIfInBounds o v) :=
  ⟨(heap_setCell_other (by omega) v).trans h.a, heap_setCell_same h.b v, h.f.setCell' (Or.inr (by simp)) _⟩
theorem two_start (w : World) : Two w ((w.alloc (.cells #[.string ⟨#[]⟩, .string ⟨#[]⟩, .int .u64 0, .int .u64 0, .bool false, .string ⟨#[]⟩] 34)).alloc (.cells #[.string ⟨#[]⟩, .string ⟨#[]⟩, .int .u64 0, .int .u64 0, .bool false, .string ⟨#[]⟩] 34)) #[.string ⟨#[]⟩, .string ⟨#[]⟩, .int .u64 0, .int .u64 0, .bool false, .string ⟨#[]⟩] :=
  ⟨heap_alloc_old (heap_alloc_at rfl _), heap_alloc_at (by simp) _, (Fp.alloc _ _).alloc' _⟩
theorem Two.cellA {w W : World} {l : Array Value} (h : Two w W l) : (W.cell? ⟨w.heap.size, 0, none⟩ = some (.string ⟨#[]⟩) ∧ W.cell? ⟨w.heap.size, 1, none⟩ = some (.string ⟨#[]⟩) ∧ W.cell? ⟨w.heap.size, 2, none⟩ = some (.int .u64 0) ∧ W.cell? ⟨w.heap.size, 3, none⟩ = some (.int .u64 0) ∧ W.cell? ⟨w.heap.size, 4, none⟩ = some (.bool false) ∧ W.cell? ⟨w.heap.size, 5, none⟩ = some (.string ⟨#[]⟩)) ∧
    (W.frozen? ⟨w.heap.size, 0, none⟩ = false ∧ W.frozen? ⟨w.heap.size, 1, none⟩ = false ∧ W.frozen? ⟨w.heap.size, 2, none⟩ = false ∧ W.frozen? ⟨w.heap.size, 3, none⟩ = false ∧ W.frozen? ⟨w.heap.size, 4, none⟩ = false ∧ W.frozen? ⟨w.heap.size, 5, none⟩ = false) :=
  ⟨⟨cell_of_block h.a 0, cell_of_block h.a 1, cell_of_block h.a 2, cell_of_block h.a 3, cell_of_block h.a 4, cell_of_block h.a 5⟩, ⟨frozen_of_block h.a 0, frozen_of_block h.a 1, frozen_of_block h.a 2, frozen_of_block h.a 3, frozen_of_block h.a 4, frozen_of_block h.a 5⟩⟩
theorem Two.cellB {w W : World} {v0 v1 v2 v3 v4 v5 : Value} (h : Two w W #[v0, v1, v2, v3, v4, v5]) : (W.cell? ⟨w.heap.size + 1, 0, none⟩ = some v0 ∧ W.cell? ⟨w.heap.size + 1, 1, none⟩ = some v1 ∧ W.cell? ⟨w.heap.size + 1, 2, none⟩ = some v2 ∧ W.cell? ⟨w.heap.size + 1, 3, none⟩ = some v3 ∧ W.cell? ⟨w.heap.size + 1, 4, none⟩ = some v4 ∧ W.cell? ⟨w.heap.size + 1, 5, none⟩ = some v5) ∧
    (W.frozen? ⟨w.heap.size + 1, 0, none⟩ = false ∧ W.frozen? ⟨w.heap.size + 1, 1, none⟩ = false ∧ W.frozen? ⟨w.heap.size + 1, 2, none⟩ = false ∧ W.frozen? ⟨w.heap.size + 1, 3, none⟩ = false ∧ W.frozen? ⟨w.heap.size + 1, 4, none⟩ = false ∧ W.frozen? ⟨w.heap.size + 1, 5, none⟩ = false) :=
  ⟨⟨cell_of_block h.b 0, cell_of_block h.b 1, cell_of_block h.b 2, cell_of_block h.b 3, cell_of_block h.b 4, cell_of_block h.b 5⟩, ⟨frozen_of_block h.b 0, frozen_of_block h.b 1, frozen_of_block h.b 2, frozen_of_block h.b 3, frozen_of_block h.b 4, frozen_of_block h.b 5⟩⟩

end

section
open Go.RowKit

theorem toList_inj' {a b : ByteArray} (h : a.toList = b.toList) : a = b := by
  rw [ByteArray.toList_eq, ByteArray.toList_eq] at h
  rw [← Lib.mk_data a, ← Lib.mk_data b, h]
def coordC (row col : ByteArray) (ts seq : Nat) : Cel := ⟨row, col, ts, seq, false, ⟨#[]⟩⟩
def endK (s : ByteArray) (c : Cel) : Cel × Int := if keyB c = s then (c, 0) else (zeroC, 1)
def fkR2 (s row : ByteArray) (n : Nat) (Q : List UInt8 × Nat) : Cel × Int :=
  if Q.2 = 0 ∨ s.size ≠ n + Q.2 + 16 then (zeroC, 1) else endK s (coordC row (bl Q.1) (M64 - valV (s.extract (n + Q.2) s.size) true 8) (M64 - valV (s.extract (n + Q.2 + 8) s.size) true 8))
def fkR1 (s : ByteArray) (P : List UInt8 × Nat) : Cel × Int :=
  if P.2 = 0 then (zeroC, 1) else fkR2 s (bl P.1) P.2 (partL (s.extract P.2 s.size).data.toList [] 0)
def fkR (s : ByteArray) : Cel × Int := fkR1 s (partL s.data.toList [] 0)

theorem partL_le : ∀ (l acc : List UInt8) (i : Nat), (partL l acc i).2 ≤ i + l.length ∧ (partL l acc i).1.length ≤ acc.length + l.length
  | [], acc, i => by simp [partL]
  | [x], acc, i => by simp [partL]
  | x :: y :: l, acc, i => by
    by_cases h : x = 0
    · subst h
      rw [partL_zero]
      by_cases h1 : y = 1
      · rw [if_pos h1]; simp
      · by_cases h2 : y = 255
        · rw [if_neg h1, if_pos h2]
          have := partL_le l (acc ++ [0]) (i + 2)
          simp only [List.length_append, List.length_cons, List.length_nil] at *
          omega
        · rw [if_neg h1, if_neg h2]; simp
    · rw [partL_step h]
      have := partL_le (y :: l) (acc ++ [x]) (i + 1)
      simp only [List.length_append, List.length_cons, List.length_nil] at *
      omega

set_option maxRecDepth 100000 in
set_option maxHeartbeats 8000000 in
theorem rfromkey_any (s : ByteArray) (w : World) (hs : s.size ≤ 100000) :
    Calls Tryz.prog 85 #[.string s] w fun e w' => e = .returned (.tuple #[cellV (fkR s).1, .int .i64 (fkR s).2]) ∧ Fp [] w w' := by
  have HT0 := Lib.hid (two_start w)
  have t1 := fun w => rpart_any s w hs
  have HD : Hid (fkR s = fkR1 s (partL s.data.toList [] 0)) := rfl
  have y1 := partL_le s.data.toList [] 0
  obtain ⟨⟨r, n⟩, q1⟩ : ∃ q, partL s.data.toList [] 0 = q := ⟨_, rfl⟩
  rw [q1] at t1 HD y1
  simp only [List.length_nil, Nat.zero_add] at t1 y1
  rw [← Lib.size_eq] at y1
  obtain ⟨row, hrow⟩ : ∃ x, bl r = x := ⟨_, rfl⟩
  have hrs : row.size ≤ 100000 := by rw [← hrow, bl_size]; omega
  rw [hrow] at t1
  have HR := Lib.hid hrow
  have hns : n ≤ s.size := y1.1
  clear q1 hrow y1
  by_cases h0 : n = 0
  · subst h0
    have HO : Hid (fkR s = (zeroC, 1)) := HD.out
    rw [show ((0 : Nat) : Int) = 0 from rfl] at t1
    have T1 := Lib.hid t1
    clear t1
    go_enter Tryz.func85, Tryz.ntmps85
    go_wp2_with (fail)
    (with_reducible refine (T1.out _).mono ?_)
    rintro e w1 ⟨rfl, hf⟩
    have H1 := Lib.hid (HT0.out.fp hf)
    clear hf
    obtain ⟨⟨a0, a1, a2, a3, a4, a5⟩, ⟨g0, g1, g2, g3, g4, g5⟩⟩ := H1.out.cellA
    obtain ⟨⟨c0, c1, c2, c3, c4, c5⟩, ⟨f0, f1, f2, f3, f4, f5⟩⟩ := H1.out.cellB
    go_wp2_with (fail)
    rw [HO.out]
    refine bodyPost_ret (v := .tuple #[cellV zeroC, .int .i64 1]) (by simp [results, Tryz.results85, cellV, zeroC, go_sem, *]) rfl ⟨rfl, ?_⟩
    repeat (first | (with_reducible refine Fp.drew' ?_) | (with_reducible refine Fp.setCell' ?_ (Or.inr (by first | exact Nat.le_refl _ | exact Nat.le_succ _)) _) | (with_reducible exact H1.out.f))
  have HD2 : Hid (fkR s = fkR2 s row n (partL (s.extract n s.size).data.toList [] 0)) := by
    unfold Hid; rw [HD.out, ← HR.out]; exact if_neg h0
  have t2 := fun w => rpart_any (s.extract n s.size) w (by simp; omega)
  have y2 := partL_le (s.extract n s.size).data.toList [] 0
  obtain ⟨⟨q, m⟩, q2⟩ : ∃ x, partL (s.extract n s.size).data.toList [] 0 = x := ⟨_, rfl⟩
  rw [q2] at t2 HD2 y2
  simp only [List.length_nil, Nat.zero_add] at t2 y2
  rw [← Lib.size_eq, ByteArray.size_extract] at y2
  obtain ⟨col, hcol⟩ : ∃ x, bl q = x := ⟨_, rfl⟩
  have hcs : col.size ≤ 100000 := by rw [← hcol, bl_size]; omega
  rw [hcol] at t2
  have HCC := Lib.hid hcol
  have hms : n + m ≤ s.size := by omega
  have i0 : ((n : Int) == 0) = false := by rw [beq_eq_false_iff_ne]; omega
  have i1 : (n : Int) ≤ (s.size : Int) := by omega
  have i2 : (0 : Int) ≤ (n : Int) := by omega
  clear q2 hcol y2
  by_cases h1 : m = 0
  · subst h1
    have HO : Hid (fkR s = (zeroC, 1)) := by unfold Hid; rw [HD2.out]; exact if_pos (Or.inl rfl)
    rw [show ((0 : Nat) : Int) = 0 from rfl] at t2
    have T2 := Lib.hid t2
    clear t2
    have T1 := Lib.hid t1
    clear t1
    go_enter Tryz.func85, Tryz.ntmps85
    go_wp2_with (fail)
    (with_reducible refine (T1.out _).mono ?_)
    rintro e w1 ⟨rfl, hf⟩
    have H1 := Lib.hid (HT0.out.fp hf)
    clear hf
    go_wp2_with (fail)
    (with_reducible refine (T2.out _).mono ?_)
    rintro e w2 ⟨rfl, hf⟩
    have H2 := Lib.hid (H1.out.fp hf)
    clear hf
    obtain ⟨⟨a0, a1, a2, a3, a4, a5⟩, ⟨g0, g1, g2, g3, g4, g5⟩⟩ := H2.out.cellA
    obtain ⟨⟨c0, c1, c2, c3, c4, c5⟩, ⟨f0, f1, f2, f3, f4, f5⟩⟩ := H2.out.cellB
    go_wp2_with (fail)
    rw [HO.out]
    refine bodyPost_ret (v := .tuple #[cellV zeroC, .int .i64 1]) (by simp [results, Tryz.results85, cellV, zeroC, go_sem, *]) rfl ⟨rfl, ?_⟩
    repeat (first | (with_reducible refine Fp.drew' ?_) | (with_reducible refine Fp.setCell' ?_ (Or.inr (by first | exact Nat.le_refl _ | exact Nat.le_succ _)) _) | (with_reducible exact H2.out.f))
  have j0 : ((m : Int) == 0) = false := by rw [beq_eq_false_iff_ne]; omega
  have j1 : IntKind.i64.wrap ((n : Int) + (m : Int)) = (n : Int) + (m : Int) := IntWalk.i64_in _ (by omega)
  by_cases h2 : s.size = n + m + 16
  case neg =>
    have HO : Hid (fkR s = (zeroC, 1)) := by unfold Hid; rw [HD2.out]; exact if_pos (Or.inr h2)
    have j2 : ((s.size : Int) == (n : Int) + (m : Int) + 16) = false := by rw [beq_eq_false_iff_ne]; omega
    have j3 : ¬ (s.size : Int) = (n : Int) + (m : Int) + 16 := by omega
    have T2 := Lib.hid t2
    clear t2
    have T1 := Lib.hid t1
    clear t1
    go_enter Tryz.func85, Tryz.ntmps85
    go_wp2_with (fail)
    (with_reducible refine (T1.out _).mono ?_)
    rintro e w1 ⟨rfl, hf⟩
    have H1 := Lib.hid (HT0.out.fp hf)
    clear hf
    go_wp2_with (fail)
    (with_reducible refine (T2.out _).mono ?_)
    rintro e w2 ⟨rfl, hf⟩
    have H2 := Lib.hid (H1.out.fp hf)
    clear hf
    obtain ⟨⟨a0, a1, a2, a3, a4, a5⟩, ⟨g0, g1, g2, g3, g4, g5⟩⟩ := H2.out.cellA
    obtain ⟨⟨c0, c1, c2, c3, c4, c5⟩, ⟨f0, f1, f2, f3, f4, f5⟩⟩ := H2.out.cellB
    go_wp2_with (fail)
    rw [HO.out]
    refine bodyPost_ret (v := .tuple #[cellV zeroC, .int .i64 1]) (by simp [results, Tryz.results85, cellV, zeroC, go_sem, *]) rfl ⟨rfl, ?_⟩
    repeat (first | (with_reducible refine Fp.drew' ?_) | (with_reducible refine Fp.setCell' ?_ (Or.inr (by first | exact Nat.le_refl _ | exact Nat.le_succ _)) _) | (with_reducible exact H2.out.f))
  obtain ⟨p, hp⟩ : ∃ p, n + m = p := ⟨_, rfl⟩
  have hpi : (n : Int) + (m : Int) = (p : Int) := by omega
  have HD3 : Hid (fkR s = endK s (coordC row col (M64 - valV (s.extract p s.size) true 8) (M64 - valV (s.extract (p + 8) s.size) true 8))) := by
    unfold Hid; rw [HD2.out, ← HCC.out, ← hp]; exact if_neg (by simp only; omega)
  have v1 := fun w => rvalue_any (s.extract p s.size) true w (by simp; omega) (by simp; omega)
  have v2 := fun w => rvalue_any (s.extract (p + 8) s.size) true w (by simp; omega) (by simp; omega)
  have l1 := valV_lt (s.extract p s.size) true 8
  have l2 := valV_lt (s.extract (p + 8) s.size) true 8
  have e256 : (256 : Nat) ^ 8 = 18446744073709551616 := by decide
  rw [e256] at l1 l2
  obtain ⟨x1, hx1⟩ : ∃ x, valV (s.extract p s.size) true 8 = x := ⟨_, rfl⟩
  obtain ⟨x2, hx2⟩ : ∃ x, valV (s.extract (p + 8) s.size) true 8 = x := ⟨_, rfl⟩
  rw [hx1, hx2] at HD3
  rw [hx1] at v1 l1
  rw [hx2] at v2 l2
  have w1 := wrap_most l1
  have w2 := wrap_most l2
  have k1 := fun w => rkey_any (coordC row col (M64 - x1) (M64 - x2)) w ⟨by show M64 - x1 < _; unfold M64; omega, by show M64 - x2 < _; unfold M64; omega, by show row.size ≤ _; omega, by show col.size ≤ _; omega, by show (0 : Nat) ≤ _; omega⟩
  unfold cellV at k1
  simp only [coordC] at k1
  obtain ⟨z1, hz1⟩ : ∃ x, M64 - x1 = x := ⟨_, rfl⟩
  obtain ⟨z2, hz2⟩ : ∃ x, M64 - x2 = x := ⟨_, rfl⟩
  rw [hz1, hz2] at HD3 k1
  rw [hz1] at w1
  rw [hz2] at w2
  obtain ⟨kb, hkb⟩ : ∃ x, keyB ⟨row, col, z1, z2, false, ⟨#[]⟩⟩ = x := ⟨_, rfl⟩
  rw [hkb] at k1
  have HKB := Lib.hid hkb
  have j2 : ((s.size : Int) == (p : Int) + 16) = true := by rw [beq_iff_eq]; omega
  have j3 : p ≤ 100000 := by omega
  have H2E := Lib.hid h2
  have j4 : (p : Int) ≤ (s.size : Int) := by omega
  have j5 : (p : Int) + 8 ≤ (s.size : Int) := by omega
  have j6 : ((p : Int) + 8).toNat = p + 8 := by omega
  have j7 : (0 : Int) ≤ (p : Int) + 8 := by omega
  clear hx1 hx2 hz1 hz2 hkb hp l1 l2 e256 h2
  by_cases hk : kb = s
  · have HO : Hid (fkR s = (⟨row, col, z1, z2, false, ⟨#[]⟩⟩, 0)) := by unfold Hid; rw [HD3.out]; exact if_pos (by rw [coordC, HKB.out, hk])
    have hkt : (kb.toList == s.toList) = true := by rw [hk]; simp
    have HKK := Lib.hid hk
    clear hk
    have V1 := Lib.hid v1
    have V2 := Lib.hid v2
    have K1 := Lib.hid k1
    clear v1 v2 k1
    have W1 := Lib.hid w1
    have W2 := Lib.hid w2
    clear w1 w2
    have T2 := Lib.hid t2
    clear t2
    have T1 := Lib.hid t1
    clear t1
    go_enter Tryz.func85, Tryz.ntmps85
    go_wp2_with (fail)
    (with_reducible refine (T1.out _).mono ?_)
    rintro e w1 ⟨rfl, hf⟩
    have H1 := Lib.hid (HT0.out.fp hf)
    clear hf
    go_wp2_with (fail)
    (with_reducible refine (T2.out _).mono ?_)
    rintro e w2 ⟨rfl, hf⟩
    have H2 := Lib.hid (H1.out.fp hf)
    clear hf
    obtain ⟨⟨a0, a1, a2, a3, a4, a5⟩, ⟨g0, g1, g2, g3, g4, g5⟩⟩ := H2.out.cellA
    obtain ⟨⟨c0, c1, c2, c3, c4, c5⟩, ⟨f0, f1, f2, f3, f4, f5⟩⟩ := H2.out.cellB
    have j8 := W1.out
    have j9 := W2.out
    go_wp2_with (fail)
    clear a0 a1 a2 a3 a4 a5 g0 g1 g2 g3 g4 g5 c0 c1 c2 c3 c4 c5 f0 f1 f2 f3 f4 f5
    have H3 : Hid (Two w (((w2.setCell ⟨w.heap.size + 1, 0, none⟩ (.string row)).setCell ⟨w.heap.size + 1, 1, none⟩ (.string col))) #[.string row, .string col, .int .u64 0, .int .u64 0, .bool false, .string ⟨#[]⟩]) := Lib.hid ((H2.out.set 0 (.string row)).set 1 (.string col))
    (with_reducible refine (V1.out _).mono ?_)
    rintro e w3 ⟨rfl, rfl⟩
    obtain ⟨⟨a0, a1, a2, a3, a4, a5⟩, ⟨g0, g1, g2, g3, g4, g5⟩⟩ := H3.out.cellA
    obtain ⟨⟨c0, c1, c2, c3, c4, c5⟩, ⟨f0, f1, f2, f3, f4, f5⟩⟩ := H3.out.cellB
    go_wp2_with (fail)
    clear a0 a1 a2 a3 a4 a5 g0 g1 g2 g3 g4 g5 c0 c1 c2 c3 c4 c5 f0 f1 f2 f3 f4 f5
    have H4 : Hid (Two w (((w2.setCell ⟨w.heap.size + 1, 0, none⟩ (.string row)).setCell ⟨w.heap.size + 1, 1, none⟩ (.string col)).setCell ⟨w.heap.size + 1, 2, none⟩ (.int .u64 z1)) #[.string row, .string col, .int .u64 z1, .int .u64 0, .bool false, .string ⟨#[]⟩]) := Lib.hid (H3.out.set 2 (.int .u64 z1))
    (with_reducible refine (V2.out _).mono ?_)
    rintro e w4 ⟨rfl, rfl⟩
    obtain ⟨⟨a0, a1, a2, a3, a4, a5⟩, ⟨g0, g1, g2, g3, g4, g5⟩⟩ := H4.out.cellA
    obtain ⟨⟨c0, c1, c2, c3, c4, c5⟩, ⟨f0, f1, f2, f3, f4, f5⟩⟩ := H4.out.cellB
    go_wp2_with (fail)
    clear a0 a1 a2 a3 a4 a5 g0 g1 g2 g3 g4 g5 c0 c1 c2 c3 c4 c5 f0 f1 f2 f3 f4 f5
    have H5 : Hid (Two w ((((w2.setCell ⟨w.heap.size + 1, 0, none⟩ (.string row)).setCell ⟨w.heap.size + 1, 1, none⟩ (.string col)).setCell ⟨w.heap.size + 1, 2, none⟩ (.int .u64 z1)).setCell ⟨w.heap.size + 1, 3, none⟩ (.int .u64 z2)) #[.string row, .string col, .int .u64 z1, .int .u64 z2, .bool false, .string ⟨#[]⟩]) := Lib.hid (H4.out.set 3 (.int .u64 z2))
    (with_reducible refine (K1.out _).mono ?_)
    rintro e w6 ⟨rfl, hf⟩
    have H6 := Lib.hid (H5.out.fp hf)
    clear hf
    obtain ⟨⟨a0, a1, a2, a3, a4, a5⟩, ⟨g0, g1, g2, g3, g4, g5⟩⟩ := H6.out.cellA
    obtain ⟨⟨c0, c1, c2, c3, c4, c5⟩, ⟨f0, f1, f2, f3, f4, f5⟩⟩ := H6.out.cellB
    go_wp2_with (fail)
    rw [HO.out]
    refine bodyPost_ret (v := .tuple #[cellV ⟨row, col, z1, z2, false, ⟨#[]⟩⟩, .int .i64 0]) (by simp [results, Tryz.results85, cellV, go_sem, *]) rfl ⟨rfl, ?_⟩
    repeat (first | (with_reducible refine Fp.drew' ?_) | (with_reducible refine Fp.setCell' ?_ (Or.inr (by first | exact Nat.le_refl _ | exact Nat.le_succ _)) _) | (with_reducible exact H6.out.f))
  · have HO : Hid (fkR s = (zeroC, 1)) := by unfold Hid; rw [HD3.out]; exact if_neg (by rw [coordC, HKB.out]; exact hk)
    have hkt : (kb.toList == s.toList) = false := by rw [beq_eq_false_iff_ne]; exact fun e => hk (toList_inj' e)
    clear hk
    have V1 := Lib.hid v1
    have V2 := Lib.hid v2
    have K1 := Lib.hid k1
    clear v1 v2 k1
    have W1 := Lib.hid w1
    have W2 := Lib.hid w2
    clear w1 w2
    have T2 := Lib.hid t2
    clear t2
    have T1 := Lib.hid t1
    clear t1
    go_enter Tryz.func85, Tryz.ntmps85
    go_wp2_with (fail)
    (with_reducible refine (T1.out _).mono ?_)
    rintro e w1 ⟨rfl, hf⟩
    have H1 := Lib.hid (HT0.out.fp hf)
    clear hf
    go_wp2_with (fail)
    (with_reducible refine (T2.out _).mono ?_)
    rintro e w2 ⟨rfl, hf⟩
    have H2 := Lib.hid (H1.out.fp hf)
    clear hf
    obtain ⟨⟨a0, a1, a2, a3, a4, a5⟩, ⟨g0, g1, g2, g3, g4, g5⟩⟩ := H2.out.cellA
    obtain ⟨⟨c0, c1, c2, c3, c4, c5⟩, ⟨f0, f1, f2, f3, f4, f5⟩⟩ := H2.out.cellB
    have j8 := W1.out
    have j9 := W2.out
    go_wp2_with (fail)
    clear a0 a1 a2 a3 a4 a5 g0 g1 g2 g3 g4 g5 c0 c1 c2 c3 c4 c5 f0 f1 f2 f3 f4 f5
    have H3 : Hid (Two w (((w2.setCell ⟨w.heap.size + 1, 0, none⟩ (.string row)).setCell ⟨w.heap.size + 1, 1, none⟩ (.string col))) #[.string row, .string col, .int .u64 0, .int .u64 0, .bool false, .string ⟨#[]⟩]) := Lib.hid ((H2.out.set 0 (.string row)).set 1 (.string col))
    (with_reducible refine (V1.out _).mono ?_)
    rintro e w3 ⟨rfl, rfl⟩
    obtain ⟨⟨a0, a1, a2, a3, a4, a5⟩, ⟨g0, g1, g2, g3, g4, g5⟩⟩ := H3.out.cellA
    obtain ⟨⟨c0, c1, c2, c3, c4, c5⟩, ⟨f0, f1, f2, f3, f4, f5⟩⟩ := H3.out.cellB
    go_wp2_with (fail)
    clear a0 a1 a2 a3 a4 a5 g0 g1 g2 g3 g4 g5 c0 c1 c2 c3 c4 c5 f0 f1 f2 f3 f4 f5
    have H4 : Hid (Two w (((w2.setCell ⟨w.heap.size + 1, 0, none⟩ (.string row)).setCell ⟨w.heap.size + 1, 1, none⟩ (.string col)).setCell ⟨w.heap.size + 1, 2, none⟩ (.int .u64 z1)) #[.string row, .string col, .int .u64 z1, .int .u64 0, .bool false, .string ⟨#[]⟩]) := Lib.hid (H3.out.set 2 (.int .u64 z1))
    (with_reducible refine (V2.out _).mono ?_)
    rintro e w4 ⟨rfl, rfl⟩
    obtain ⟨⟨a0, a1, a2, a3, a4, a5⟩, ⟨g0, g1, g2, g3, g4, g5⟩⟩ := H4.out.cellA
    obtain ⟨⟨c0, c1, c2, c3, c4, c5⟩, ⟨f0, f1, f2, f3, f4, f5⟩⟩ := H4.out.cellB
    go_wp2_with (fail)
    clear a0 a1 a2 a3 a4 a5 g0 g1 g2 g3 g4 g5 c0 c1 c2 c3 c4 c5 f0 f1 f2 f3 f4 f5
    have H5 : Hid (Two w ((((w2.setCell ⟨w.heap.size + 1, 0, none⟩ (.string row)).setCell ⟨w.heap.size + 1, 1, none⟩ (.string col)).setCell ⟨w.heap.size + 1, 2, none⟩ (.int .u64 z1)).setCell ⟨w.heap.size + 1, 3, none⟩ (.int .u64 z2)) #[.string row, .string col, .int .u64 z1, .int .u64 z2, .bool false, .string ⟨#[]⟩]) := Lib.hid (H4.out.set 3 (.int .u64 z2))
    (with_reducible refine (K1.out _).mono ?_)
    rintro e w6 ⟨rfl, hf⟩
    have H6 := Lib.hid (H5.out.fp hf)
    clear hf
    obtain ⟨⟨a0, a1, a2, a3, a4, a5⟩, ⟨g0, g1, g2, g3, g4, g5⟩⟩ := H6.out.cellA
    obtain ⟨⟨c0, c1, c2, c3, c4, c5⟩, ⟨f0, f1, f2, f3, f4, f5⟩⟩ := H6.out.cellB
    go_wp2_with (fail)
    rw [HO.out]
    refine bodyPost_ret (v := .tuple #[cellV zeroC, .int .i64 1]) (by simp [results, Tryz.results85, cellV, zeroC, go_sem, *]) rfl ⟨rfl, ?_⟩
    repeat (first | (with_reducible refine Fp.drew' ?_) | (with_reducible refine Fp.setCell' ?_ (Or.inr (by first | exact Nat.le_refl _ | exact Nat.le_succ _)) _) | (with_reducible exact H6.out.f))
end
end Go.Proofs.YtjnapcfclejknaaGreatDoor
