/-
  The reference of layer 1: Key, part.
-/
import Derived.Test.YtepffknhkpppcaaDoorRefF
namespace Go.Proofs.YtepffknhkpppcaaDoor
open Go.RowKit

theorem keyL_names (c : Cel) : bl (esc c.row.data.toList ++ [0, 1]) ++ bl (esc c.col.data.toList ++ [0, 1]) ++ bl (be8 (M64 - c.ts)) ++ bl (be8 (M64 - c.seq)) = bl (keyL c) := by
  simp only [bl_append]
  unfold keyL
  simp
theorem wrap_most {a : Nat} (h : a < 18446744073709551616) : IntKind.u64.wrap (18446744073709551615 - (a : Int)) = ((M64 - a : Nat) : Int) := by
  rw [IntKind.wrap_u64]; unfold M64; omega

set_option maxRecDepth 100000 in
set_option maxHeartbeats 4000000 in
theorem rkey_any (c : Cel) (w : World) (hc : CelOK c) : Calls Tryd.prog 31 #[cellV c] w fun e w' => e = .returned (.string (keyB c)) ∧ Fp [] w w' := by
  have n1 := fun w => rmay_any c w hc
  have ht := hc.ts
  have hq := hc.seq
  have HB : Hid (keyB c = if mayB c = true then ⟨(keyL c).toArray⟩ else ⟨#[]⟩) := rfl
  unfold cellV at n1 ⊢
  cases hmay : mayB c
  · rw [hmay] at n1
    have HB2 : Hid (keyB c = ⟨#[]⟩) := by unfold Hid; rw [HB.out, hmay]; rfl
    have N1 := Lib.hid n1
    clear n1 hmay
    go_enter Tryd.func31, Tryd.ntmps31
    go_wp2_with (fail)
    refine (N1.out _).mono ?_
    rintro e w1 ⟨rfl, hf1⟩
    have HF1 := Lib.hid hf1
    clear hf1
    go_wp2_with (fail)
    go_ret
    rw [HB2.out]
    exact ⟨rfl, (Fp.alloc w _).trans HF1.out (by simp)⟩
  obtain ⟨⟨hr0, hr⟩, ⟨hk0, hk⟩, hv, _⟩ := mayB_true hmay
  rw [hmay] at n1
  have heq : bl (esc c.row.data.toList ++ [0, 1]) ++ bl (esc c.col.data.toList ++ [0, 1]) ++ bl (be8 (M64 - c.ts)) ++ bl (be8 (M64 - c.seq)) = keyB c := by
    rw [keyL_names, HB.out, hmay]; rfl
  have N1 := Lib.hid n1
  clear n1 hmay
  have m1 := fun w => rname_any c.row w (by omega)
  have m2 := fun w => rname_any c.col w (by omega)
  have m3 := fun w => rnumber_any' (M64 - c.ts) true w (by unfold M64; omega)
  have m4 := fun w => rnumber_any' (M64 - c.seq) true w (by unfold M64; omega)
  have hw1 := wrap_most ht
  have hw2 := wrap_most hq
  simp only [numL] at m3 m4
  have e1 := esc_length c.row.data.toList
  have e2 := esc_length c.col.data.toList
  rw [← Lib.size_eq] at e1 e2
  obtain ⟨b1, hb1⟩ : ∃ b, bl (esc c.row.data.toList ++ [0, 1]) = b := ⟨_, rfl⟩
  obtain ⟨b2, hb2⟩ : ∃ b, bl (esc c.col.data.toList ++ [0, 1]) = b := ⟨_, rfl⟩
  obtain ⟨b3, hb3⟩ : ∃ b, bl (be8 (M64 - c.ts)) = b := ⟨_, rfl⟩
  obtain ⟨b4, hb4⟩ : ∃ b, bl (be8 (M64 - c.seq)) = b := ⟨_, rfl⟩
  have z1 : b1.size ≤ 82 := by rw [← hb1, bl_size, List.length_append]; simp only [List.length_cons, List.length_nil]; omega
  have z2 : b2.size ≤ 82 := by rw [← hb2, bl_size, List.length_append]; simp only [List.length_cons, List.length_nil]; omega
  have z3 : b3.size = 8 := by rw [← hb3, bl_size]; unfold be8; rw [List.length_reverse, le8_length]
  have z4 : b4.size = 8 := by rw [← hb4, bl_size]; unfold be8; rw [List.length_reverse, le8_length]
  rw [hb1] at m1 heq
  rw [hb2] at m2 heq
  rw [hb3] at m3 heq
  rw [hb4] at m4 heq
  have M1 := Lib.hid m1
  have M2 := Lib.hid m2
  have M3 := Lib.hid m3
  have M4 := Lib.hid m4
  have HEQ := Lib.hid heq
  clear m1 m2 m3 m4 hb1 hb2 hb3 hb4 heq e1 e2
  obtain ⟨W, hW⟩ : ∃ W, W = w.alloc (.cells #[.string c.row, .string c.col, .int .u64 c.ts, .int .u64 c.seq, .bool c.del, .string c.val] 36) := ⟨_, rfl⟩
  have hb : W.heap[w.heap.size]? = some (.cells #[.string c.row, .string c.col, .int .u64 c.ts, .int .u64 c.seq, .bool c.del, .string c.val] 36 (0, 0)) := by
    rw [hW]; exact heap_alloc_at rfl _
  have hfw : Fp [] w W := by rw [hW]; exact Fp.alloc _ _
  have hcell : ∀ w', Fp [] W w' → w'.cell? ⟨w.heap.size, 0, none⟩ = some (.string c.row) ∧ w'.cell? ⟨w.heap.size, 1, none⟩ = some (.string c.col) ∧ w'.cell? ⟨w.heap.size, 2, none⟩ = some (.int .u64 c.ts) ∧ w'.cell? ⟨w.heap.size, 3, none⟩ = some (.int .u64 c.seq) := by
    intro w' hf
    have h1 := (hf.block _ (heap_lt hb) (by simp)).trans hb
    exact ⟨cell_of_block h1 0, cell_of_block h1 1, cell_of_block h1 2, cell_of_block h1 3⟩
  have HCELL := Lib.hid hcell
  have HFW := Lib.hid hfw
  have HW := Lib.hid hW
  clear hcell hfw hb hW
  go_enter Tryd.func31, Tryd.ntmps31
  go_wp2_with (fail)
  rw [← HW.out]
  refine (N1.out _).mono ?_
  rintro e w1 ⟨rfl, hf1⟩
  have HF1 := Lib.hid hf1
  clear hf1
  go_wp2_with (fail)
  refine wp_region_calm (by kernel_rfl) (by kernel_rfl) ?_
  -- 0
  apply ex_plain rfl rfl rfl
  · intro a w hC hA K hK
    have h1 := hA.free 1 _ (by kernel_rfl) rfl
    simp only [Oper.wp, execOp]; go_simp
    exact hK _ hC (Fp.refl _ _)
  -- 1
  apply ex_plain rfl rfl rfl
  · intro a w hC hA K hK
    have h6 : a.tmps[6]?.getD undef = _ := hA.dep 0 6 _ (by kernel_rfl) rfl
    obtain ⟨k0, k1, k2, k3⟩ := HCELL.out _ (HF1.out.trans hC (by simp))
    simp only [Oper.wp, execOp]; go_simp
    exact hK _ hC (Fp.refl _ _)
  -- 2
  apply ex_plain rfl rfl rfl
  · intro a w hC hA K hK
    have h7 : a.tmps[7]?.getD undef = _ := hA.dep 1 7 _ (by kernel_rfl) rfl
    simp only [Oper.wp, execOp]; go_simp
    first
      | ((with_reducible refine (M1.out _).mono ?_); rintro e w2 ⟨rfl, hf⟩; exact hK _ (hC.trans hf (by simp)) hf)
      | ((with_reducible refine (M2.out _).mono ?_); rintro e w2 ⟨rfl, hf⟩; exact hK _ (hC.trans hf (by simp)) hf)
      | ((with_reducible refine (M3.out _).mono ?_); rintro e w2 ⟨rfl, hf⟩; exact hK _ (hC.trans hf (by simp)) hf)
      | ((with_reducible refine (M4.out _).mono ?_); rintro e w2 ⟨rfl, hf⟩; exact hK _ (hC.trans hf (by simp)) hf)
  -- 3
  apply ex_plain rfl rfl rfl
  · intro a w hC hA K hK
    have h1 := hA.free 1 _ (by kernel_rfl) rfl
    simp only [Oper.wp, execOp]; go_simp
    exact hK _ hC (Fp.refl _ _)
  -- 4
  apply ex_plain rfl rfl rfl
  · intro a w hC hA K hK
    have h9 : a.tmps[9]?.getD undef = _ := hA.dep 3 9 _ (by kernel_rfl) rfl
    obtain ⟨k0, k1, k2, k3⟩ := HCELL.out _ (HF1.out.trans hC (by simp))
    simp only [Oper.wp, execOp]; go_simp
    exact hK _ hC (Fp.refl _ _)
  -- 5
  apply ex_plain rfl rfl rfl
  · intro a w hC hA K hK
    have h10 : a.tmps[10]?.getD undef = _ := hA.dep 4 10 _ (by kernel_rfl) rfl
    simp only [Oper.wp, execOp]; go_simp
    first
      | ((with_reducible refine (M1.out _).mono ?_); rintro e w2 ⟨rfl, hf⟩; exact hK _ (hC.trans hf (by simp)) hf)
      | ((with_reducible refine (M2.out _).mono ?_); rintro e w2 ⟨rfl, hf⟩; exact hK _ (hC.trans hf (by simp)) hf)
      | ((with_reducible refine (M3.out _).mono ?_); rintro e w2 ⟨rfl, hf⟩; exact hK _ (hC.trans hf (by simp)) hf)
      | ((with_reducible refine (M4.out _).mono ?_); rintro e w2 ⟨rfl, hf⟩; exact hK _ (hC.trans hf (by simp)) hf)
  -- 6
  apply ex_plain rfl rfl rfl
  · intro a w hC hA K hK
    have h8 : a.tmps[8]?.getD undef = _ := hA.dep 2 8 _ (by kernel_rfl) rfl
    have h11 : a.tmps[11]?.getD undef = _ := hA.dep 5 11 _ (by kernel_rfl) rfl
    simp only [Oper.wp, execOp]; go_simp
    rw [if_neg (by first | omega | (simp only [ByteArray.size_append]; omega))]
    exact hK _ hC (Fp.refl _ _)
  -- 7
  apply ex_plain rfl rfl rfl
  · intro a w hC hA K hK
    have h1 := hA.free 1 _ (by kernel_rfl) rfl
    simp only [Oper.wp, execOp]; go_simp
    exact hK _ hC (Fp.refl _ _)
  -- 8
  apply ex_plain rfl rfl rfl
  · intro a w hC hA K hK
    have h13 : a.tmps[13]?.getD undef = _ := hA.dep 7 13 _ (by kernel_rfl) rfl
    obtain ⟨k0, k1, k2, k3⟩ := HCELL.out _ (HF1.out.trans hC (by simp))
    simp only [Oper.wp, execOp]; go_simp
    exact hK _ hC (Fp.refl _ _)
  -- 9
  apply ex_plain rfl rfl rfl
  · intro a w hC hA K hK
    have h14 : a.tmps[14]?.getD undef = _ := hA.dep 8 14 _ (by kernel_rfl) rfl
    simp only [Oper.wp, execOp]; go_simp
    exact hK _ hC (Fp.refl _ _)
  -- 10
  apply ex_plain rfl rfl rfl
  · intro a w hC hA K hK
    have h15 : a.tmps[15]?.getD undef = _ := hA.dep 9 15 _ (by kernel_rfl) rfl
    simp only [Oper.wp, execOp]; go_simp
    first
      | ((with_reducible refine (M1.out _).mono ?_); rintro e w2 ⟨rfl, hf⟩; exact hK _ (hC.trans hf (by simp)) hf)
      | ((with_reducible refine (M2.out _).mono ?_); rintro e w2 ⟨rfl, hf⟩; exact hK _ (hC.trans hf (by simp)) hf)
      | ((with_reducible refine (M3.out _).mono ?_); rintro e w2 ⟨rfl, hf⟩; exact hK _ (hC.trans hf (by simp)) hf)
      | ((with_reducible refine (M4.out _).mono ?_); rintro e w2 ⟨rfl, hf⟩; exact hK _ (hC.trans hf (by simp)) hf)
  -- 11
  apply ex_plain rfl rfl rfl
  · intro a w hC hA K hK
    have h12 : a.tmps[12]?.getD undef = _ := hA.dep 6 12 _ (by kernel_rfl) rfl
    have h16 : a.tmps[16]?.getD undef = _ := hA.dep 10 16 _ (by kernel_rfl) rfl
    simp only [Oper.wp, execOp]; go_simp
    rw [if_neg (by first | omega | (simp only [ByteArray.size_append]; omega))]
    exact hK _ hC (Fp.refl _ _)
  -- 12
  apply ex_plain rfl rfl rfl
  · intro a w hC hA K hK
    have h1 := hA.free 1 _ (by kernel_rfl) rfl
    simp only [Oper.wp, execOp]; go_simp
    exact hK _ hC (Fp.refl _ _)
  -- 13
  apply ex_plain rfl rfl rfl
  · intro a w hC hA K hK
    have h18 : a.tmps[18]?.getD undef = _ := hA.dep 12 18 _ (by kernel_rfl) rfl
    obtain ⟨k0, k1, k2, k3⟩ := HCELL.out _ (HF1.out.trans hC (by simp))
    simp only [Oper.wp, execOp]; go_simp
    exact hK _ hC (Fp.refl _ _)
  -- 14
  apply ex_plain rfl rfl rfl
  · intro a w hC hA K hK
    have h19 : a.tmps[19]?.getD undef = _ := hA.dep 13 19 _ (by kernel_rfl) rfl
    simp only [Oper.wp, execOp]; go_simp
    exact hK _ hC (Fp.refl _ _)
  -- 15
  apply ex_plain rfl rfl rfl
  · intro a w hC hA K hK
    have h20 : a.tmps[20]?.getD undef = _ := hA.dep 14 20 _ (by kernel_rfl) rfl
    simp only [Oper.wp, execOp]; go_simp
    first
      | ((with_reducible refine (M1.out _).mono ?_); rintro e w2 ⟨rfl, hf⟩; exact hK _ (hC.trans hf (by simp)) hf)
      | ((with_reducible refine (M2.out _).mono ?_); rintro e w2 ⟨rfl, hf⟩; exact hK _ (hC.trans hf (by simp)) hf)
      | ((with_reducible refine (M3.out _).mono ?_); rintro e w2 ⟨rfl, hf⟩; exact hK _ (hC.trans hf (by simp)) hf)
      | ((with_reducible refine (M4.out _).mono ?_); rintro e w2 ⟨rfl, hf⟩; exact hK _ (hC.trans hf (by simp)) hf)
  -- 16
  apply ex_plain rfl rfl rfl
  · intro a w hC hA K hK
    have h17 : a.tmps[17]?.getD undef = _ := hA.dep 11 17 _ (by kernel_rfl) rfl
    have h21 : a.tmps[21]?.getD undef = _ := hA.dep 15 21 _ (by kernel_rfl) rfl
    simp only [Oper.wp, execOp]; go_simp
    rw [if_neg (by first | omega | (simp only [ByteArray.size_append]; omega))]
    exact hK _ hC (Fp.refl _ _)
  -- 17
  apply ex_plain rfl rfl rfl
  · intro a w hC hA K hK
    have h22 : a.tmps[22]?.getD undef = _ := hA.dep 16 22 _ (by kernel_rfl) rfl
    simp only [Oper.wp, execOp]; go_simp
    exact hK _ hC (Fp.refl _ _)
  refine ⟨?_, ?_⟩
  · repeat (first | exact trivial | refine stab_val _ ?_ | refine ⟨fun w1 w2 v _ hf ⟨g, h1, h2⟩ => ⟨g, h1, (hf.block g (heap_lt h2) (by simp)).trans h2⟩, ?_⟩)
  · intro w' hC
    simp only [List.reverse_cons, List.reverse_nil, List.nil_append, List.cons_append]
    iterate 18 (refine all_val ?_)
    refine all_nil ?_
    simp only [putAll, Act.put, List.setIfInBounds_toArray, List.set_cons_succ, List.set_cons_zero]
    have HF := Lib.hid (HF1.out.trans hC (by simp))
    clear hC
    go_wp2_with (fail)
    go_ret
    rw [← HEQ.out]
    exact ⟨rfl, HFW.out.trans HF.out (by simp)⟩

/-! ### part -/
def partL : List UInt8 → List UInt8 → Nat → List UInt8 × Nat
  | [], _, _ => ([], 0)
  | [_], _, _ => ([], 0)
  | x :: y :: l, acc, i => if x = 0 then (if y = 1 then (acc, i + 2) else if y = 255 then partL l (acc ++ [0]) (i + 2) else ([], 0)) else partL (y :: l) (acc ++ [x]) (i + 1)
theorem partL_step {x : UInt8} (h : x ≠ 0) (l acc : List UInt8) (i : Nat) : partL (x :: l) acc i = partL l (acc ++ [x]) (i + 1) := by
  cases l with
  | nil => rfl
  | cons y l =>
    conv => lhs; unfold partL
    rw [if_neg h]
theorem partL_zero (y : UInt8) (l acc : List UInt8) (i : Nat) : partL (0 :: y :: l) acc i = if y = 1 then (acc, i + 2) else if y = 255 then partL l (acc ++ [0]) (i + 2) else ([], 0) := by
  conv => lhs; unfold partL
  rw [if_pos rfl]
theorem drop_at {s : ByteArray} {k : Nat} (h : k < s.size) : s.data.toList.drop k = atB s k :: s.data.toList.drop (k + 1) := by
  have hl : k < s.data.toList.length := by rw [← Lib.size_eq]; exact h
  rw [List.drop_eq_getElem_cons hl]
  congr 1
  unfold atB
  rw [List.getD_eq_getElem?_getD, List.getElem?_eq_getElem hl]
  rfl

set_option maxRecDepth 100000 in
set_option maxHeartbeats 8000000 in
theorem rpart_any (s : ByteArray) (w : World) (hs : s.size ≤ 100000) :
    Calls Tryd.prog 53 #[.string s] w fun e w' => e = .returned (.tuple #[.string (bl (partL s.data.toList [] 0).1), .int .i64 (partL s.data.toList [] 0).2]) ∧ Fp [] w w' := by
  obtain ⟨P, hP⟩ : ∃ P, partL s.data.toList [] 0 = P := ⟨_, rfl⟩
  rw [hP]
  have HP := Lib.hid hP
  clear hP
  go_enter Tryd.func53, Tryd.ntmps53
  go_wp2_with (fail)
  go_loopg [4, 5] s.size (fun g vb vi wr => ∃ (k : Nat) (l : List UInt8), g + k = s.size ∧ vi = .int .i64 k ∧ l.length ≤ k ∧ Owned wr w.heap.size vb l ∧ partL (s.data.toList.drop k) l k = P ∧ Fp [] w wr)
  case atStart => exact ⟨0, [], rfl, rfl, Nat.le_refl _, Owned.made w w.heap.size [] (Nat.le_refl _) (by decide), HP.out, Fp.alloc _ _⟩
  case round =>
    obtain ⟨k, l, hg, rfl, hlk, ho, hp, hf⟩ := hrel
    have HO := Lib.hid ho
    have HF := Lib.hid hf
    have HPP := Lib.hid hp
    have hbw := hf.size
    clear ho hf hp
    by_cases hk : k < s.size
    · have hd := drop_at hk
      have hat := at_any hk
      have hy8 : (atB s k).toNat < 256 := (atB s k).toNat_lt
      have HL : Hid (l.length + 1 ≤ 1000000000) := by unfold Hid; omega
      obtain ⟨y, hy⟩ : ∃ y, atB s k = y := ⟨_, rfl⟩
      rw [hy] at hd hat hy8
      have HD := Lib.hid hd
      clear hy hd
      by_cases hz : y = 0
      · subst hz
        by_cases hk1 : k + 1 < s.size
        · have hd2 := drop_at hk1
          have hat2 := at_any hk1
          have hz8 : (atB s (k + 1)).toNat < 256 := (atB s (k + 1)).toNat_lt
          obtain ⟨z, hz⟩ : ∃ z, atB s (k + 1) = z := ⟨_, rfl⟩
          rw [hz] at hd2 hat2 hz8
          have hpz := partL_zero z (s.data.toList.drop (k + 1 + 1)) l k
          rw [← hd2, ← HD.out, HPP.out] at hpz
          have HZ := Lib.hid hpz
          have i1 : (k : Int) + 1 < (s.size : Int) := by omega
          have i2 : ((k : Int) + 1 == (s.size : Int)) = false := by rw [beq_eq_false_iff_ne]; omega
          have i3 : ((k : Int) + 1).toNat = k + 1 := by omega
          have i4 : (0 : Int) ≤ (k : Int) + 1 := by omega
          clear hz hd2 hpz
          by_cases h1 : z = 1
          · subst h1
            have hstr := run_str_of HO.out
            have HZ2 : Hid (P = (l, k + 2)) := HZ.out
            go_wp2_with (fail)
            go_ret2
            rw [HZ2.out]
            exact ⟨rfl, HF.out⟩
          · have t1 : ((z.toNat : Int) == 1) = false := by
              rw [beq_eq_false_iff_ne]
              intro e
              exact h1 (UInt8.toNat_inj.1 (by show z.toNat = 1; omega))
            by_cases h2 : z = 255
            · subst h2
              have HZ2 : Hid (P = partL (s.data.toList.drop (k + 1 + 1)) (l ++ [0]) (k + 2)) := HZ.out
              have R1 : Hid (∀ w : World, Reads (w.alloc (.cells #[.int .u8 0] 5)) (.slice (some ⟨w.heap.size, 0, none⟩) 1 1) [UInt8.ofNat 0]) := fun w => Reads.one w (n := 0) (by decide)
              go_wp2_with (first
                | (at_builtin; with_reducible refine wpList_append_reads rfl _ _ rfl w.heap.size _ _ rfl (HO.out.alloc _) _ _ rfl (R1.out _) HL.out (by simp; omega) ?_; intro v3 w3 hown3 hbel3; have HF3 := Lib.hid ((HF.out.alloc' _).belowTrans hbel3); have HO3 := Lib.hid hown3; clear hown3 hbel3))
              go_roundg (gk - 2)
              case measure => omega
              case rel => exact ⟨k + 2, l ++ [0], by omega, by go_num, by rw [List.length_append]; simp only [List.length_cons, List.length_nil]; omega, HO3.out, HZ2.out.symm, HF3.out⟩
            · have t2 : ((z.toNat : Int) == 255) = false := by
                rw [beq_eq_false_iff_ne]
                intro e
                exact h2 (UInt8.toNat_inj.1 (by show z.toNat = 255; omega))
              have HZ2 : Hid (P = ([], 0)) := by unfold Hid; rw [HZ.out, if_neg h1, if_neg h2]
              go_wp2_with (fail)
              go_ret2
              rw [HZ2.out]
              exact ⟨rfl, HF.out⟩
        · have i2 : ((k : Int) + 1 == (s.size : Int)) = true := by rw [beq_iff_eq]; omega
          have HZ2 : Hid (P = ([], 0)) := by
            unfold Hid
            rw [← HPP.out, HD.out, List.drop_eq_nil_of_le (by rw [← Lib.size_eq]; omega)]
            rfl
          go_wp2_with (fail)
          go_ret2
          rw [HZ2.out]
          exact ⟨rfl, HF.out⟩
      · have hyn : ¬ ((y.toNat : Int) = 0) := fun h => hz (UInt8.toNat_inj.1 (by show y.toNat = 0; omega))
        have t1 : ((y.toNat : Int) == 0) = false := by simpa using hyn
        have R1 : Hid (∀ w : World, Reads (w.alloc (.cells #[.int .u8 y.toNat] 5)) (.slice (some ⟨w.heap.size, 0, none⟩) 1 1) [UInt8.ofNat y.toNat]) := fun w => Reads.one w (n := y.toNat) hy8
        have HZ2 : Hid (partL (s.data.toList.drop (k + 1)) (l ++ [UInt8.ofNat y.toNat]) (k + 1) = P) := by
          unfold Hid
          rw [ofNat_toNat, ← partL_step hz, ← HD.out]
          exact HPP.out
        go_wp2_with (first
          | (at_builtin; with_reducible refine wpList_append_reads rfl _ _ rfl w.heap.size _ _ rfl (HO.out.alloc _) _ _ rfl (R1.out _) HL.out (by simp; omega) ?_; intro v3 w3 hown3 hbel3; have HF3 := Lib.hid ((HF.out.alloc' _).belowTrans hbel3); have HO3 := Lib.hid hown3; clear hown3 hbel3))
        go_roundg (gk - 1)
        case measure => omega
        case rel => exact ⟨k + 1, l ++ [UInt8.ofNat y.toNat], by omega, by go_num, by rw [List.length_append]; simp only [List.length_cons, List.length_nil]; omega, HO3.out, HZ2.out, HF3.out⟩
    · have HZ2 : Hid (P = ([], 0)) := by
        unfold Hid
        rw [← HPP.out, List.drop_eq_nil_of_le (by rw [← Lib.size_eq]; omega)]
        rfl
      go_wp2_with (fail)
      go_ret2
      rw [HZ2.out]
      exact ⟨rfl, HF.out⟩
end Go.Proofs.YtepffknhkpppcaaDoor
