/-
  The reference of layer 1: Encode.
-/
import Derived.Test.YtlpfijkchbpdmaaDoorRefB
import Derived.Test.YtlpfijkchbpdmaaDoorBytesStep
namespace Go.Proofs.YtlpfijkchbpdmaaDoor
open Go.RowKit

theorem conv1 {w : World} {g n : Nat} (hg : w.heap[g]? = some (.cells #[.int .u8 n] 5 (0, 0))) (h : n < 256) : (convert 44 9 (.slice (some ⟨g, 0, none⟩) 1 1)).run Tryd.prog w = .ok (.string (bl [UInt8.ofNat n])) w := by
  refine str_of_brow (cap := 1) (n := 1) (f := fun _ => UInt8.ofNat n) ⟨heap_lt hg, fun j hj => ?_, fun j _ => frozen_of_block hg j⟩
  obtain rfl : j = 0 := by omega
  rw [cell_of_block hg, byteV_ofNat h]
  rfl
theorem conv2 {w : World} {g n m : Nat} (hg : w.heap[g]? = some (.cells #[.int .u8 n, .int .u8 m] 5 (0, 0))) (h : n < 256) (h2 : m < 256) : (convert 44 9 (.slice (some ⟨g, 0, none⟩) 2 2)).run Tryd.prog w = .ok (.string (bl [UInt8.ofNat n, UInt8.ofNat m])) w := by
  refine str_of_brow (cap := 2) (n := 2) (f := fun j => if j = 0 then UInt8.ofNat n else UInt8.ofNat m) ⟨heap_lt hg, fun j hj => ?_, fun j _ => frozen_of_block hg j⟩
  have h3 : j = 0 ∨ j = 1 := by omega
  rcases h3 with rfl | rfl
  · rw [cell_of_block hg, if_pos rfl, byteV_ofNat h]; rfl
  · rw [cell_of_block hg, if_neg (by decide), byteV_ofNat h2]; rfl
theorem bl_append (a b : List UInt8) : bl a ++ bl b = bl (a ++ b) := by
  rw [← Lib.mk_data (bl a ++ bl b)]
  unfold bl
  simp

set_option maxRecDepth 100000 in
set_option maxHeartbeats 4000000 in
theorem renc_any (c : Cel) (w : World) (hc : CelOK c) : Calls Tryd.prog 14 #[cellV c] w fun e w' => e = .returned (.tuple #[.string (encB c), .int .i64 (encE c)]) ∧ Fp [] w w' := by
  have n1 := fun w => rmay_any c w hc
  have ht := hc.ts
  have hq := hc.seq
  have HB : Hid (encB c = if mayB c = true then ⟨(encL c).toArray⟩ else ⟨#[]⟩) := rfl
  have HE : Hid (encE c = if mayB c = true then 0 else 1) := rfl
  unfold cellV at n1 ⊢
  cases hmay : mayB c
  · rw [hmay] at n1
    have HB2 : Hid (encB c = ⟨#[]⟩) := by unfold Hid; rw [HB.out, hmay]; rfl
    have HE2 : Hid (encE c = 1) := by unfold Hid; rw [HE.out, hmay]; rfl
    have N1 := Lib.hid n1
    clear n1 hmay
    go_enter Tryd.func14, Tryd.ntmps14
    go_wp2_with (fail)
    refine (N1.out _).mono ?_
    rintro e w1 ⟨rfl, hf1⟩
    have HF1 := Lib.hid hf1
    clear hf1
    go_wp2_with (fail)
    go_ret2
    rw [HB2.out, HE2.out]
    exact ⟨rfl, (Fp.alloc w _).trans HF1.out (by simp)⟩
  obtain ⟨⟨hr0, hr⟩, ⟨hk0, hk⟩, hv, _⟩ := mayB_true hmay
  rw [hmay] at n1
  have HB2 : Hid (encB c = ⟨(encL c).toArray⟩) := by unfold Hid; rw [HB.out, hmay]; rfl
  have HE2 : Hid (encE c = 0) := by unfold Hid; rw [HE.out, hmay]; rfl
  have heq : bl [UInt8.ofNat c.row.size] ++ c.row ++ bl [UInt8.ofNat c.col.size] ++ c.col ++ bl (le8 c.ts) ++ bl (le8 c.seq) ++ bl [delN c.del, UInt8.ofNat c.val.size] ++ c.val = encB c := by
    rw [HB2.out]
    conv => lhs; rw [← bl_data c.row, ← bl_data c.col, ← bl_data c.val]
    simp only [bl_data]
    show bl _ = bl (encL c)
    unfold encL
    simp [bl_toList]
  have N1 := Lib.hid n1
  clear n1 hmay
  obtain ⟨dl, hdl⟩ : ∃ dl, dl = c.del := ⟨_, rfl⟩
  rw [← hdl] at N1 heq ⊢
  clear hdl
  have m1 := fun w => rnumber_any' c.ts false w ht
  have m2 := fun w => rnumber_any' c.seq false w hq
  have cv1 := fun (w : World) (g : Nat) hg => conv1 (w := w) (g := g) (n := c.row.size) hg (by omega)
  have cv2 := fun (w : World) (g : Nat) hg => conv1 (w := w) (g := g) (n := c.col.size) hg (by omega)
  have hwr1 := wrap_u8 (n := c.row.size) (by omega)
  have hwr2 := wrap_u8 (n := c.col.size) (by omega)
  have hwr3 := wrap_u8 (n := c.val.size) (by omega)
  simp only [numL] at m1 m2
  obtain ⟨b1, hb1⟩ : ∃ b, bl [UInt8.ofNat c.row.size] = b := ⟨_, rfl⟩
  obtain ⟨b2, hb2⟩ : ∃ b, bl [UInt8.ofNat c.col.size] = b := ⟨_, rfl⟩
  obtain ⟨b4, hb4⟩ : ∃ b, bl (le8 c.ts) = b := ⟨_, rfl⟩
  obtain ⟨b5, hb5⟩ : ∃ b, bl (le8 c.seq) = b := ⟨_, rfl⟩
  have z1 : b1.size = 1 := by rw [← hb1]; rfl
  have z2 : b2.size = 1 := by rw [← hb2]; rfl
  have z4 : b4.size = 8 := by rw [← hb4, bl_size, le8_length]
  have z5 : b5.size = 8 := by rw [← hb5, bl_size, le8_length]
  rw [hb1] at cv1 heq
  rw [hb2] at cv2 heq
  rw [hb4] at m1 heq
  rw [hb5] at m2 heq
  have CV1 := Lib.hid cv1
  have CV2 := Lib.hid cv2
  have M1 := Lib.hid m1
  have M2 := Lib.hid m2
  clear cv1 cv2 m1 m2 hb1 hb2 hb4 hb5
  obtain ⟨W, hW⟩ : ∃ W, W = w.alloc (.cells #[.string c.row, .string c.col, .int .u64 c.ts, .int .u64 c.seq, .bool dl, .string c.val] 24) := ⟨_, rfl⟩
  have hb : W.heap[w.heap.size]? = some (.cells #[.string c.row, .string c.col, .int .u64 c.ts, .int .u64 c.seq, .bool dl, .string c.val] 24 (0, 0)) := by
    rw [hW]; exact heap_alloc_at rfl _
  have hfw : Fp [] w W := by rw [hW]; exact Fp.alloc _ _
  have hcell : ∀ w', Fp [] W w' → w'.cell? ⟨w.heap.size, 0, none⟩ = some (.string c.row) ∧ w'.cell? ⟨w.heap.size, 1, none⟩ = some (.string c.col) ∧ w'.cell? ⟨w.heap.size, 2, none⟩ = some (.int .u64 c.ts) ∧ w'.cell? ⟨w.heap.size, 3, none⟩ = some (.int .u64 c.seq) ∧ w'.cell? ⟨w.heap.size, 4, none⟩ = some (.bool dl) ∧ w'.cell? ⟨w.heap.size, 5, none⟩ = some (.string c.val) ∧ w.heap.size < w'.heap.size := by
    intro w' hf
    have h1 := (hf.block _ (heap_lt hb) (by simp)).trans hb
    exact ⟨cell_of_block h1 0, cell_of_block h1 1, cell_of_block h1 2, cell_of_block h1 3, cell_of_block h1 4, cell_of_block h1 5, heap_lt h1⟩
  have HCELL := Lib.hid hcell
  have HFW := Lib.hid hfw
  have HW := Lib.hid hW
  clear hcell hfw hb hW
  cases dl
  · have cv3 := fun (w : World) (g : Nat) hg => conv2 (w := w) (g := g) (n := 0) (m := c.val.size) hg (by omega) (by omega)
    have hd : delN false = UInt8.ofNat 0 := rfl
    rw [hd] at heq
    obtain ⟨b3, hb3⟩ : ∃ b, bl [UInt8.ofNat 0, UInt8.ofNat c.val.size] = b := ⟨_, rfl⟩
    have z3 : b3.size = 2 := by rw [← hb3]; rfl
    rw [hb3] at cv3 heq
    have CV3 := Lib.hid cv3
    have HEQ := Lib.hid heq
    clear cv3 heq hb3 hd
    go_enter Tryd.func14, Tryd.ntmps14
    go_wp2_with (fail)
    rw [← HW.out]
    refine (N1.out _).mono ?_
    rintro e w1 ⟨rfl, hf1⟩
    have HF1 := Lib.hid hf1
    obtain ⟨-, -, -, -, k4, -, -⟩ := HCELL.out _ hf1
    clear hf1
    go_wp2_with (fail)
    clear k4
    refine wp_region_calm (by kernel_rfl) (by kernel_rfl) ?_
    -- 0
    apply ex_plain rfl rfl rfl
    · intro a w hC hA K hK
      have h1 := hA.free 1 _ (by kernel_rfl) rfl
      simp only [Oper.wp, execOp]; go_simp
      exact hK _ hC (Fp.refl _ _)
    -- 1
    apply ex_plain rfl rfl rfl
    · intro a w hC hA K hK
      have h10 : a.tmps[10]?.getD undef = _ := hA.dep 0 10 _ (by kernel_rfl) rfl
      obtain ⟨k0, k1, k2, k3, k4, k5, k6⟩ := HCELL.out _ (HF1.out.trans hC (by simp))
      simp only [Oper.wp, execOp]; go_simp
      exact hK _ hC (Fp.refl _ _)
    -- 2
    apply ex_plain rfl rfl rfl
    · intro a w hC hA K hK
      have h11 : a.tmps[11]?.getD undef = _ := hA.dep 1 11 _ (by kernel_rfl) rfl
      simp only [Oper.wp, execOp]; go_simp
      exact hK _ hC (Fp.refl _ _)
    -- 3
    apply ex_plain rfl rfl rfl
    · intro a w hC hA K hK
      have h12 : a.tmps[12]?.getD undef = _ := hA.dep 2 12 _ (by kernel_rfl) rfl
      simp only [Oper.wp, execOp]; go_simp
      exact hK _ hC (Fp.refl _ _)
    -- 4
    apply ex_some ((fun w' v => ∃ g, v = .slice (some ⟨g, 0, none⟩) 1 1 ∧ w'.heap[g]? = some (.cells #[.int .u8 c.row.size] 5 (0, 0)))) rfl rfl rfl
    · intro a w hC hA K hK
      have h13 : a.tmps[13]?.getD undef = _ := hA.dep 3 13 _ (by kernel_rfl) rfl
      simp only [Oper.wp, execOp]; go_simp
      exact hK _ _ (hC.alloc' _) (Fp.alloc _ _) ⟨_, rfl, heap_alloc_at rfl _⟩
    -- 5
    apply ex_plain rfl rfl rfl
    · intro a w hC hA K hK
      have h14 := hA.dep 4 14 _ (by kernel_rfl) rfl
      obtain ⟨g, h14, hg⟩ := h14
      have hcv := CV1.out _ _ hg
      simp only [Oper.wp, execOp]; go_simp
      exact hK _ hC (Fp.refl _ _)
    -- 6
    apply ex_plain rfl rfl rfl
    · intro a w hC hA K hK
      have h1 := hA.free 1 _ (by kernel_rfl) rfl
      simp only [Oper.wp, execOp]; go_simp
      exact hK _ hC (Fp.refl _ _)
    -- 7
    apply ex_plain rfl rfl rfl
    · intro a w hC hA K hK
      have h16 : a.tmps[16]?.getD undef = _ := hA.dep 6 16 _ (by kernel_rfl) rfl
      obtain ⟨k0, k1, k2, k3, k4, k5, k6⟩ := HCELL.out _ (HF1.out.trans hC (by simp))
      simp only [Oper.wp, execOp]; go_simp
      exact hK _ hC (Fp.refl _ _)
    -- 8
    apply ex_plain rfl rfl rfl
    · intro a w hC hA K hK
      have h15 : a.tmps[15]?.getD undef = _ := hA.dep 5 15 _ (by kernel_rfl) rfl
      have h17 : a.tmps[17]?.getD undef = _ := hA.dep 7 17 _ (by kernel_rfl) rfl
      simp only [Oper.wp, execOp]; go_simp
      rw [if_neg (by first | omega | (simp only [ByteArray.size_append]; omega))]
      exact hK _ hC (Fp.refl _ _)
    -- 9
    apply ex_plain rfl rfl rfl
    · intro a w hC hA K hK
      have h1 := hA.free 1 _ (by kernel_rfl) rfl
      simp only [Oper.wp, execOp]; go_simp
      exact hK _ hC (Fp.refl _ _)
    -- 10
    apply ex_plain rfl rfl rfl
    · intro a w hC hA K hK
      have h19 : a.tmps[19]?.getD undef = _ := hA.dep 9 19 _ (by kernel_rfl) rfl
      obtain ⟨k0, k1, k2, k3, k4, k5, k6⟩ := HCELL.out _ (HF1.out.trans hC (by simp))
      simp only [Oper.wp, execOp]; go_simp
      exact hK _ hC (Fp.refl _ _)
    -- 11
    apply ex_plain rfl rfl rfl
    · intro a w hC hA K hK
      have h20 : a.tmps[20]?.getD undef = _ := hA.dep 10 20 _ (by kernel_rfl) rfl
      simp only [Oper.wp, execOp]; go_simp
      exact hK _ hC (Fp.refl _ _)
    -- 12
    apply ex_plain rfl rfl rfl
    · intro a w hC hA K hK
      have h21 : a.tmps[21]?.getD undef = _ := hA.dep 11 21 _ (by kernel_rfl) rfl
      simp only [Oper.wp, execOp]; go_simp
      exact hK _ hC (Fp.refl _ _)
    -- 13
    apply ex_some ((fun w' v => ∃ g, v = .slice (some ⟨g, 0, none⟩) 1 1 ∧ w'.heap[g]? = some (.cells #[.int .u8 c.col.size] 5 (0, 0)))) rfl rfl rfl
    · intro a w hC hA K hK
      have h22 : a.tmps[22]?.getD undef = _ := hA.dep 12 22 _ (by kernel_rfl) rfl
      simp only [Oper.wp, execOp]; go_simp
      exact hK _ _ (hC.alloc' _) (Fp.alloc _ _) ⟨_, rfl, heap_alloc_at rfl _⟩
    -- 14
    apply ex_plain rfl rfl rfl
    · intro a w hC hA K hK
      have h23 := hA.dep 13 23 _ (by kernel_rfl) rfl
      obtain ⟨g, h23, hg⟩ := h23
      have hcv := CV2.out _ _ hg
      simp only [Oper.wp, execOp]; go_simp
      exact hK _ hC (Fp.refl _ _)
    -- 15
    apply ex_plain rfl rfl rfl
    · intro a w hC hA K hK
      have h18 : a.tmps[18]?.getD undef = _ := hA.dep 8 18 _ (by kernel_rfl) rfl
      have h24 : a.tmps[24]?.getD undef = _ := hA.dep 14 24 _ (by kernel_rfl) rfl
      simp only [Oper.wp, execOp]; go_simp
      rw [if_neg (by first | omega | (simp only [ByteArray.size_append]; omega))]
      exact hK _ hC (Fp.refl _ _)
    -- 16
    apply ex_plain rfl rfl rfl
    · intro a w hC hA K hK
      have h1 := hA.free 1 _ (by kernel_rfl) rfl
      simp only [Oper.wp, execOp]; go_simp
      exact hK _ hC (Fp.refl _ _)
    -- 17
    apply ex_plain rfl rfl rfl
    · intro a w hC hA K hK
      have h26 : a.tmps[26]?.getD undef = _ := hA.dep 16 26 _ (by kernel_rfl) rfl
      obtain ⟨k0, k1, k2, k3, k4, k5, k6⟩ := HCELL.out _ (HF1.out.trans hC (by simp))
      simp only [Oper.wp, execOp]; go_simp
      exact hK _ hC (Fp.refl _ _)
    -- 18
    apply ex_plain rfl rfl rfl
    · intro a w hC hA K hK
      have h25 : a.tmps[25]?.getD undef = _ := hA.dep 15 25 _ (by kernel_rfl) rfl
      have h27 : a.tmps[27]?.getD undef = _ := hA.dep 17 27 _ (by kernel_rfl) rfl
      simp only [Oper.wp, execOp]; go_simp
      rw [if_neg (by first | omega | (simp only [ByteArray.size_append]; omega))]
      exact hK _ hC (Fp.refl _ _)
    -- 19
    apply ex_plain rfl rfl rfl
    · intro a w hC hA K hK
      have h1 := hA.free 1 _ (by kernel_rfl) rfl
      simp only [Oper.wp, execOp]; go_simp
      exact hK _ hC (Fp.refl _ _)
    -- 20
    apply ex_plain rfl rfl rfl
    · intro a w hC hA K hK
      have h29 : a.tmps[29]?.getD undef = _ := hA.dep 19 29 _ (by kernel_rfl) rfl
      obtain ⟨k0, k1, k2, k3, k4, k5, k6⟩ := HCELL.out _ (HF1.out.trans hC (by simp))
      simp only [Oper.wp, execOp]; go_simp
      exact hK _ hC (Fp.refl _ _)
    -- 21
    apply ex_plain rfl rfl rfl
    · intro a w hC hA K hK
      have h30 : a.tmps[30]?.getD undef = _ := hA.dep 20 30 _ (by kernel_rfl) rfl
      simp only [Oper.wp, execOp]; go_simp
      first
        | ((with_reducible refine (M1.out _).mono ?_); rintro e w2 ⟨rfl, hf⟩; exact hK _ (hC.trans hf (by simp)) hf)
        | ((with_reducible refine (M2.out _).mono ?_); rintro e w2 ⟨rfl, hf⟩; exact hK _ (hC.trans hf (by simp)) hf)
    -- 22
    apply ex_plain rfl rfl rfl
    · intro a w hC hA K hK
      have h28 : a.tmps[28]?.getD undef = _ := hA.dep 18 28 _ (by kernel_rfl) rfl
      have h31 : a.tmps[31]?.getD undef = _ := hA.dep 21 31 _ (by kernel_rfl) rfl
      simp only [Oper.wp, execOp]; go_simp
      rw [if_neg (by first | omega | (simp only [ByteArray.size_append]; omega))]
      exact hK _ hC (Fp.refl _ _)
    -- 23
    apply ex_plain rfl rfl rfl
    · intro a w hC hA K hK
      have h1 := hA.free 1 _ (by kernel_rfl) rfl
      simp only [Oper.wp, execOp]; go_simp
      exact hK _ hC (Fp.refl _ _)
    -- 24
    apply ex_plain rfl rfl rfl
    · intro a w hC hA K hK
      have h33 : a.tmps[33]?.getD undef = _ := hA.dep 23 33 _ (by kernel_rfl) rfl
      obtain ⟨k0, k1, k2, k3, k4, k5, k6⟩ := HCELL.out _ (HF1.out.trans hC (by simp))
      simp only [Oper.wp, execOp]; go_simp
      exact hK _ hC (Fp.refl _ _)
    -- 25
    apply ex_plain rfl rfl rfl
    · intro a w hC hA K hK
      have h34 : a.tmps[34]?.getD undef = _ := hA.dep 24 34 _ (by kernel_rfl) rfl
      simp only [Oper.wp, execOp]; go_simp
      first
        | ((with_reducible refine (M1.out _).mono ?_); rintro e w2 ⟨rfl, hf⟩; exact hK _ (hC.trans hf (by simp)) hf)
        | ((with_reducible refine (M2.out _).mono ?_); rintro e w2 ⟨rfl, hf⟩; exact hK _ (hC.trans hf (by simp)) hf)
    -- 26
    apply ex_plain rfl rfl rfl
    · intro a w hC hA K hK
      have h32 : a.tmps[32]?.getD undef = _ := hA.dep 22 32 _ (by kernel_rfl) rfl
      have h35 : a.tmps[35]?.getD undef = _ := hA.dep 25 35 _ (by kernel_rfl) rfl
      simp only [Oper.wp, execOp]; go_simp
      rw [if_neg (by first | omega | (simp only [ByteArray.size_append]; omega))]
      exact hK _ hC (Fp.refl _ _)
    -- 27
    apply ex_plain rfl rfl rfl
    · intro a w hC hA K hK
      have h4 := hA.free 4 _ (by kernel_rfl) rfl
      simp only [Oper.wp, execOp]; go_simp
      exact hK _ hC (Fp.refl _ _)
    -- 28
    apply ex_plain rfl rfl rfl
    · intro a w hC hA K hK
      have h1 := hA.free 1 _ (by kernel_rfl) rfl
      simp only [Oper.wp, execOp]; go_simp
      exact hK _ hC (Fp.refl _ _)
    -- 29
    apply ex_plain rfl rfl rfl
    · intro a w hC hA K hK
      have h38 : a.tmps[38]?.getD undef = _ := hA.dep 28 38 _ (by kernel_rfl) rfl
      obtain ⟨k0, k1, k2, k3, k4, k5, k6⟩ := HCELL.out _ (HF1.out.trans hC (by simp))
      simp only [Oper.wp, execOp]; go_simp
      exact hK _ hC (Fp.refl _ _)
    -- 30
    apply ex_plain rfl rfl rfl
    · intro a w hC hA K hK
      have h39 : a.tmps[39]?.getD undef = _ := hA.dep 29 39 _ (by kernel_rfl) rfl
      simp only [Oper.wp, execOp]; go_simp
      exact hK _ hC (Fp.refl _ _)
    -- 31
    apply ex_plain rfl rfl rfl
    · intro a w hC hA K hK
      have h40 : a.tmps[40]?.getD undef = _ := hA.dep 30 40 _ (by kernel_rfl) rfl
      simp only [Oper.wp, execOp]; go_simp
      exact hK _ hC (Fp.refl _ _)
    -- 32
    apply ex_some ((fun w' v => ∃ g, v = .slice (some ⟨g, 0, none⟩) 2 2 ∧ w'.heap[g]? = some (.cells #[.int .u8 0, .int .u8 c.val.size] 5 (0, 0)))) rfl rfl rfl
    · intro a w hC hA K hK
      have h37 : a.tmps[37]?.getD undef = _ := hA.dep 27 37 _ (by kernel_rfl) rfl
      have h41 : a.tmps[41]?.getD undef = _ := hA.dep 31 41 _ (by kernel_rfl) rfl
      simp only [Oper.wp, execOp]; go_simp
      exact hK _ _ (hC.alloc' _) (Fp.alloc _ _) ⟨_, rfl, heap_alloc_at rfl _⟩
    -- 33
    apply ex_plain rfl rfl rfl
    · intro a w hC hA K hK
      have h42 := hA.dep 32 42 _ (by kernel_rfl) rfl
      obtain ⟨g, h42, hg⟩ := h42
      have hcv := CV3.out _ _ hg
      simp only [Oper.wp, execOp]; go_simp
      exact hK _ hC (Fp.refl _ _)
    -- 34
    apply ex_plain rfl rfl rfl
    · intro a w hC hA K hK
      have h36 : a.tmps[36]?.getD undef = _ := hA.dep 26 36 _ (by kernel_rfl) rfl
      have h43 : a.tmps[43]?.getD undef = _ := hA.dep 33 43 _ (by kernel_rfl) rfl
      simp only [Oper.wp, execOp]; go_simp
      rw [if_neg (by first | omega | (simp only [ByteArray.size_append]; omega))]
      exact hK _ hC (Fp.refl _ _)
    -- 35
    apply ex_plain rfl rfl rfl
    · intro a w hC hA K hK
      have h1 := hA.free 1 _ (by kernel_rfl) rfl
      simp only [Oper.wp, execOp]; go_simp
      exact hK _ hC (Fp.refl _ _)
    -- 36
    apply ex_plain rfl rfl rfl
    · intro a w hC hA K hK
      have h45 : a.tmps[45]?.getD undef = _ := hA.dep 35 45 _ (by kernel_rfl) rfl
      obtain ⟨k0, k1, k2, k3, k4, k5, k6⟩ := HCELL.out _ (HF1.out.trans hC (by simp))
      simp only [Oper.wp, execOp]; go_simp
      exact hK _ hC (Fp.refl _ _)
    -- 37
    apply ex_plain rfl rfl rfl
    · intro a w hC hA K hK
      have h44 : a.tmps[44]?.getD undef = _ := hA.dep 34 44 _ (by kernel_rfl) rfl
      have h46 : a.tmps[46]?.getD undef = _ := hA.dep 36 46 _ (by kernel_rfl) rfl
      simp only [Oper.wp, execOp]; go_simp
      rw [if_neg (by first | omega | (simp only [ByteArray.size_append]; omega))]
      exact hK _ hC (Fp.refl _ _)
    -- 38
    apply ex_plain rfl rfl rfl
    · intro a w hC hA K hK
      have h47 : a.tmps[47]?.getD undef = _ := hA.dep 37 47 _ (by kernel_rfl) rfl
      simp only [Oper.wp, execOp]; go_simp
      exact hK _ hC (Fp.refl _ _)
    -- 39
    apply ex_plain rfl rfl rfl
    · intro a w hC hA K hK
      simp only [Oper.wp, execOp]; go_simp
      exact hK _ hC (Fp.refl _ _)
    refine ⟨?_, ?_⟩
    · repeat (first | exact trivial | refine stab_val _ ?_ | refine ⟨fun w1 w2 v _ hf ⟨g, h1, h2⟩ => ⟨g, h1, (hf.block g (heap_lt h2) (by simp)).trans h2⟩, ?_⟩)
    · intro w' hC
      simp only [List.reverse_cons, List.reverse_nil, List.nil_append, List.cons_append]
      iterate 4 (refine all_val ?_)
      refine all_some ?_
      intro v4 u4
      iterate 8 (refine all_val ?_)
      refine all_some ?_
      intro v13 u13
      iterate 18 (refine all_val ?_)
      refine all_some ?_
      intro v32 u32
      iterate 7 (refine all_val ?_)
      refine all_nil ?_
      simp only [putAll, Act.put, List.setIfInBounds_toArray, List.set_cons_succ, List.set_cons_zero]
      have HF := Lib.hid (HF1.out.trans hC (by simp))
      clear hC
      go_wp2_with (fail)
      go_ret2
      rw [HE2.out, ← HEQ.out]
      exact ⟨rfl, HFW.out.trans HF.out (by simp)⟩
  · have cv3 := fun (w : World) (g : Nat) hg => conv2 (w := w) (g := g) (n := 1) (m := c.val.size) hg (by omega) (by omega)
    have hd : delN true = UInt8.ofNat 1 := rfl
    rw [hd] at heq
    obtain ⟨b3, hb3⟩ : ∃ b, bl [UInt8.ofNat 1, UInt8.ofNat c.val.size] = b := ⟨_, rfl⟩
    have z3 : b3.size = 2 := by rw [← hb3]; rfl
    rw [hb3] at cv3 heq
    have CV3 := Lib.hid cv3
    have HEQ := Lib.hid heq
    clear cv3 heq hb3 hd
    go_enter Tryd.func14, Tryd.ntmps14
    go_wp2_with (fail)
    rw [← HW.out]
    refine (N1.out _).mono ?_
    rintro e w1 ⟨rfl, hf1⟩
    have HF1 := Lib.hid hf1
    obtain ⟨-, -, -, -, k4, -, -⟩ := HCELL.out _ hf1
    clear hf1
    go_wp2_with (fail)
    clear k4
    refine wp_region_calm (by kernel_rfl) (by kernel_rfl) ?_
    -- 0
    apply ex_plain rfl rfl rfl
    · intro a w hC hA K hK
      have h1 := hA.free 1 _ (by kernel_rfl) rfl
      simp only [Oper.wp, execOp]; go_simp
      exact hK _ hC (Fp.refl _ _)
    -- 1
    apply ex_plain rfl rfl rfl
    · intro a w hC hA K hK
      have h10 : a.tmps[10]?.getD undef = _ := hA.dep 0 10 _ (by kernel_rfl) rfl
      obtain ⟨k0, k1, k2, k3, k4, k5, k6⟩ := HCELL.out _ (HF1.out.trans hC (by simp))
      simp only [Oper.wp, execOp]; go_simp
      exact hK _ hC (Fp.refl _ _)
    -- 2
    apply ex_plain rfl rfl rfl
    · intro a w hC hA K hK
      have h11 : a.tmps[11]?.getD undef = _ := hA.dep 1 11 _ (by kernel_rfl) rfl
      simp only [Oper.wp, execOp]; go_simp
      exact hK _ hC (Fp.refl _ _)
    -- 3
    apply ex_plain rfl rfl rfl
    · intro a w hC hA K hK
      have h12 : a.tmps[12]?.getD undef = _ := hA.dep 2 12 _ (by kernel_rfl) rfl
      simp only [Oper.wp, execOp]; go_simp
      exact hK _ hC (Fp.refl _ _)
    -- 4
    apply ex_some ((fun w' v => ∃ g, v = .slice (some ⟨g, 0, none⟩) 1 1 ∧ w'.heap[g]? = some (.cells #[.int .u8 c.row.size] 5 (0, 0)))) rfl rfl rfl
    · intro a w hC hA K hK
      have h13 : a.tmps[13]?.getD undef = _ := hA.dep 3 13 _ (by kernel_rfl) rfl
      simp only [Oper.wp, execOp]; go_simp
      exact hK _ _ (hC.alloc' _) (Fp.alloc _ _) ⟨_, rfl, heap_alloc_at rfl _⟩
    -- 5
    apply ex_plain rfl rfl rfl
    · intro a w hC hA K hK
      have h14 := hA.dep 4 14 _ (by kernel_rfl) rfl
      obtain ⟨g, h14, hg⟩ := h14
      have hcv := CV1.out _ _ hg
      simp only [Oper.wp, execOp]; go_simp
      exact hK _ hC (Fp.refl _ _)
    -- 6
    apply ex_plain rfl rfl rfl
    · intro a w hC hA K hK
      have h1 := hA.free 1 _ (by kernel_rfl) rfl
      simp only [Oper.wp, execOp]; go_simp
      exact hK _ hC (Fp.refl _ _)
    -- 7
    apply ex_plain rfl rfl rfl
    · intro a w hC hA K hK
      have h16 : a.tmps[16]?.getD undef = _ := hA.dep 6 16 _ (by kernel_rfl) rfl
      obtain ⟨k0, k1, k2, k3, k4, k5, k6⟩ := HCELL.out _ (HF1.out.trans hC (by simp))
      simp only [Oper.wp, execOp]; go_simp
      exact hK _ hC (Fp.refl _ _)
    -- 8
    apply ex_plain rfl rfl rfl
    · intro a w hC hA K hK
      have h15 : a.tmps[15]?.getD undef = _ := hA.dep 5 15 _ (by kernel_rfl) rfl
      have h17 : a.tmps[17]?.getD undef = _ := hA.dep 7 17 _ (by kernel_rfl) rfl
      simp only [Oper.wp, execOp]; go_simp
      rw [if_neg (by first | omega | (simp only [ByteArray.size_append]; omega))]
      exact hK _ hC (Fp.refl _ _)
    -- 9
    apply ex_plain rfl rfl rfl
    · intro a w hC hA K hK
      have h1 := hA.free 1 _ (by kernel_rfl) rfl
      simp only [Oper.wp, execOp]; go_simp
      exact hK _ hC (Fp.refl _ _)
    -- 10
    apply ex_plain rfl rfl rfl
    · intro a w hC hA K hK
      have h19 : a.tmps[19]?.getD undef = _ := hA.dep 9 19 _ (by kernel_rfl) rfl
      obtain ⟨k0, k1, k2, k3, k4, k5, k6⟩ := HCELL.out _ (HF1.out.trans hC (by simp))
      simp only [Oper.wp, execOp]; go_simp
      exact hK _ hC (Fp.refl _ _)
    -- 11
    apply ex_plain rfl rfl rfl
    · intro a w hC hA K hK
      have h20 : a.tmps[20]?.getD undef = _ := hA.dep 10 20 _ (by kernel_rfl) rfl
      simp only [Oper.wp, execOp]; go_simp
      exact hK _ hC (Fp.refl _ _)
    -- 12
    apply ex_plain rfl rfl rfl
    · intro a w hC hA K hK
      have h21 : a.tmps[21]?.getD undef = _ := hA.dep 11 21 _ (by kernel_rfl) rfl
      simp only [Oper.wp, execOp]; go_simp
      exact hK _ hC (Fp.refl _ _)
    -- 13
    apply ex_some ((fun w' v => ∃ g, v = .slice (some ⟨g, 0, none⟩) 1 1 ∧ w'.heap[g]? = some (.cells #[.int .u8 c.col.size] 5 (0, 0)))) rfl rfl rfl
    · intro a w hC hA K hK
      have h22 : a.tmps[22]?.getD undef = _ := hA.dep 12 22 _ (by kernel_rfl) rfl
      simp only [Oper.wp, execOp]; go_simp
      exact hK _ _ (hC.alloc' _) (Fp.alloc _ _) ⟨_, rfl, heap_alloc_at rfl _⟩
    -- 14
    apply ex_plain rfl rfl rfl
    · intro a w hC hA K hK
      have h23 := hA.dep 13 23 _ (by kernel_rfl) rfl
      obtain ⟨g, h23, hg⟩ := h23
      have hcv := CV2.out _ _ hg
      simp only [Oper.wp, execOp]; go_simp
      exact hK _ hC (Fp.refl _ _)
    -- 15
    apply ex_plain rfl rfl rfl
    · intro a w hC hA K hK
      have h18 : a.tmps[18]?.getD undef = _ := hA.dep 8 18 _ (by kernel_rfl) rfl
      have h24 : a.tmps[24]?.getD undef = _ := hA.dep 14 24 _ (by kernel_rfl) rfl
      simp only [Oper.wp, execOp]; go_simp
      rw [if_neg (by first | omega | (simp only [ByteArray.size_append]; omega))]
      exact hK _ hC (Fp.refl _ _)
    -- 16
    apply ex_plain rfl rfl rfl
    · intro a w hC hA K hK
      have h1 := hA.free 1 _ (by kernel_rfl) rfl
      simp only [Oper.wp, execOp]; go_simp
      exact hK _ hC (Fp.refl _ _)
    -- 17
    apply ex_plain rfl rfl rfl
    · intro a w hC hA K hK
      have h26 : a.tmps[26]?.getD undef = _ := hA.dep 16 26 _ (by kernel_rfl) rfl
      obtain ⟨k0, k1, k2, k3, k4, k5, k6⟩ := HCELL.out _ (HF1.out.trans hC (by simp))
      simp only [Oper.wp, execOp]; go_simp
      exact hK _ hC (Fp.refl _ _)
    -- 18
    apply ex_plain rfl rfl rfl
    · intro a w hC hA K hK
      have h25 : a.tmps[25]?.getD undef = _ := hA.dep 15 25 _ (by kernel_rfl) rfl
      have h27 : a.tmps[27]?.getD undef = _ := hA.dep 17 27 _ (by kernel_rfl) rfl
      simp only [Oper.wp, execOp]; go_simp
      rw [if_neg (by first | omega | (simp only [ByteArray.size_append]; omega))]
      exact hK _ hC (Fp.refl _ _)
    -- 19
    apply ex_plain rfl rfl rfl
    · intro a w hC hA K hK
      have h1 := hA.free 1 _ (by kernel_rfl) rfl
      simp only [Oper.wp, execOp]; go_simp
      exact hK _ hC (Fp.refl _ _)
    -- 20
    apply ex_plain rfl rfl rfl
    · intro a w hC hA K hK
      have h29 : a.tmps[29]?.getD undef = _ := hA.dep 19 29 _ (by kernel_rfl) rfl
      obtain ⟨k0, k1, k2, k3, k4, k5, k6⟩ := HCELL.out _ (HF1.out.trans hC (by simp))
      simp only [Oper.wp, execOp]; go_simp
      exact hK _ hC (Fp.refl _ _)
    -- 21
    apply ex_plain rfl rfl rfl
    · intro a w hC hA K hK
      have h30 : a.tmps[30]?.getD undef = _ := hA.dep 20 30 _ (by kernel_rfl) rfl
      simp only [Oper.wp, execOp]; go_simp
      first
        | ((with_reducible refine (M1.out _).mono ?_); rintro e w2 ⟨rfl, hf⟩; exact hK _ (hC.trans hf (by simp)) hf)
        | ((with_reducible refine (M2.out _).mono ?_); rintro e w2 ⟨rfl, hf⟩; exact hK _ (hC.trans hf (by simp)) hf)
    -- 22
    apply ex_plain rfl rfl rfl
    · intro a w hC hA K hK
      have h28 : a.tmps[28]?.getD undef = _ := hA.dep 18 28 _ (by kernel_rfl) rfl
      have h31 : a.tmps[31]?.getD undef = _ := hA.dep 21 31 _ (by kernel_rfl) rfl
      simp only [Oper.wp, execOp]; go_simp
      rw [if_neg (by first | omega | (simp only [ByteArray.size_append]; omega))]
      exact hK _ hC (Fp.refl _ _)
    -- 23
    apply ex_plain rfl rfl rfl
    · intro a w hC hA K hK
      have h1 := hA.free 1 _ (by kernel_rfl) rfl
      simp only [Oper.wp, execOp]; go_simp
      exact hK _ hC (Fp.refl _ _)
    -- 24
    apply ex_plain rfl rfl rfl
    · intro a w hC hA K hK
      have h33 : a.tmps[33]?.getD undef = _ := hA.dep 23 33 _ (by kernel_rfl) rfl
      obtain ⟨k0, k1, k2, k3, k4, k5, k6⟩ := HCELL.out _ (HF1.out.trans hC (by simp))
      simp only [Oper.wp, execOp]; go_simp
      exact hK _ hC (Fp.refl _ _)
    -- 25
    apply ex_plain rfl rfl rfl
    · intro a w hC hA K hK
      have h34 : a.tmps[34]?.getD undef = _ := hA.dep 24 34 _ (by kernel_rfl) rfl
      simp only [Oper.wp, execOp]; go_simp
      first
        | ((with_reducible refine (M1.out _).mono ?_); rintro e w2 ⟨rfl, hf⟩; exact hK _ (hC.trans hf (by simp)) hf)
        | ((with_reducible refine (M2.out _).mono ?_); rintro e w2 ⟨rfl, hf⟩; exact hK _ (hC.trans hf (by simp)) hf)
    -- 26
    apply ex_plain rfl rfl rfl
    · intro a w hC hA K hK
      have h32 : a.tmps[32]?.getD undef = _ := hA.dep 22 32 _ (by kernel_rfl) rfl
      have h35 : a.tmps[35]?.getD undef = _ := hA.dep 25 35 _ (by kernel_rfl) rfl
      simp only [Oper.wp, execOp]; go_simp
      rw [if_neg (by first | omega | (simp only [ByteArray.size_append]; omega))]
      exact hK _ hC (Fp.refl _ _)
    -- 27
    apply ex_plain rfl rfl rfl
    · intro a w hC hA K hK
      have h4 := hA.free 4 _ (by kernel_rfl) rfl
      simp only [Oper.wp, execOp]; go_simp
      exact hK _ hC (Fp.refl _ _)
    -- 28
    apply ex_plain rfl rfl rfl
    · intro a w hC hA K hK
      have h1 := hA.free 1 _ (by kernel_rfl) rfl
      simp only [Oper.wp, execOp]; go_simp
      exact hK _ hC (Fp.refl _ _)
    -- 29
    apply ex_plain rfl rfl rfl
    · intro a w hC hA K hK
      have h38 : a.tmps[38]?.getD undef = _ := hA.dep 28 38 _ (by kernel_rfl) rfl
      obtain ⟨k0, k1, k2, k3, k4, k5, k6⟩ := HCELL.out _ (HF1.out.trans hC (by simp))
      simp only [Oper.wp, execOp]; go_simp
      exact hK _ hC (Fp.refl _ _)
    -- 30
    apply ex_plain rfl rfl rfl
    · intro a w hC hA K hK
      have h39 : a.tmps[39]?.getD undef = _ := hA.dep 29 39 _ (by kernel_rfl) rfl
      simp only [Oper.wp, execOp]; go_simp
      exact hK _ hC (Fp.refl _ _)
    -- 31
    apply ex_plain rfl rfl rfl
    · intro a w hC hA K hK
      have h40 : a.tmps[40]?.getD undef = _ := hA.dep 30 40 _ (by kernel_rfl) rfl
      simp only [Oper.wp, execOp]; go_simp
      exact hK _ hC (Fp.refl _ _)
    -- 32
    apply ex_some ((fun w' v => ∃ g, v = .slice (some ⟨g, 0, none⟩) 2 2 ∧ w'.heap[g]? = some (.cells #[.int .u8 1, .int .u8 c.val.size] 5 (0, 0)))) rfl rfl rfl
    · intro a w hC hA K hK
      have h37 : a.tmps[37]?.getD undef = _ := hA.dep 27 37 _ (by kernel_rfl) rfl
      have h41 : a.tmps[41]?.getD undef = _ := hA.dep 31 41 _ (by kernel_rfl) rfl
      simp only [Oper.wp, execOp]; go_simp
      exact hK _ _ (hC.alloc' _) (Fp.alloc _ _) ⟨_, rfl, heap_alloc_at rfl _⟩
    -- 33
    apply ex_plain rfl rfl rfl
    · intro a w hC hA K hK
      have h42 := hA.dep 32 42 _ (by kernel_rfl) rfl
      obtain ⟨g, h42, hg⟩ := h42
      have hcv := CV3.out _ _ hg
      simp only [Oper.wp, execOp]; go_simp
      exact hK _ hC (Fp.refl _ _)
    -- 34
    apply ex_plain rfl rfl rfl
    · intro a w hC hA K hK
      have h36 : a.tmps[36]?.getD undef = _ := hA.dep 26 36 _ (by kernel_rfl) rfl
      have h43 : a.tmps[43]?.getD undef = _ := hA.dep 33 43 _ (by kernel_rfl) rfl
      simp only [Oper.wp, execOp]; go_simp
      rw [if_neg (by first | omega | (simp only [ByteArray.size_append]; omega))]
      exact hK _ hC (Fp.refl _ _)
    -- 35
    apply ex_plain rfl rfl rfl
    · intro a w hC hA K hK
      have h1 := hA.free 1 _ (by kernel_rfl) rfl
      simp only [Oper.wp, execOp]; go_simp
      exact hK _ hC (Fp.refl _ _)
    -- 36
    apply ex_plain rfl rfl rfl
    · intro a w hC hA K hK
      have h45 : a.tmps[45]?.getD undef = _ := hA.dep 35 45 _ (by kernel_rfl) rfl
      obtain ⟨k0, k1, k2, k3, k4, k5, k6⟩ := HCELL.out _ (HF1.out.trans hC (by simp))
      simp only [Oper.wp, execOp]; go_simp
      exact hK _ hC (Fp.refl _ _)
    -- 37
    apply ex_plain rfl rfl rfl
    · intro a w hC hA K hK
      have h44 : a.tmps[44]?.getD undef = _ := hA.dep 34 44 _ (by kernel_rfl) rfl
      have h46 : a.tmps[46]?.getD undef = _ := hA.dep 36 46 _ (by kernel_rfl) rfl
      simp only [Oper.wp, execOp]; go_simp
      rw [if_neg (by first | omega | (simp only [ByteArray.size_append]; omega))]
      exact hK _ hC (Fp.refl _ _)
    -- 38
    apply ex_plain rfl rfl rfl
    · intro a w hC hA K hK
      have h47 : a.tmps[47]?.getD undef = _ := hA.dep 37 47 _ (by kernel_rfl) rfl
      simp only [Oper.wp, execOp]; go_simp
      exact hK _ hC (Fp.refl _ _)
    -- 39
    apply ex_plain rfl rfl rfl
    · intro a w hC hA K hK
      simp only [Oper.wp, execOp]; go_simp
      exact hK _ hC (Fp.refl _ _)
    refine ⟨?_, ?_⟩
    · repeat (first | exact trivial | refine stab_val _ ?_ | refine ⟨fun w1 w2 v _ hf ⟨g, h1, h2⟩ => ⟨g, h1, (hf.block g (heap_lt h2) (by simp)).trans h2⟩, ?_⟩)
    · intro w' hC
      simp only [List.reverse_cons, List.reverse_nil, List.nil_append, List.cons_append]
      iterate 4 (refine all_val ?_)
      refine all_some ?_
      intro v4 u4
      iterate 8 (refine all_val ?_)
      refine all_some ?_
      intro v13 u13
      iterate 18 (refine all_val ?_)
      refine all_some ?_
      intro v32 u32
      iterate 7 (refine all_val ?_)
      refine all_nil ?_
      simp only [putAll, Act.put, List.setIfInBounds_toArray, List.set_cons_succ, List.set_cons_zero]
      have HF := Lib.hid (HF1.out.trans hC (by simp))
      clear hC
      go_wp2_with (fail)
      go_ret2
      rw [HE2.out, ← HEQ.out]
      exact ⟨rfl, HFW.out.trans HF.out (by simp)⟩
end Go.Proofs.YtlpfijkchbpdmaaDoor
