/-
 EngineErrors: the walk of the law.
-/
import Derived.Test.YtkjmgbifoaoefaaGreatDoorQEngP
set_option maxRecDepth 100000
set_option maxHeartbeats 8000000
namespace Go.Proofs.YtkjmgbifoaoefaaGreatDoor
open Go.RowKit Go.Lib Go.Maps Go.MapKept Go.ChangeMaps
def cE0 : Cel := ⟨⟨#[114]⟩, ⟨#[99]⟩, 0, 0, false, ⟨#[]⟩⟩
def cE1 : Cel := ⟨⟨#[114]⟩, ⟨#[99]⟩, 0, 0, false, ⟨#[118]⟩⟩
theorem OpenAt.calm {w0 W W' : World} {G b bm tm M L1 L2 : Nat} {d : Dk} (h : OpenAt w0 G b bm tm M L1 L2 d W) (hf : Fp [] W W') : OpenAt w0 G b bm tm M L1 L2 d W' :=
 ⟨h.st.calm hf, h.lg1.fp hf (by simp), h.lg2.fp hf (by simp), h.fp.trans hf (by simp), h.new⟩
theorem cE0_ok : CelOK cE0 := ⟨by decide, by decide, by decide, by decide, by decide⟩
theorem cE1_ok : CelOK cE1 := ⟨by decide, by decide, by decide, by decide, by decide⟩
theorem engerr_walk (w : World) (c : Cel) (seq : Nat) (lv : Int) (file : ByteArray) (hc : CelOK c) (hsq : seq < 18446744073709551616) (hm : MaxAt w) (ht : TabAt w) (hml : 1 < w.heap.size)
  (hsh : ∀ W, Fp [] w W → Calls Tryz.prog 4 #[] W fun e w' => e = .returned (.bool true) ∧ Fp [] W w') :
  Calls Tryz.prog 3 #[cellV c, .int .u64 seq, .int .i64 lv, .string file] w fun e w' => e = .returned (.bool true) ∧ Fp [] w w' := by
 obtain ⟨W, hW⟩ : ∃ W, W = w.alloc (.cells #[.string c.row, .string c.col, .int .u64 c.ts, .int .u64 c.seq, .bool c.del, .string c.val] 24) := ⟨_, rfl⟩
 have hf : Fp [] w W := by rw [hW]; exact Fp.alloc _ _
 have hbx : W.heap[w.heap.size]? = some (.cells #[.string c.row, .string c.col, .int .u64 c.ts, .int .u64 c.seq, .bool c.del, .string c.val] 24 (0, 0)) := by rw [hW]; exact heap_alloc_at rfl _
 have HBX := Lib.hid hbx
 have HXB : Hid (∀ w', Fp [] W w' → w'.cell? ⟨w.heap.size, 0, none⟩ = some (.string c.row) ∧ w'.cell? ⟨w.heap.size, 1, none⟩ = some (.string c.col) ∧ w'.cell? ⟨w.heap.size, 2, none⟩ = some (.int .u64 c.ts) ∧ w'.cell? ⟨w.heap.size, 3, none⟩ = some (.int .u64 c.seq) ∧ w'.cell? ⟨w.heap.size, 4, none⟩ = some (.bool c.del) ∧ w'.cell? ⟨w.heap.size, 5, none⟩ = some (.string c.val)) := fun w' hf => by
  have hb := (hf.block _ (heap_lt hbx) (by simp)).trans hbx
  exact ⟨cell_of_block hb 0, cell_of_block hb 1, cell_of_block hb 2, cell_of_block hb 3, cell_of_block hb 4, cell_of_block hb 5⟩
 have HSH := Lib.hid hsh
 have HF := Lib.hid hf
 have HM := Lib.hid (hm.fp hf (by simp))
 have HT := Lib.hid (ht.fp hf (by simp))
 have hsz : w.heap.size < W.heap.size := heap_lt hbx
 clear hsh hf hbx hm ht
 unfold cellV
 by_cases hb : 100 < c.row.size ∨ 100 < c.col.size ∨ 200 < c.val.size ∨ 500 < file.size
 ·have h1 : (100 < c.row.size) ∨ (¬ 100 < c.row.size ∧ 100 < c.col.size) ∨ (¬ 100 < c.row.size ∧ ¬ 100 < c.col.size ∧ 200 < c.val.size) ∨ (¬ 100 < c.row.size ∧ ¬ 100 < c.col.size ∧ ¬ 200 < c.val.size ∧ 500 < file.size) := by omega
  rcases h1 with h1 | ⟨h1, h2⟩ | ⟨h1, h2, h3⟩ | ⟨h1, h2, h3, h4⟩
  ·have z1 : (100 : Int) < (c.row.size : Int) := by omega
   clear hb h1
   go_enter Tryz.func3, Tryz.ntmps3
   go_wp2_with (fail)
   rw [← hW]
   refine (HSH.out _ HF.out).mono ?_
   rintro e w2 ⟨rfl, hf2⟩
   have HF2 := Lib.hid (HF.out.trans hf2 (by simp))
   clear hf2
   go_wp2_with (fail)
   go_ret
   exact ⟨rfl, HF2.out⟩
  ·have z1 : ¬ (100 : Int) < (c.row.size : Int) := by omega
   have z2 : (100 : Int) < (c.col.size : Int) := by omega
   clear hb h1 h2
   go_enter Tryz.func3, Tryz.ntmps3
   go_wp2_with (fail)
   rw [← hW]
   refine (HSH.out _ HF.out).mono ?_
   rintro e w2 ⟨rfl, hf2⟩
   have HF2 := Lib.hid (HF.out.trans hf2 (by simp))
   clear hf2
   go_wp2_with (fail)
   go_ret
   exact ⟨rfl, HF2.out⟩
  ·have z1 : ¬ (100 : Int) < (c.row.size : Int) := by omega
   have z2 : ¬ (100 : Int) < (c.col.size : Int) := by omega
   have z3 : (200 : Int) < (c.val.size : Int) := by omega
   clear hb h1 h2 h3
   go_enter Tryz.func3, Tryz.ntmps3
   go_wp2_with (fail)
   rw [← hW]
   refine (HSH.out _ HF.out).mono ?_
   rintro e w2 ⟨rfl, hf2⟩
   have HF2 := Lib.hid (HF.out.trans hf2 (by simp))
   clear hf2
   go_wp2_with (fail)
   go_ret
   exact ⟨rfl, HF2.out⟩
  ·have z1 : ¬ (100 : Int) < (c.row.size : Int) := by omega
   have z2 : ¬ (100 : Int) < (c.col.size : Int) := by omega
   have z3 : ¬ (200 : Int) < (c.val.size : Int) := by omega
   have z4 : (500 : Int) < (file.size : Int) := by omega
   clear hb h1 h2 h3 h4
   go_enter Tryz.func3, Tryz.ntmps3
   go_wp2_with (fail)
   rw [← hW]
   refine (HSH.out _ HF.out).mono ?_
   rintro e w2 ⟨rfl, hf2⟩
   have HF2 := Lib.hid (HF.out.trans hf2 (by simp))
   clear hf2
   go_wp2_with (fail)
   go_ret
   exact ⟨rfl, HF2.out⟩
 have z1 : ¬ (100 : Int) < (c.row.size : Int) := by omega
 have z2 : ¬ (100 : Int) < (c.col.size : Int) := by omega
 have z3 : ¬ (200 : Int) < (c.val.size : Int) := by omega
 have z4 : ¬ (500 : Int) < (file.size : Int) := by omega
 have HB : Hid (c.row.size ≤ 100 ∧ c.col.size ≤ 100 ∧ c.val.size ≤ 200 ∧ file.size ≤ 500) := by unfold Hid; omega
 clear hb
 have HNEW := Lib.hid (fun w => new_any 100000 w)
 go_enter Tryz.func3, Tryz.ntmps3
 go_wp2_with (fail)
 rw [← hW]
 clear hW
 refine (HSH.out _ HF.out).mono ?_
 rintro e w2 ⟨rfl, hf2⟩
 have HF2 := Lib.hid hf2
 clear hf2
 go_wp2_with (fail)
 refine (HNEW.out _).mono ?_
 rintro e w3 ⟨rfl, hd3, hf3⟩
 have HF3 := Lib.hid (HF2.out.trans hf3 (by simp))
 have hs2 := HF2.out.size
 have HOP := Lib.hid (gopen_any w3 (w2.heap.size + 1) w2.heap.size (Dk.new 100000) dkE1 dkE2 hd3 (HT.out.fp HF3.out (by simp)) okE0 okE1 okE2 openE1 readE1 openE2 readE2 listE (by simp; omega) (Nat.lt_of_lt_of_le (by omega) HF3.out.size))
 have HF23 := Lib.hid hf3
 clear hd3 hf3
 unfold ptrV at HOP
 go_wp2_with (fail)
 refine HOP.out.mono ?_
 rintro e w4 ⟨G, tm, M, L1, L2, rfl, hop⟩
 have hop2 : OpenAt w2 G (w2.heap.size + 1) w2.heap.size tm M L1 L2 dkE2 w4 := by
  obtain ⟨g1, g2, g3, g4, g5⟩ := hop.new
  have := HF23.out.size
  exact ⟨hop.st, hop.lg1, hop.lg2, (HF23.out.mono (by simp)).trans hop.fp (fun i hi => Or.inl hi), by omega, by omega, by omega, by omega, by omega⟩
 obtain ⟨W5, hW5⟩ : ∃ W, W = w4.alloc (.cells #[.string ⟨#[114]⟩, .string ⟨#[99]⟩, .int .u64 0, .int .u64 0, .bool false, .string ⟨#[]⟩] 24) := ⟨_, rfl⟩
 have hf5 : Fp [] w4 W5 := by rw [hW5]; exact Fp.alloc _ _
 have hb5 : W5.heap[w4.heap.size]? = some (.cells #[.string cE0.row, .string cE0.col, .int .u64 cE0.ts, .int .u64 cE0.seq, .bool cE0.del, .string cE0.val] 24 (0, 0)) := by rw [hW5]; exact heap_alloc_at rfl _
 have HW1 := Lib.hid (first_write w2 W5 G (w2.heap.size + 1) w2.heap.size tm M L1 L2 5 (some ⟨w4.heap.size, 0, none⟩) 1 cE0 (hop2.calm hf5) ⟨by omega, by omega⟩ (cels_one hb5 cE0_ok) (by decide) (by decide) (by decide +kernel) (by decide +kernel))
 clear hop hop2 hf5 hb5
 unfold ptrV at HW1
 go_wp2_with (fail)
 rw [← hW5]
 clear hW5
 refine HW1.out.mono ?_
 rintro e w6 ⟨rfl, q, n, d, hone, hdk, htk⟩
 have HONE := Lib.hid hone
 have HDK := Lib.hid hdk
 have HTK := Lib.hid htk
 clear hone hdk htk HW1 HOP HNEW
 have HMAY := Lib.hid (fun w => rmay_any c w hc)
 have HTO := Lib.hid (fun w hm ht => topen_any w file (by have := HB.out; omega) hm ht)
 obtain ⟨m, hmE⟩ : ∃ m, mayB c = m := ⟨_, rfl⟩
 obtain ⟨x, hx⟩ : ∃ x, (openP file).2 = x := ⟨_, rfl⟩
 rw [hmE] at HMAY
 rw [hx] at HTO
 have HX := Lib.hid hx
 clear hx
 have hcases : ((((seq : Int) == 0) = true) ∧ True ∧ True ∧ wantP 5 seq c = 1 ∧ (if seq = 0 then (1 : Int) else if seq ≤ 5 then 4 else (x : Nat)) = 1) ∨
   ((((seq : Int) == 0) = false) ∧ ((seq : Int) ≤ 5) ∧ m = false ∧ wantP 5 seq c = 1 ∧ (if seq = 0 then (1 : Int) else if seq ≤ 5 then 4 else (x : Nat)) = 4) ∨
   ((((seq : Int) == 0) = false) ∧ ((seq : Int) ≤ 5) ∧ m = true ∧ wantP 5 seq c = 4 ∧ (if seq = 0 then (1 : Int) else if seq ≤ 5 then 4 else (x : Nat)) = 4) ∨
   ((((seq : Int) == 0) = false) ∧ (¬ (seq : Int) ≤ 5) ∧ m = false ∧ wantP 5 seq c = 1 ∧ (if seq = 0 then (1 : Int) else if seq ≤ 5 then 4 else (x : Nat)) = (x : Nat)) ∨
   ((((seq : Int) == 0) = false) ∧ (¬ (seq : Int) ≤ 5) ∧ m = true ∧ wantP 5 seq c = 0 ∧ (if seq = 0 then (1 : Int) else if seq ≤ 5 then 4 else (x : Nat)) = (x : Nat)) := by
  unfold wantP
  by_cases h0 : seq = 0
  ·left
   subst h0
   simp
  ·right
   have h0' : ((seq : Int) == 0) = false := by simpa using h0
   by_cases h5 : seq ≤ 5
   ·cases hm' : m
    ·left; rw [hmE, hm']; exact ⟨h0', by omega, rfl, by simp, by rw [if_neg h0, if_pos h5]⟩
    ·right; left; rw [hmE, hm']; exact ⟨h0', by omega, rfl, by simp [h0, h5], by rw [if_neg h0, if_pos h5]⟩
   ·cases hm' : m
    ·right; right; left; rw [hmE, hm']; exact ⟨h0', by omega, rfl, by simp, by rw [if_neg h0, if_neg h5]⟩
    ·right; right; right; rw [hmE, hm']; exact ⟨h0', by omega, rfl, by simp [h0, h5], by rw [if_neg h0, if_neg h5]⟩
 clear hmE
 rcases hcases with ⟨zs, z5, hm0, hw, ha⟩ | ⟨zs, z5, hm0, hw, ha⟩ | ⟨zs, z5, hm0, hw, ha⟩ | ⟨zs, z5, hm0, hw, ha⟩ | ⟨zs, z5, hm0, hw, ha⟩
 all_goals
  have HWANT := Lib.hid hw
  have HAD := Lib.hid ha
  clear hw ha
  try subst hm0
  obtain ⟨y0, y1, y2, y3, y4, y5⟩ := HXB.out w6 (HF2.out.trans HONE.out.fp (by simp))
  go_wp2_with (fail)
  first
   |(refine (HMAY.out _).mono ?_
     rintro e w7 ⟨rfl, hf7⟩
     have HO7 := Lib.hid (HONE.out.calm hf7)
     clear hf7 HONE
     go_wp2_with (fail))
   |(have HO7 := HONE
     clear HONE)
  clear y0 y1 y2 y3 y4 y5 HMAY
  refine (HTO.out _ (HM.out.fp (HF2.out.trans HO7.out.fp (by simp)) (by simp)) (HT.out.fp (HF2.out.trans HO7.out.fp (by simp)) (by simp))).mono ?_
  rintro e w8 ⟨v, rfl, -, hf8⟩
  have HO8 := Lib.hid (HO7.out.calm hf8)
  clear hf8 HO7 HTO
  have HWN := Lib.hid (write_arg w8 G 0 0 (w2.heap.size + 1) tm M 5 _ _ _ none 0 0 9 [] HO8.out.wr.eng ⟨rfl, Or.inl rfl, by simp⟩ (by omega) (Or.inl rfl))
  unfold ptrV at HWN
  go_wp2_with (fail)
  refine HWN.out.mono ?_
  rintro e w9 ⟨rfl, hf9⟩
  have HO9 := Lib.hid (HO8.out.calm hf9)
  clear hf9 HWN HO8
  have HAN := Lib.hid (adopt_none w9 G 0 0 (w2.heap.size + 1) tm M 5 _ _ _ none 0 9 HO9.out.wr.eng)
  unfold ptrV at HAN
  go_wp2_with (fail)
  refine HAN.out.mono ?_
  rintro e w9' ⟨rfl, rfl⟩
  clear HAN
  obtain ⟨WA, hWA⟩ : ∃ W, W = w9'.alloc (.cells #[.string ⟨#[114]⟩, .string ⟨#[99]⟩, .int .u64 0, .int .u64 0, .bool false, .string ⟨#[]⟩, .string ⟨#[114]⟩, .string ⟨#[99]⟩, .int .u64 0, .int .u64 0, .bool false, .string ⟨#[118]⟩] 24) := ⟨_, rfl⟩
  have hfA : Fp [] w9' WA := by rw [hWA]; exact Fp.alloc _ _
  have hbA : WA.heap[w9'.heap.size]? = some (.cells #[.string cE0.row, .string cE0.col, .int .u64 cE0.ts, .int .u64 cE0.seq, .bool cE0.del, .string cE0.val, .string cE1.row, .string cE1.col, .int .u64 cE1.ts, .int .u64 cE1.seq, .bool cE1.del, .string cE1.val] 24 (0, 0)) := by rw [hWA]; exact heap_alloc_at rfl _
  have HOA := Lib.hid (HO9.out.calm hfA)
  have HWT := Lib.hid (write_old WA G 0 0 (w2.heap.size + 1) tm M 5 _ _ _ (some ⟨w9'.heap.size, 0, none⟩) 2 2 9 [cE0, cE1] HOA.out.wr.eng (cels_two hbA cE0_ok cE1_ok) (by omega) (by omega) (by omega) (by decide +kernel) (Or.inr ⟨by omega, cE0, cE0_ok, by simp [cE0, cE1]⟩))
  clear hfA hbA HO9
  unfold ptrV at HWT
  go_wp2_with (fail)
  rw [← hWA]
  clear hWA
  refine HWT.out.mono ?_
  rintro e w10 ⟨rfl, hf10⟩
  have HO10 := Lib.hid (HOA.out.calm hf10)
  clear hf10 HWT HOA
  have HCN := Lib.hid (compact_none w10 G 0 0 (w2.heap.size + 1) tm M 5 _ _ lv 0 HO10.out.wr.eng)
  unfold ptrV at HCN
  go_wp2_with (fail)
  refine HCN.out.mono ?_
  rintro e w11 ⟨rfl, rfl⟩
  clear HCN
  have hlv : ((lv == 0) = true ∧ True ∧ (if lv = 0 ∨ lv = 1 then (0 : Int) else 1) = 0) ∨ ((lv == 0) = false ∧ (lv == 1) = true ∧ (if lv = 0 ∨ lv = 1 then (0 : Int) else 1) = 0) ∨ ((lv == 0) = false ∧ (lv == 1) = false ∧ (if lv = 0 ∨ lv = 1 then (0 : Int) else 1) = 1) := by
   by_cases h0 : lv = 0
   ·left; subst h0; simp
   ·by_cases h1 : lv = 1
    ·right; left; subst h1; simp
    ·right; right; exact ⟨by simpa using h0, by simpa using h1, by rw [if_neg (by omega)]⟩
  have hxx : (((x : Int) != 0) = true ∧ x ≠ 0) ∨ (((x : Int) != 0) = false ∧ x = 0) := by
   by_cases h0 : x = 0
   ·right; exact ⟨by simpa using h0, h0⟩
   ·left; exact ⟨by simpa using h0, h0⟩
  rcases hlv with ⟨zl0, zl1, hk⟩ | ⟨zl0, zl1, hk⟩ | ⟨zl0, zl1, hk⟩ <;> rcases hxx with ⟨zx, hx0⟩ | ⟨zx, hx0⟩
  all_goals
   rw [hk]
   have HX0 := Lib.hid hx0
   clear hk hx0
   go_wp2_with (fail)
   first
    |(have HAB := Lib.hid (adopt_bad (w11.alloc (.cells #[.string file] 9)) G 0 0 (w2.heap.size + 1) tm M 5 w11.heap.size seq _ _ _ file (HO10.out.wr.eng.fp (Fp.alloc _ _) (by simp)) (heap_alloc_at rfl _) (by have := HB.out; omega) (HM.out.fp ((HF2.out.trans HO10.out.fp (by simp)).alloc' _) (by simp)) (HT.out.fp ((HF2.out.trans HO10.out.fp (by simp)).alloc' _) (by simp)) (by rw [HX.out]; exact HX0.out))
      rw [HX.out, HAD.out] at HAB
      unfold ptrV at HAB
      refine HAB.out.mono ?_
      rintro e w12 ⟨rfl, hf12⟩
      have HOC := Lib.hid (HO10.out.calm ((Fp.alloc _ _).trans hf12 (by simp)))
      clear hf12 HAB HO10
      have HPN := Lib.hid (pending_any _ G 0 0 (w2.heap.size + 1) tm M 5 _ _ _ _ _ _ _ HOC.out.wr.eng HOC.out.mem)
      unfold ptrV at HPN
      go_wp2_with (fail))
    |(have HOC := HO10
      clear HO10
      have HPN := Lib.hid (pending_any _ G 0 0 (w2.heap.size + 1) tm M 5 _ _ _ _ _ _ _ HOC.out.wr.eng HOC.out.mem)
      unfold ptrV at HPN)
   refine HPN.out.mono ?_
   rintro e w13 ⟨rfl, rfl⟩
   have HLS := Lib.hid (last_any w13 G 0 0 (w2.heap.size + 1) tm M 5 _ _ _ _ HOC.out.wr.eng)
   unfold ptrV at HLS
   go_wp2_with (fail)
   refine HLS.out.mono ?_
   rintro e w14 ⟨rfl, rfl⟩
   clear HLS HPN
   obtain ⟨y0, y1, y2, y3, y4, y5⟩ := HXB.out w14 (HF2.out.trans HOC.out.fp (by simp))
   obtain ⟨WD, hWD⟩ : ∃ W, W = w14.alloc (.cells #[.string c.row, .string c.col, .int .u64 c.ts, .int .u64 c.seq, .bool c.del, .string c.val] 24) := ⟨_, rfl⟩
   have hfD : Fp [] w14 WD := by rw [hWD]; exact Fp.alloc _ _
   have hbD : WD.heap[w14.heap.size]? = some (.cells #[.string c.row, .string c.col, .int .u64 c.ts, .int .u64 c.seq, .bool c.del, .string c.val] 24 (0, 0)) := by rw [hWD]; exact heap_alloc_at rfl _
   have HLW := Lib.hid (last_write w2 WD G (w2.heap.size + 1) w2.heap.size tm M L1 L2 q 5 seq _ c n d (some ⟨w14.heap.size, 0, none⟩) 1 (HOC.out.calm hfD) HDK.out HTK.out (cels_one hbD hc) hsq ⟨HB.out.1, HB.out.2.1, HB.out.2.2.1⟩)
   rw [HWANT.out] at HLW
   unfold ptrV at HLW
   clear hfD hbD HOC
   go_wp2_with (fail)
   rw [← hWD]
   clear hWD
   refine HLW.out.mono ?_
   rintro e w15 ⟨rfl, hf15⟩
   have HF15 := Lib.hid ((HF.out.trans HF2.out (by simp)).trans hf15 (by simp))
   clear hf15 HLW
   go_wp2_with (fail)
   go_ret
   exact ⟨rfl, HF15.out⟩
end Go.Proofs.YtkjmgbifoaoefaaGreatDoor
