/-
  table.Stamp; TableStamps: the walk.
-/
import Derived.Test.YtjnapcfclejknaaDoorTabApart
namespace Go.Proofs.YtjnapcfclejknaaDoor
open Go.RowKit

def headL (l : List Cel) : List UInt8 := blkL l (manyP l) ++ (recL (idxB l (manyP l)) ++ recL (bloomP (rowsP l)))
theorem fileL_head (l : List Cel) (seq : Nat) : fileL l seq = headL l ++ recL (footOf l seq).text := by unfold fileL headL; simp only [List.append_assoc]
theorem file_len {l : List Cel} (seq : Nat) (h : l.length ≤ 2000) : (fileB l seq).size = (headL l).length + 26 := by
  rw [file_bl seq h, bl_size, fileL_head, List.length_append, recL_length, foot_size]
theorem file_cut {l : List Cel} (seq : Nat) (h : l.length ≤ 2000) : (fileB l seq).extract 0 (headL l).length = bl (headL l) := by
  rw [file_bl seq h, fileL_head]
  exact bl_pre _ _ _ rfl
theorem file_foot {l : List Cel} (seq : Nat) (h : l.length ≤ 2000) : bl (headL l) ++ recP (footOf l seq).text = fileB l seq := by
  rw [file_bl seq h, fileL_head, recP_ok (by rw [foot_size]; omega), recB_bl, bl_append]

theorem open_none : openP ⟨#[]⟩ = (none, 20) := by
  unfold openP
  rw [if_pos (Or.inr (by show 0 < 26; omega))]

set_option maxRecDepth 100000 in
set_option maxHeartbeats 4000000 in
theorem stamp_none (w : World) (b : Nat) (hm : MaxAt w) (ht : TabAt w) :
    Calls Tryd.prog 17 #[.string ⟨#[]⟩, .int .u64 b] w fun e w' => e = .returned (.tuple #[.string ⟨#[]⟩, .int .i64 20]) ∧ Fp [] w w' := by
  have HOP : Hid (Calls Tryd.prog 11 #[.string ⟨#[]⟩] w fun e w' => ∃ v, e = .returned (.tuple #[v, .int .i64 20]) ∧ v = .pointer none ∧ Fp [] w w') := by
    have h := topen_any w ⟨#[]⟩ (by show 0 ≤ _; omega) hm ht
    rw [open_none] at h
    exact h
  clear hm ht
  go_enter Tryd.func17, Tryd.ntmps17
  go_wp2_with (fail)
  (with_reducible refine HOP.out.mono ?_)
  rintro e w1 ⟨v, rfl, rfl, hf1⟩
  have HF := Lib.hid hf1
  clear hf1
  go_wp2_with (fail)
  go_ret2
  exact ⟨rfl, HF.out⟩

set_option maxRecDepth 100000 in
set_option maxHeartbeats 8000000 in
theorem stamp_good {l : List Cel} {a b : Nat} (w : World) (hok : ∀ c ∈ l, CelOK c) (h : GoodT l) (ha : a < 18446744073709551616) (hb : b < 18446744073709551616) (hm : MaxAt w) (ht : TabAt w) :
    Calls Tryd.prog 17 #[.string (fileB l a), .int .u64 b] w fun e w' => e = .returned (.tuple #[.string (fileB l b), .int .i64 0]) ∧ Fp [] w w' := by
  have HOP := Lib.hid (open_any (l := l) (seq := a) w hok h ha hm ht)
  have HT := Lib.hid ht
  have hl := h.len
  have hsz := file_len a hl
  have hcut := file_cut a hl
  have hi := idx_small hl
  have hbm := bloom_small hl
  have hbl := blk_len h
  have HFT := Lib.hid (fun w => foottext_any (footOf l b) w (by rw [foot_of b hl]; show (blkL l (manyP l)).length ≤ _; omega) (by rw [foot_of b hl]; show 6 + (idxB l (manyP l)).size ≤ _; omega) (by rw [foot_of b hl]; show 6 + (bloomP (rowsP l)).size ≤ _; omega) (by exact hb))
  have HPU := Lib.hid (fun w ht => tput_any (footOf l b).text w (by rw [foot_size]; omega) ht)
  have hff := file_foot b hl
  have hfv : ∃ f1 f2 f3 : Nat, footV (footOf l b) = .agg #[.int .i64 f1, .int .i64 f2, .int .i64 f3, .int .u64 b] ∧ (openedP l a).f = ⟨f1, f2, f3, a⟩ := ⟨_, _, _, rfl, rfl⟩
  obtain ⟨f1, f2, f3, hv, hop⟩ := hfv
  obtain ⟨fil, hfil⟩ : ∃ f, (openedP l a).fil = f := ⟨_, rfl⟩
  rw [hv] at HFT
  obtain ⟨ft, hft⟩ : ∃ f, (footOf l b).text = f := ⟨_, rfl⟩
  rw [hft] at HFT HPU hff
  obtain ⟨rp, hrp⟩ : ∃ r, recP ft = r := ⟨_, rfl⟩
  rw [hrp] at HPU hff
  have hrs : rp.size ≤ 10000000 := by rw [← hrp, ← hft]; have := recP_size (footOf l b).text; rw [foot_size] at this; omega
  obtain ⟨n, hn⟩ : ∃ n, (headL l).length = n := ⟨_, rfl⟩
  obtain ⟨hd, hhd⟩ : ∃ x, bl (headL l) = x := ⟨_, rfl⟩
  have hds : hd.size = n := by rw [← hhd, bl_size, hn]
  rw [hn] at hsz hcut
  rw [hhd] at hff hcut
  obtain ⟨fb, hfb⟩ : ∃ f, fileB l b = f := ⟨_, rfl⟩
  rw [hfb] at hff ⊢
  have hfs := file_size a h
  obtain ⟨fa, hfa⟩ : ∃ f, fileB l a = f := ⟨_, rfl⟩
  rw [hfa] at HOP hsz hcut hfs ⊢
  have HFF := Lib.hid hff
  have HCUT := Lib.hid hcut
  have n1 : IntKind.i64.wrap ((fa.size : Int) - 26) = (n : Int) := by rw [IntKind.wrap_i64]; omega
  have z1 : (n : Int) ≤ (fa.size : Int) := by omega
  have HS := Lib.hid hsz
  have HFS := Lib.hid hfs
  have HDS := Lib.hid hds
  have HOPF := Lib.hid hop
  clear hv hft hrp hn hhd hfb hfa hff hcut hsz hfs hds hi hbm hbl hm ht hok h hl hop
  go_enter Tryd.func17, Tryd.ntmps17
  go_wp2_with (fail)
  (with_reducible refine HOP.out.mono ?_)
  rintro e w1 ⟨⟨bt, rfl, hfa⟩, hf1⟩
  have HF1 := Lib.hid hf1
  obtain ⟨pv, b1, o1, h1, -, -⟩ := hfa.ex
  rw [HOPF.out, hfil] at h1
  have q0 := cell_of_block h1 0
  have q1 := cell_of_block h1 1
  have q2 := cell_of_block h1 2
  have q3 := cell_of_block h1 3
  simp only [List.getElem?_toArray, List.getElem?_cons_succ, List.getElem?_cons_zero] at q0 q1 q2 q3
  clear hf1 hfa h1
  have HC0 : Hid ((w1.alloc (.cells #[.int .i64 f1, .int .i64 f2, .int .i64 f3, .int .u64 b] 50)).heap[w1.heap.size]? = some (.cells #[.int .i64 f1, .int .i64 f2, .int .i64 f3, .int .u64 b] 50 (0, 0))) := heap_alloc_at rfl _
  have hes : (fa.extract 0 n).size = n := by rw [HCUT.out]; exact HDS.out
  have hn8 : n ≤ 100000000 := by have := HFS.out; have := HS.out; omega
  go_wp2_with (fail)
  refine wp_region_calm (by kernel_rfl) (by kernel_rfl) ?_
  -- 0
  apply ex_plain rfl rfl rfl
  · intro a w hC hA K hK
    have h0 := hA.free 0 _ (by kernel_rfl) rfl
    simp only [Oper.wp, execOp]; go_simp
    exact hK _ hC (Fp.refl _ _)
  -- 1
  apply ex_plain rfl rfl rfl
  · intro a w hC hA K hK
    have h0 := hA.free 0 _ (by kernel_rfl) rfl
    simp only [Oper.wp, execOp]; go_simp
    exact hK _ hC (Fp.refl _ _)
  -- 2
  apply ex_plain rfl rfl rfl
  · intro a w hC hA K hK
    have h24 : a.tmps[24]?.getD undef = _ := hA.dep 1 24 _ (by kernel_rfl) rfl
    simp only [Oper.wp, execOp]; go_simp
    exact hK _ hC (Fp.refl _ _)
  -- 3
  apply ex_plain rfl rfl rfl
  · intro a w hC hA K hK
    have h25 : a.tmps[25]?.getD undef = _ := hA.dep 2 25 _ (by kernel_rfl) rfl
    simp only [Oper.wp, execOp]; go_simp
    exact hK _ hC (Fp.refl _ _)
  -- 4
  apply ex_plain rfl rfl rfl
  · intro a w hC hA K hK
    have h23 : a.tmps[23]?.getD undef = _ := hA.dep 0 23 _ (by kernel_rfl) rfl
    have h26 : a.tmps[26]?.getD undef = _ := hA.dep 3 26 _ (by kernel_rfl) rfl
    simp only [Oper.wp, execOp]; go_simp
    exact hK _ hC (Fp.refl _ _)
  -- 5
  apply ex_plain rfl rfl rfl
  · intro a w hC hA K hK
    have h8 := hA.free 8 _ (by kernel_rfl) rfl
    have hb := (hC.block _ (by simp) (by simp)).trans HC0.out
    have q0 := cell_of_block hb 0
    have q1 := cell_of_block hb 1
    have q2 := cell_of_block hb 2
    have q3 := cell_of_block hb 3
    simp only [List.getElem?_toArray, List.getElem?_cons_succ, List.getElem?_cons_zero] at q0 q1 q2 q3
    simp only [Oper.wp, execOp]; go_simp
    exact hK _ hC (Fp.refl _ _)
  -- 6
  apply ex_plain rfl rfl rfl
  · intro a w hC hA K hK
    have h28 : a.tmps[28]?.getD undef = _ := hA.dep 5 28 _ (by kernel_rfl) rfl
    simp only [Oper.wp, execOp]; go_simp
    first
      | ((with_reducible refine (HFT.out _).mono ?_); rintro e w2 ⟨rfl, hf⟩; exact hK _ (hC.trans hf (by simp)) hf)
      | ((with_reducible refine (HPU.out _ (HT.out.fp ((HF1.out.alloc' _).trans hC (by simp)) (by simp))).mono ?_); rintro e w2 ⟨rfl, hf⟩; exact hK _ (hC.trans hf (by simp)) hf)
  -- 7
  apply ex_plain rfl rfl rfl
  · intro a w hC hA K hK
    have h29 : a.tmps[29]?.getD undef = _ := hA.dep 6 29 _ (by kernel_rfl) rfl
    simp only [Oper.wp, execOp]; go_simp
    first
      | ((with_reducible refine (HFT.out _).mono ?_); rintro e w2 ⟨rfl, hf⟩; exact hK _ (hC.trans hf (by simp)) hf)
      | ((with_reducible refine (HPU.out _ (HT.out.fp ((HF1.out.alloc' _).trans hC (by simp)) (by simp))).mono ?_); rintro e w2 ⟨rfl, hf⟩; exact hK _ (hC.trans hf (by simp)) hf)
  -- 8
  apply ex_plain rfl rfl rfl
  · intro a w hC hA K hK
    have h27 : a.tmps[27]?.getD undef = _ := hA.dep 4 27 _ (by kernel_rfl) rfl
    have h30 : a.tmps[30]?.getD undef = _ := hA.dep 7 30 _ (by kernel_rfl) rfl
    simp only [Oper.wp, execOp]; go_simp
    rw [if_neg (by omega)]
    exact hK _ hC (Fp.refl _ _)
  -- 9
  apply ex_plain rfl rfl rfl
  · intro a w hC hA K hK
    have h31 : a.tmps[31]?.getD undef = _ := hA.dep 8 31 _ (by kernel_rfl) rfl
    simp only [Oper.wp, execOp]; go_simp
    exact hK _ hC (Fp.refl _ _)
  -- 10
  apply ex_plain rfl rfl rfl
  · intro a w hC hA K hK
    simp only [Oper.wp, execOp]; go_simp
    exact hK _ hC (Fp.refl _ _)
  refine ⟨?_, ?_⟩
  · repeat (first | exact trivial | refine stab_val _ ?_ | refine ⟨fun w1 w2 v _ hf ⟨g, h1, h2⟩ => ⟨g, h1, (hf.block g (heap_lt h2) (by simp)).trans h2⟩, ?_⟩)
  · intro w' hC
    simp only [List.reverse_cons, List.reverse_nil, List.nil_append, List.cons_append]
    iterate 11 (refine all_val ?_)
    refine all_nil ?_
    simp only [putAll, Act.put, List.setIfInBounds_toArray, List.set_cons_succ, List.set_cons_zero]
    have HF := Lib.hid ((HF1.out.alloc' _).trans hC (by simp))
    clear hC
    go_wp2_with (fail)
    go_ret2
    exact ⟨by rw [HCUT.out, HFF.out]; rfl, HF.out⟩

set_option maxRecDepth 100000 in
set_option maxHeartbeats 8000000 in
theorem tstamps_walk (w : World) (a : Option Addr) (la ca : Nat) (l : List Cel) (x y : Int) (hl : CelsAt w a la l) (hn : la ≤ maxLen ∧ la ≤ ca ∧ ca ≤ maxLen) (hx0 : 0 ≤ x) (hx1 : x ≤ 18446744073709551615) (hy0 : 0 ≤ y) (hy1 : y ≤ 18446744073709551615) (hm : MaxAt w) (ht : TabAt w) :
    Calls Tryd.prog 7 #[.slice a la ca, .int .u64 x, .int .u64 y] w fun e w' => e = .returned (.bool true) ∧ Fp [] w w' := by
  obtain ⟨x, rfl⟩ := Int.eq_ofNat_of_zero_le hx0
  obtain ⟨y, rfl⟩ := Int.eq_ofNat_of_zero_le hy0
  obtain ⟨hn, hcap, hcm⟩ := hn
  have hm1 : la ≤ 9223372036854775807 := by unfold maxLen at hn; omega
  have HM := Lib.hid hm
  have HT := Lib.hid ht
  have HL := Lib.hid hl
  have HLN := Lib.hid hl.len
  have hqx : x < 18446744073709551616 := by omega
  have hqy : y < 18446744073709551616 := by omega
  have HSW := Lib.hid (fun w hm ht => shown5_any w hm ht)
  have HBO := Lib.hid (bounded5_any w a la ca l hl hm1)
  clear hl hm ht hx0 hx1 hy0 hy1
  go_enter Tryd.func7, Tryd.ntmps7
  go_wp2_with (fail)
  (with_reducible refine HBO.out.mono ?_)
  rintro e w1 ⟨⟨b1, rfl, hb⟩, hf1⟩
  have HF1 := Lib.hid hf1
  clear hf1
  cases b1
  · clear hb
    go_wp2_with (fail)
    (with_reducible refine (HSW.out _ (HM.out.fp HF1.out (by simp)) (HT.out.fp HF1.out (by simp))).mono ?_)
    rintro e w2 ⟨rfl, hf2⟩
    have HF2 := Lib.hid (HF1.out.trans hf2 (by simp))
    clear hf2
    go_wp2_with (fail)
    go_ret
    exact ⟨rfl, HF2.out⟩
  have ha60 : la ≤ 60 := by rw [HLN.out]; exact hb rfl
  clear hb
  go_wp2_with (fail)
  (with_reducible refine (HSW.out _ (HM.out.fp HF1.out (by simp)) (HT.out.fp HF1.out (by simp))).mono ?_)
  rintro e w2 ⟨rfl, hf2⟩
  have HF2 := Lib.hid (HF1.out.trans hf2 (by simp))
  clear hf2
  rcases tbuild_two w2 a la ca l x (HL.out.fp HF2.out) hcap ha60 hqx (HM.out.fp HF2.out (by simp)) (HT.out.fp HF2.out (by simp)) with ⟨hg1, hc1⟩ | ⟨e1, z1, z1', hc1⟩
  · have HC1 := Lib.hid hc1
    have HST : Hid (∀ w', Fp [] w w' → Calls Tryd.prog 17 #[.string (fileB l x), .int .u64 y] w' fun e w2 => e = .returned (.tuple #[.string (fileB l y), .int .i64 0]) ∧ Fp [] w' w2) := fun w' hf => stamp_good w' HL.out.ok hg1 hqx hqy (HM.out.fp hf (by simp)) (HT.out.fp hf (by simp))
    have HC2 : Hid (∀ w', Fp [] w w' → Calls Tryd.prog 10 #[.slice a la ca, .int .u64 y] w' fun e w2 => e = .returned (.tuple #[.string (fileB l y), .int .i64 0]) ∧ Fp [] w' w2) := fun w' hf => tbuild_good w' a la ca (HL.out.fp hf) hcap hg1 hqy (HM.out.fp hf (by simp)) (HT.out.fp hf (by simp))
    have s1 := file_len x hg1.len
    have s2 := file_len y hg1.len
    have c1 := file_cut x hg1.len
    have c2 := file_cut y hg1.len
    have f1 := file_size x hg1
    have f2 := file_size y hg1
    obtain ⟨n, hn⟩ : ∃ n, (headL l).length = n := ⟨_, rfl⟩
    rw [hn] at s1 s2 c1 c2
    obtain ⟨hd, hhd⟩ : ∃ h, bl (headL l) = h := ⟨_, rfl⟩
    rw [hhd] at c1 c2
    obtain ⟨fa, hfa⟩ : ∃ f, fileB l x = f := ⟨_, rfl⟩
    rw [hfa] at HC1 HST s1 c1 f1
    obtain ⟨fb, hfb⟩ : ∃ f, fileB l y = f := ⟨_, rfl⟩
    rw [hfb] at HC2 HST s2 c2 f2
    have hfab : fa.size = fb.size := by omega
    have n1 : IntKind.i64.wrap ((fb.size : Int) - 26) = (n : Int) := by rw [IntKind.wrap_i64]; omega
    have z1 : (n : Int) ≤ (fb.size : Int) := by omega
    clear hc1 hg1 hn hhd hfa hfb s1 s2 f1 f2
    go_wp2_with (fail)
    (with_reducible refine HC1.out.mono ?_)
    rintro e w3 ⟨rfl, hf3⟩
    have HF3 := Lib.hid (HF2.out.trans hf3 (by simp))
    clear hf3 HC1
    go_wp2_with (fail)
    (with_reducible refine (HST.out _ HF3.out).mono ?_)
    rintro e w4 ⟨rfl, hf4⟩
    have HF4 := Lib.hid (HF3.out.trans hf4 (by simp))
    clear hf4
    go_wp2_with (fail)
    (with_reducible refine (HC2.out _ HF4.out).mono ?_)
    rintro e w5 ⟨rfl, hf5⟩
    have HF5 := Lib.hid (HF4.out.trans hf5 (by simp))
    clear hf5
    go_wp2_with (fail)
    refine wp_region_calm (by kernel_rfl) (by kernel_rfl) ?_
    -- 0
    apply ex_plain rfl rfl rfl
    · intro a w hC hA K hK
      have h12 := hA.free 12 _ (by kernel_rfl) rfl
      simp only [Oper.wp, execOp]; go_simp
      exact hK _ hC (Fp.refl _ _)
    -- 1
    apply ex_plain rfl rfl rfl
    · intro a w hC hA K hK
      have h51 : a.tmps[51]?.getD undef = _ := hA.dep 0 51 _ (by kernel_rfl) rfl
      simp only [Oper.wp, execOp]; go_simp
      exact hK _ hC (Fp.refl _ _)
    -- 2
    apply ex_plain rfl rfl rfl
    · intro a w hC hA K hK
      have h52 : a.tmps[52]?.getD undef = _ := hA.dep 1 52 _ (by kernel_rfl) rfl
      simp only [Oper.wp, execOp]; go_simp
      exact hK _ hC (Fp.refl _ _)
    -- 3
    apply ex_yes 2 53 rfl rfl rfl rfl (by kernel_rfl) rfl rfl
    · intro a w hC hA K hK
      have h14 := hA.free 14 _ (by kernel_rfl) rfl
      simp only [Oper.wp, execOp]; go_simp
      exact hK _ hC (Fp.refl _ _)
    -- 4
    apply ex_yes 2 53 rfl rfl rfl rfl (by kernel_rfl) rfl rfl
    · intro a w hC hA K hK
      have h54 : a.tmps[54]?.getD undef = _ := hA.dep 3 54 _ (by kernel_rfl) rfl
      simp only [Oper.wp, execOp]; go_simp
      exact hK _ hC (Fp.refl _ _)
    -- 5
    apply ex_plain rfl rfl rfl
    · intro a w hC hA K hK
      have h53 : a.tmps[53]?.getD undef = _ := hA.dep 2 53 _ (by kernel_rfl) rfl
      have h55 : a.tmps[55]?.getD undef = _ := hA.dep 4 55 _ (by kernel_rfl) rfl
      simp only [Oper.wp, execOp]; go_simp
      exact hK _ hC (Fp.refl _ _)
    -- 6
    apply ex_plain rfl rfl rfl
    · intro a w hC hA K hK
      have h56 : a.tmps[56]?.getD undef = _ := hA.dep 5 56 _ (by kernel_rfl) rfl
      simp only [Oper.wp, execOp]; go_simp
      exact hK _ hC (Fp.refl _ _)
    -- 7
    apply ex_yes 6 57 rfl rfl rfl rfl (by kernel_rfl) rfl rfl
    · intro a w hC hA K hK
      have h11 := hA.free 11 _ (by kernel_rfl) rfl
      simp only [Oper.wp, execOp]; go_simp
      exact hK _ hC (Fp.refl _ _)
    -- 8
    apply ex_yes 6 57 rfl rfl rfl rfl (by kernel_rfl) rfl rfl
    · intro a w hC hA K hK
      have h13 := hA.free 13 _ (by kernel_rfl) rfl
      simp only [Oper.wp, execOp]; go_simp
      exact hK _ hC (Fp.refl _ _)
    -- 9
    apply ex_yes 6 57 rfl rfl rfl rfl (by kernel_rfl) rfl rfl
    · intro a w hC hA K hK
      have h58 : a.tmps[58]?.getD undef = _ := hA.dep 7 58 _ (by kernel_rfl) rfl
      have h59 : a.tmps[59]?.getD undef = _ := hA.dep 8 59 _ (by kernel_rfl) rfl
      simp only [Oper.wp, execOp]; go_simp
      exact hK _ hC (Fp.refl _ _)
    -- 10
    apply ex_plain rfl rfl rfl
    · intro a w hC hA K hK
      have h57 : a.tmps[57]?.getD undef = _ := hA.dep 6 57 _ (by kernel_rfl) rfl
      have h60 : a.tmps[60]?.getD undef = _ := hA.dep 9 60 _ (by kernel_rfl) rfl
      simp only [Oper.wp, execOp]; go_simp
      exact hK _ hC (Fp.refl _ _)
    -- 11
    apply ex_plain rfl rfl rfl
    · intro a w hC hA K hK
      have h61 : a.tmps[61]?.getD undef = _ := hA.dep 10 61 _ (by kernel_rfl) rfl
      simp only [Oper.wp, execOp]; go_simp
      exact hK _ hC (Fp.refl _ _)
    -- 12
    apply ex_yes 11 62 rfl rfl rfl rfl (by kernel_rfl) rfl rfl
    · intro a w hC hA K hK
      have h11 := hA.free 11 _ (by kernel_rfl) rfl
      simp only [Oper.wp, execOp]; go_simp
      exact hK _ hC (Fp.refl _ _)
    -- 13
    apply ex_yes 11 62 rfl rfl rfl rfl (by kernel_rfl) rfl rfl
    · intro a w hC hA K hK
      have h63 : a.tmps[63]?.getD undef = _ := hA.dep 12 63 _ (by kernel_rfl) rfl
      simp only [Oper.wp, execOp]; go_simp
      exact hK _ hC (Fp.refl _ _)
    -- 14
    apply ex_yes 11 62 rfl rfl rfl rfl (by kernel_rfl) rfl rfl
    · intro a w hC hA K hK
      have h7 := hA.free 7 _ (by kernel_rfl) rfl
      simp only [Oper.wp, execOp]; go_simp
      exact hK _ hC (Fp.refl _ _)
    -- 15
    apply ex_yes 11 62 rfl rfl rfl rfl (by kernel_rfl) rfl rfl
    · intro a w hC hA K hK
      have h65 : a.tmps[65]?.getD undef = _ := hA.dep 14 65 _ (by kernel_rfl) rfl
      simp only [Oper.wp, execOp]; go_simp
      exact hK _ hC (Fp.refl _ _)
    -- 16
    apply ex_yes 11 62 rfl rfl rfl rfl (by kernel_rfl) rfl rfl
    · intro a w hC hA K hK
      have h64 : a.tmps[64]?.getD undef = _ := hA.dep 13 64 _ (by kernel_rfl) rfl
      have h66 : a.tmps[66]?.getD undef = _ := hA.dep 15 66 _ (by kernel_rfl) rfl
      simp only [Oper.wp, execOp]; go_simp
      exact hK _ hC (Fp.refl _ _)
    -- 17
    apply ex_plain rfl rfl rfl
    · intro a w hC hA K hK
      have h62 : a.tmps[62]?.getD undef = _ := hA.dep 11 62 _ (by kernel_rfl) rfl
      have h67 : a.tmps[67]?.getD undef = _ := hA.dep 16 67 _ (by kernel_rfl) rfl
      simp only [Oper.wp, execOp]; go_simp
      exact hK _ hC (Fp.refl _ _)
    -- 18
    apply ex_plain rfl rfl rfl
    · intro a w hC hA K hK
      have h68 : a.tmps[68]?.getD undef = _ := hA.dep 17 68 _ (by kernel_rfl) rfl
      simp only [Oper.wp, execOp]; go_simp
      exact hK _ hC (Fp.refl _ _)
    -- 19
    apply ex_yes 18 69 rfl rfl rfl rfl (by kernel_rfl) rfl rfl
    · intro a w hC hA K hK
      have h11 := hA.free 11 _ (by kernel_rfl) rfl
      simp only [Oper.wp, execOp]; go_simp
      exact hK _ hC (Fp.refl _ _)
    -- 20
    apply ex_yes 18 69 rfl rfl rfl rfl (by kernel_rfl) rfl rfl
    · intro a w hC hA K hK
      have h11 := hA.free 11 _ (by kernel_rfl) rfl
      simp only [Oper.wp, execOp]; go_simp
      exact hK _ hC (Fp.refl _ _)
    -- 21
    apply ex_yes 18 69 rfl rfl rfl rfl (by kernel_rfl) rfl rfl
    · intro a w hC hA K hK
      have h71 : a.tmps[71]?.getD undef = _ := hA.dep 20 71 _ (by kernel_rfl) rfl
      simp only [Oper.wp, execOp]; go_simp
      exact hK _ hC (Fp.refl _ _)
    -- 22
    apply ex_yes 18 69 rfl rfl rfl rfl (by kernel_rfl) rfl rfl
    · intro a w hC hA K hK
      have h72 : a.tmps[72]?.getD undef = _ := hA.dep 21 72 _ (by kernel_rfl) rfl
      simp only [Oper.wp, execOp]; go_simp
      exact hK _ hC (Fp.refl _ _)
    -- 23
    apply ex_yes 18 69 rfl rfl rfl rfl (by kernel_rfl) rfl rfl
    · intro a w hC hA K hK
      have h70 : a.tmps[70]?.getD undef = _ := hA.dep 19 70 _ (by kernel_rfl) rfl
      have h73 : a.tmps[73]?.getD undef = _ := hA.dep 22 73 _ (by kernel_rfl) rfl
      simp only [Oper.wp, execOp]; go_simp
      exact hK _ hC (Fp.refl _ _)
    -- 24
    apply ex_yes 18 69 rfl rfl rfl rfl (by kernel_rfl) rfl rfl
    · intro a w hC hA K hK
      have h7 := hA.free 7 _ (by kernel_rfl) rfl
      simp only [Oper.wp, execOp]; go_simp
      exact hK _ hC (Fp.refl _ _)
    -- 25
    apply ex_yes 18 69 rfl rfl rfl rfl (by kernel_rfl) rfl rfl
    · intro a w hC hA K hK
      have h7 := hA.free 7 _ (by kernel_rfl) rfl
      simp only [Oper.wp, execOp]; go_simp
      exact hK _ hC (Fp.refl _ _)
    -- 26
    apply ex_yes 18 69 rfl rfl rfl rfl (by kernel_rfl) rfl rfl
    · intro a w hC hA K hK
      have h76 : a.tmps[76]?.getD undef = _ := hA.dep 25 76 _ (by kernel_rfl) rfl
      simp only [Oper.wp, execOp]; go_simp
      exact hK _ hC (Fp.refl _ _)
    -- 27
    apply ex_yes 18 69 rfl rfl rfl rfl (by kernel_rfl) rfl rfl
    · intro a w hC hA K hK
      have h77 : a.tmps[77]?.getD undef = _ := hA.dep 26 77 _ (by kernel_rfl) rfl
      simp only [Oper.wp, execOp]; go_simp
      exact hK _ hC (Fp.refl _ _)
    -- 28
    apply ex_yes 18 69 rfl rfl rfl rfl (by kernel_rfl) rfl rfl
    · intro a w hC hA K hK
      have h75 : a.tmps[75]?.getD undef = _ := hA.dep 24 75 _ (by kernel_rfl) rfl
      have h78 : a.tmps[78]?.getD undef = _ := hA.dep 27 78 _ (by kernel_rfl) rfl
      simp only [Oper.wp, execOp]; go_simp
      exact hK _ hC (Fp.refl _ _)
    -- 29
    apply ex_yes 18 69 rfl rfl rfl rfl (by kernel_rfl) rfl rfl
    · intro a w hC hA K hK
      have h74 : a.tmps[74]?.getD undef = _ := hA.dep 23 74 _ (by kernel_rfl) rfl
      have h79 : a.tmps[79]?.getD undef = _ := hA.dep 28 79 _ (by kernel_rfl) rfl
      simp only [Oper.wp, execOp]; go_simp
      exact hK _ hC (Fp.refl _ _)
    -- 30
    apply ex_plain rfl rfl rfl
    · intro a w hC hA K hK
      have h69 : a.tmps[69]?.getD undef = _ := hA.dep 18 69 _ (by kernel_rfl) rfl
      have h80 : a.tmps[80]?.getD undef = _ := hA.dep 29 80 _ (by kernel_rfl) rfl
      simp only [Oper.wp, execOp]; go_simp
      exact hK _ hC (Fp.refl _ _)
    -- 31
    apply ex_plain rfl rfl rfl
    · intro a w hC hA K hK
      have h81 : a.tmps[81]?.getD undef = _ := hA.dep 30 81 _ (by kernel_rfl) rfl
      simp only [Oper.wp, execOp]; go_simp
      exact hK _ hC (Fp.refl _ _)
    refine ⟨?_, ?_⟩
    · repeat (first | exact trivial | refine stab_val _ ?_ | refine ⟨fun w1 w2 v _ hf ⟨g, h1, h2⟩ => ⟨g, h1, (hf.block g (heap_lt h2) (by simp)).trans h2⟩, ?_⟩)
    · intro w' hC
      simp only [List.reverse_cons, List.reverse_nil, List.nil_append, List.cons_append]
      iterate 32 (refine all_val ?_)
      refine all_nil ?_
      simp only [putAll, Act.put, List.setIfInBounds_toArray, List.set_cons_succ, List.set_cons_zero]
      have HF6 := Lib.hid (HF5.out.trans hC (by simp))
      clear hC
      go_wp2_with (fail)
      go_ret
      exact ⟨rfl, HF6.out⟩
  · have HC1 := Lib.hid hc1
    have HST : Hid (∀ w', Fp [] w w' → Calls Tryd.prog 17 #[.string ⟨#[]⟩, .int .u64 y] w' fun e w2 => e = .returned (.tuple #[.string ⟨#[]⟩, .int .i64 20]) ∧ Fp [] w' w2) := fun w' hf => stamp_none w' y (HM.out.fp hf (by simp)) (HT.out.fp hf (by simp))
    clear hc1
    go_wp2_with (fail)
    (with_reducible refine HC1.out.mono ?_)
    rintro e w3 ⟨rfl, hf3⟩
    have HF3 := Lib.hid (HF2.out.trans hf3 (by simp))
    clear hf3 HC1
    go_wp2_with (fail)
    (with_reducible refine (HST.out _ HF3.out).mono ?_)
    rintro e w4 ⟨rfl, hf4⟩
    have HF4 := Lib.hid (HF3.out.trans hf4 (by simp))
    clear hf4
    go_wp2_with (fail)
    go_ret
    exact ⟨rfl, HF4.out⟩
end Go.Proofs.YtjnapcfclejknaaDoor
