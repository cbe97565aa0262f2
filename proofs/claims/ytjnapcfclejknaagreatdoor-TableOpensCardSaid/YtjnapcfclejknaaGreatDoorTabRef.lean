/-
  The reference of layer 2: Four, Put, Get, All: what they compute is the program's. The reference of layer 3: Bits, bit, May, Make: what they compute is the program's. The reference of layer 3: Make: what it computes is the program's filter. The reference of layer 5: Parts, put, Build: what they compute is the program's. The reference of layer 5: Seen, Row, Looks; an opened file's Range. The law's own helper: same.
-/
import Derived.Test.YtjnapcfclejknaaGreatDoorTabD
import Derived.Test.YtjnapcfclejknaaGreatDoorStrsOwn
import Derived.Laws.DeepStrings4
import Derived.Test.YtjnapcfclejknaaGreatDoorTabG
import Derived.Test.YtjnapcfclejknaaGreatDoorTabR
import Derived.Test.YtjnapcfclejknaaGreatDoorTabRRows
import Derived.Test.YtjnapcfclejknaaGreatDoorTabPure
namespace Go.Proofs.YtjnapcfclejknaaGreatDoor
section
open Go.RowKit Go.Lib

set_option maxRecDepth 100000 in
theorem rfour_any (n : Nat) (w : World) (hn : n < 4294967296) : Calls Tryz.prog 33 #[.int .u32 n] w fun e w' => e = .returned (.string (bl (quad n))) ∧ Fp [] w w' := by
  have HT : Hid (quad n = [UInt8.ofNat (n % 256), UInt8.ofNat (n / 256 % 256), UInt8.ofNat (n / 65536 % 256), UInt8.ofNat (n / 16777216)]) := by
    have ofm : ∀ m : Nat, UInt8.ofNat (m % 256) = UInt8.ofNat m := fun m => by
      apply UInt8.toNat_inj.1
      rw [UInt8.toNat_ofNat', UInt8.toNat_ofNat']
      omega
    unfold Hid quad
    rw [ofm, ofm, ofm]
  obtain ⟨p0, hp0⟩ : ∃ p, n % 256 = p := ⟨_, rfl⟩
  obtain ⟨d1, hd1⟩ : ∃ p, n / 256 = p := ⟨_, rfl⟩
  obtain ⟨d2, hd2⟩ : ∃ p, n / 65536 = p := ⟨_, rfl⟩
  obtain ⟨p3, hp3⟩ : ∃ p, n / 16777216 = p := ⟨_, rfl⟩
  obtain ⟨p1, hp1⟩ : ∃ p, d1 % 256 = p := ⟨_, rfl⟩
  obtain ⟨p2, hp2⟩ : ∃ p, d2 % 256 = p := ⟨_, rfl⟩
  have e0 : (n : Int) % 256 = (p0 : Int) := by omega
  have e1 : (n : Int) / 256 = (d1 : Int) := by omega
  have e2 : (n : Int) / 65536 = (d2 : Int) := by omega
  have e3 : (n : Int) / 16777216 = (p3 : Int) := by omega
  have f1 : (d1 : Int) % 256 = (p1 : Int) := by omega
  have f2 : (d2 : Int) % 256 = (p2 : Int) := by omega
  have l0 : p0 < 256 := by omega
  have l1 : p1 < 256 := by omega
  have l2 : p2 < 256 := by omega
  have l3 : p3 < 256 := by omega
  have w0 : IntKind.u8.wrap (p0 : Int) = (p0 : Int) := by rw [IntKind.wrap_u8]; omega
  have w1 : IntKind.u8.wrap (p1 : Int) = (p1 : Int) := by rw [IntKind.wrap_u8]; omega
  have w2 : IntKind.u8.wrap (p2 : Int) = (p2 : Int) := by rw [IntKind.wrap_u8]; omega
  have w3 : IntKind.u8.wrap (p3 : Int) = (p3 : Int) := by rw [IntKind.wrap_u8]; omega
  have cv := conv4 (w := w.alloc (.cells #[.int .u8 p0, .int .u8 p1, .int .u8 p2, .int .u8 p3] 5)) (g := w.heap.size) (heap_alloc_at rfl _) l0 l1 l2 l3
  rw [hp0, hd1, hd2, hp1, hp2, hp3] at HT
  obtain ⟨r, hr⟩ : ∃ r, bl [UInt8.ofNat p0, UInt8.ofNat p1, UInt8.ofNat p2, UInt8.ofNat p3] = r := ⟨_, rfl⟩
  rw [hr] at cv
  have HR := Lib.hid hr
  clear hp0 hp1 hp2 hp3 hd1 hd2 hr
  go_enter Tryz.func33, Tryz.ntmps33
  go_wp2_with (fail)
  go_ret
  exact ⟨by rw [HT.out, HR.out]; rfl, Fp.alloc _ _⟩

theorem moreN_zero_append (a b : ByteArray) : moreN 0 (a ++ b) = crcN a b := moreN_append 0 a b (by decide)

set_option maxRecDepth 100000 in
set_option maxHeartbeats 4000000 in
theorem rput_any (s : ByteArray) (w : World) (hs : s.size ≤ 100000000) :
    Calls Tryz.prog 73 #[.string s] w fun e w' => e = .returned (.tuple #[.string (putP s).1, .int .i64 (putP s).2]) ∧ Fp [] w w' := by
  by_cases hw : s.size > 65535
  · have hp : putP s = (⟨#[]⟩, 71) := if_pos hw
    rw [hp]
    have z : (s.size : Int) > 65535 := by omega
    go_enter Tryz.func73, Tryz.ntmps73
    go_wp2_with (fail)
    go_ret2
    exact ⟨rfl, Fp.refl _ _⟩
  · have hp : putP s = (recB s, 0) := if_neg hw
    rw [hp]
    have z : ¬ (s.size : Int) > 65535 := by omega
    obtain ⟨x, hx⟩ : ∃ x, crcN (bl (two s.size)) s = x := ⟨_, rfl⟩
    have hxl : x < 4294967296 := by rw [← hx]; exact crcN_lt _ _
    have HR : Hid (recB s = bl (two s.size) ++ bl (quad x) ++ s) := by unfold Hid recB; rw [hx]
    have HS := Lib.hid (fun w => rsum_any (bl (two s.size) ++ s) w (by rw [ByteArray.size_append, bl_size]; show 2 + _ ≤ _; omega))
    rw [moreN_zero_append, hx] at HS
    have HF4 := Lib.hid (fun w => rfour_any x w hxl)
    clear hx hp
    obtain ⟨a0, ha0⟩ : ∃ y, s.size % 256 = y := ⟨_, rfl⟩
    obtain ⟨a1, ha1⟩ : ∃ y, s.size / 256 = y := ⟨_, rfl⟩
    have d0 : (s.size : Int) % 256 = (a0 : Int) := by omega
    have d1 : (s.size : Int) / 256 = (a1 : Int) := by omega
    have la0 : a0 < 256 := by omega
    have la1 : a1 < 256 := by omega
    have w0 : IntKind.u8.wrap (a0 : Int) = (a0 : Int) := by rw [IntKind.wrap_u8]; omega
    have w1 : IntKind.u8.wrap (a1 : Int) = (a1 : Int) := by rw [IntKind.wrap_u8]; omega
    have HTW : Hid (bl [UInt8.ofNat a0, UInt8.ofNat a1] = bl (two s.size)) := by
      unfold Hid two
      rw [← ha0, ← ha1]
      have ofm : UInt8.ofNat (s.size % 256) = UInt8.ofNat s.size := by
        apply UInt8.toNat_inj.1
        rw [UInt8.toNat_ofNat', UInt8.toNat_ofNat']
        omega
      rw [ofm]
    clear ha0 ha1
    have HC2 := Lib.hid (conv2 (w := w.alloc (.cells #[.int .u8 a0, .int .u8 a1] 5)) (heap_alloc_at rfl _) la0 la1)
    have hcv := HC2.out
    rw [HTW.out] at hcv
    have l1 : (bl (two s.size)).size = 2 := by rw [bl_size]; rfl
    have l2 : (bl (quad x)).size = 4 := by rw [bl_size]; rfl
    obtain ⟨t1, ht1⟩ : ∃ t, bl (two s.size) = t := ⟨_, rfl⟩
    obtain ⟨t2, ht2⟩ : ∃ t, bl (quad x) = t := ⟨_, rfl⟩
    rw [ht1] at l1 HR hcv HS
    rw [ht2] at l2 HR HF4
    have zl0 : ¬ t1.size + s.size > 9223372036854775807 := by omega
    have zl : ¬ t1.size + t2.size > 9223372036854775807 := by omega
    have zl2 : ¬ t1.size + t2.size + s.size > 9223372036854775807 := by omega
    clear ht1 ht2 l1 l2
    go_enter Tryz.func73, Tryz.ntmps73
    go_wp2_with (fail)
    (with_reducible refine (HS.out _).mono ?_)
    rintro e w1 ⟨rfl, hf1⟩
    have HF1 := Lib.hid ((Fp.alloc w _).trans hf1 (by simp))
    clear hf1 hcv
    go_wp2_with (fail)
    (with_reducible refine (HF4.out _).mono ?_)
    rintro e w2 ⟨rfl, hf2⟩
    have HF2 := Lib.hid (HF1.out.trans hf2 (by simp))
    clear hf2
    go_wp2_with (fail)
    go_ret2
    exact ⟨by rw [HR.out]; rfl, HF2.out⟩

theorem extract4 {s : ByteArray} (h : 6 ≤ s.size) : s.extract 2 6 = bl [atB s 2, atB s 3, atB s 4, atB s 5] := by
  obtain ⟨⟨l⟩⟩ := s
  match l, h with
  | a :: b :: c :: d :: e :: f :: r, _ =>
    apply ByteArray.ext
    apply Array.ext'
    simp [atB, bl, ByteArray.data_extract, List.extract]
theorem quad_inj {g q : Nat} (hg : g < 4294967296) (hq : q < 4294967296) (h : quad g = quad q) : g = q := by
  have h1 := quadN_quad g hg
  have h2 := quadN_quad q hq
  unfold quad at h
  simp only [List.cons.injEq, and_true] at h
  obtain ⟨a, b, c, d⟩ := h
  rw [a, b, c, d] at h1
  omega

set_option maxRecDepth 100000 in
set_option maxHeartbeats 4000000 in
theorem rget_any (s : ByteArray) (w : World) (hs : s.size ≤ 100000000) :
    Calls Tryz.prog 48 #[.string s] w fun e w' => e = .returned (.tuple #[.string (getP s).1, .int .i64 (getP s).2.1, .int .i64 (getP s).2.2]) ∧ Fp [] w w' := by
  by_cases h0 : s.size = 0
  · rw [getP_none h0]
    obtain rfl : s = ⟨#[]⟩ := ByteArray.ext (Array.eq_empty_of_size_eq_zero h0)
    go_enter Tryz.func48, Tryz.ntmps48
    go_wp2_with (fail)
    refine bodyPost_ret (v := .tuple #[.string ⟨#[]⟩, .int .i64 0, .int .i64 3]) (by simp [results, Tryz.results48, go_sem, *]) rfl ⟨rfl, Fp.refl _ _⟩
  have hne : (s.toList == ([] : List UInt8)) = false := by
    rw [beq_eq_false_iff_ne]
    intro e
    apply h0
    have h2 := congrArg List.length e
    rw [ByteArray.toList_eq] at h2
    exact h2
  by_cases h1 : s.size < 6
  · rw [getP_short h0 h1]
    have z : (s.size : Int) < 6 := by omega
    go_enter Tryz.func48, Tryz.ntmps48
    go_wp2_with (fail)
    refine bodyPost_ret (v := .tuple #[.string ⟨#[]⟩, .int .i64 0, .int .i64 10]) (by simp [results, Tryz.results48, go_sem, *]) rfl ⟨rfl, Fp.refl _ _⟩
  have z1 : ¬ (s.size : Int) < 6 := by omega
  have e0 := atB_get s 0 (by omega)
  have p0 : 0 < s.size := by omega
  have e1 := atB_get s 1 (by omega)
  have p1 : (1 : Int) < (s.size : Int) := by omega
  have hb0 := (atB s 0).toNat_lt
  have hb1 := (atB s 1).toNat_lt
  have hx4 := extract4 (s := s) (by omega)
  obtain ⟨x0, hx0⟩ : ∃ x, (atB s 0).toNat = x := ⟨_, rfl⟩
  obtain ⟨x1, hx1⟩ : ∃ x, (atB s 1).toNat = x := ⟨_, rfl⟩
  obtain ⟨en, hen⟩ : ∃ en, endN s = en := ⟨_, rfl⟩
  have hquad := quad_quadN (atB s 2) (atB s 3) (atB s 4) (atB s 5)
  have hqlt := quadN_lt (atB s 2) (atB s 3) (atB s 4) (atB s 5)
  obtain ⟨q, hq⟩ : ∃ q, quadN (atB s 2) (atB s 3) (atB s 4) (atB s 5) = q := ⟨_, rfl⟩
  have hen2 : en = 6 + x0 + x1 * 256 := by rw [← hen, ← hx0, ← hx1]; rfl
  have HCUT := Lib.hid (fun h => getP_cut h0 h1 h)
  have HSUM := Lib.hid (fun h2 h => getP_sum h0 h1 h2 h)
  have HOKG := Lib.hid (fun h2 h => getP_ok h0 h1 h2 h)
  rw [hen] at HCUT HSUM HOKG
  rw [hq] at HSUM HOKG hquad hqlt
  rw [← hquad] at hx4
  rw [hx0] at hb0
  rw [hx1] at hb1
  have k0 : IntKind.i64.wrap (x0 : Int) = x0 := by rw [IntKind.wrap_i64]; omega
  have k1 : IntKind.i64.wrap (x1 : Int) = x1 := by rw [IntKind.wrap_i64]; omega
  obtain ⟨y1, hy1⟩ : ∃ y, 256 * x1 = y := ⟨_, rfl⟩
  have k3 : IntKind.i64.wrap (256 * (x1 : Int)) = (y1 : Int) := by rw [IntKind.wrap_i64]; omega
  obtain ⟨nn, hnn⟩ : ∃ y, x0 + y1 = y := ⟨_, rfl⟩
  have k4 : IntKind.i64.wrap ((x0 : Int) + (y1 : Int)) = (nn : Int) := by rw [IntKind.wrap_i64]; omega
  have k5 : IntKind.i64.wrap (6 + (nn : Int)) = (en : Int) := by rw [IntKind.wrap_i64]; omega
  have he6 : 6 ≤ en := by omega
  have heb : en ≤ 70000 := by omega
  clear hen hq hen2 hy1 hnn h0 hquad
  by_cases hE : s.size < en
  · rw [HCUT.out hE]
    have z2 : (s.size : Int) < en := by omega
    go_enter Tryz.func48, Tryz.ntmps48
    go_wp2_with (fail)
    refine wp_region_calm (by kernel_rfl) (by kernel_rfl) ?_
    -- 0
    apply ex_plain rfl rfl rfl
    · intro a w hC hA K hK
      have h0 := hA.free 0 _ (by kernel_rfl) rfl
      simp only [Oper.wp, execOp]; go_simp
      exact hK _ hC (Fp.refl _ _)
    -- 1
    apply ex_plain rfl rfl rfl
    · intro a w hC hA K hK
      have h11 : a.tmps[11]?.getD undef = _ := hA.dep 0 11 _ (by kernel_rfl) rfl
      simp only [Oper.wp, execOp]; go_simp
      exact hK _ hC (Fp.refl _ _)
    -- 2
    apply ex_plain rfl rfl rfl
    · intro a w hC hA K hK
      have h12 : a.tmps[12]?.getD undef = _ := hA.dep 1 12 _ (by kernel_rfl) rfl
      simp only [Oper.wp, execOp]; go_simp
      exact hK _ hC (Fp.refl _ _)
    -- 3
    apply ex_plain rfl rfl rfl
    · intro a w hC hA K hK
      have h0 := hA.free 0 _ (by kernel_rfl) rfl
      simp only [Oper.wp, execOp]; go_simp
      exact hK _ hC (Fp.refl _ _)
    -- 4
    apply ex_plain rfl rfl rfl
    · intro a w hC hA K hK
      have h14 : a.tmps[14]?.getD undef = _ := hA.dep 3 14 _ (by kernel_rfl) rfl
      simp only [Oper.wp, execOp]; go_simp
      exact hK _ hC (Fp.refl _ _)
    -- 5
    apply ex_plain rfl rfl rfl
    · intro a w hC hA K hK
      have h15 : a.tmps[15]?.getD undef = _ := hA.dep 4 15 _ (by kernel_rfl) rfl
      simp only [Oper.wp, execOp]; go_simp
      exact hK _ hC (Fp.refl _ _)
    -- 6
    apply ex_plain rfl rfl rfl
    · intro a w hC hA K hK
      have h16 : a.tmps[16]?.getD undef = _ := hA.dep 5 16 _ (by kernel_rfl) rfl
      simp only [Oper.wp, execOp]; go_simp
      exact hK _ hC (Fp.refl _ _)
    -- 7
    apply ex_plain rfl rfl rfl
    · intro a w hC hA K hK
      have h13 : a.tmps[13]?.getD undef = _ := hA.dep 2 13 _ (by kernel_rfl) rfl
      have h17 : a.tmps[17]?.getD undef = _ := hA.dep 6 17 _ (by kernel_rfl) rfl
      simp only [Oper.wp, execOp]; go_simp
      exact hK _ hC (Fp.refl _ _)
    -- 8
    apply ex_plain rfl rfl rfl
    · intro a w hC hA K hK
      have h18 : a.tmps[18]?.getD undef = _ := hA.dep 7 18 _ (by kernel_rfl) rfl
      simp only [Oper.wp, execOp]; go_simp
      exact hK _ hC (Fp.refl _ _)
    refine ⟨?_, ?_⟩
    · repeat (first | exact trivial | refine stab_val _ ?_ | refine ⟨fun w1 w2 v _ hf ⟨g, h1, h2⟩ => ⟨g, h1, (hf.block g (heap_lt h2) (by simp)).trans h2⟩, ?_⟩)
    · intro w' hC
      simp only [List.reverse_cons, List.reverse_nil, List.nil_append, List.cons_append]
      iterate 9 (refine all_val ?_)
      refine all_nil ?_
      simp only [putAll, Act.put, List.setIfInBounds_toArray, List.set_cons_succ, List.set_cons_zero]
      go_wp2_with (fail)
      refine bodyPost_ret (v := .tuple #[.string ⟨#[]⟩, .int .i64 0, .int .i64 10]) (by simp [results, Tryz.results48, go_sem, *]) rfl ⟨rfl, hC⟩
  have z2 : ¬ (s.size : Int) < en := by omega
  have hE2 : (en : Int) ≤ s.size := by omega
  have h2s : (2 : Int) ≤ s.size := by omega
  have h6s : (6 : Int) ≤ s.size := by omega
  have h6e : (6 : Int) ≤ en := by omega
  obtain ⟨g, hg⟩ : ∃ g, crcN (s.extract 0 2) (s.extract 6 en) = g := ⟨_, rfl⟩
  have hgl : g < 4294967296 := by rw [← hg]; exact crcN_lt _ _
  rw [hg] at HSUM HOKG
  have zx1 : (s.extract 0 2).size ≤ 100000000 := by rw [ByteArray.size_extract]; omega
  have zx2 : (s.extract 6 en).size ≤ 100000000 := by rw [ByteArray.size_extract]; omega
  have zx3 : (s.extract 0 2 ++ s.extract 6 en).size ≤ 100000000 := by rw [ByteArray.size_append, ByteArray.size_extract, ByteArray.size_extract]; omega
  have zl : ¬ (s.extract 0 2).size + (s.extract 6 en).size > 9223372036854775807 := by omega
  have HS := Lib.hid (fun w => rsum_any (s.extract 0 2 ++ s.extract 6 en) w zx3)
  rw [moreN_zero_append, hg] at HS
  have HF4 := Lib.hid (fun w => rfour_any g w hgl)
  have hbe : ((bl (quad g)).toList == (s.extract 2 6).toList) = decide (g = q) := by
    rw [hx4]
    by_cases h : g = q
    · subst h; rw [decide_eq_true rfl, beq_self_eq_true]
    · rw [decide_eq_false h, beq_eq_false_iff_ne]
      intro e
      rw [ByteArray.toList_eq, ByteArray.toList_eq] at e
      have e2 : quad g = quad q := by simpa [bl] using e
      exact h (quad_inj hgl hqlt e2)
  clear hg zx1 zx2 zx3 hx4
  by_cases hgq : g = q
  · rw [HOKG.out hE hgq]
    rw [decide_eq_true hgq] at hbe
    clear hgq
    go_enter Tryz.func48, Tryz.ntmps48
    go_wp2_with (fail)
    refine wp_region_calm (by kernel_rfl) (by kernel_rfl) ?_
    -- 0
    apply ex_plain rfl rfl rfl
    · intro a w hC hA K hK
      have h0 := hA.free 0 _ (by kernel_rfl) rfl
      simp only [Oper.wp, execOp]; go_simp
      exact hK _ hC (Fp.refl _ _)
    -- 1
    apply ex_plain rfl rfl rfl
    · intro a w hC hA K hK
      have h11 : a.tmps[11]?.getD undef = _ := hA.dep 0 11 _ (by kernel_rfl) rfl
      simp only [Oper.wp, execOp]; go_simp
      exact hK _ hC (Fp.refl _ _)
    -- 2
    apply ex_plain rfl rfl rfl
    · intro a w hC hA K hK
      have h12 : a.tmps[12]?.getD undef = _ := hA.dep 1 12 _ (by kernel_rfl) rfl
      simp only [Oper.wp, execOp]; go_simp
      exact hK _ hC (Fp.refl _ _)
    -- 3
    apply ex_plain rfl rfl rfl
    · intro a w hC hA K hK
      have h0 := hA.free 0 _ (by kernel_rfl) rfl
      simp only [Oper.wp, execOp]; go_simp
      exact hK _ hC (Fp.refl _ _)
    -- 4
    apply ex_plain rfl rfl rfl
    · intro a w hC hA K hK
      have h14 : a.tmps[14]?.getD undef = _ := hA.dep 3 14 _ (by kernel_rfl) rfl
      simp only [Oper.wp, execOp]; go_simp
      exact hK _ hC (Fp.refl _ _)
    -- 5
    apply ex_plain rfl rfl rfl
    · intro a w hC hA K hK
      have h15 : a.tmps[15]?.getD undef = _ := hA.dep 4 15 _ (by kernel_rfl) rfl
      simp only [Oper.wp, execOp]; go_simp
      exact hK _ hC (Fp.refl _ _)
    -- 6
    apply ex_plain rfl rfl rfl
    · intro a w hC hA K hK
      have h16 : a.tmps[16]?.getD undef = _ := hA.dep 5 16 _ (by kernel_rfl) rfl
      simp only [Oper.wp, execOp]; go_simp
      exact hK _ hC (Fp.refl _ _)
    -- 7
    apply ex_plain rfl rfl rfl
    · intro a w hC hA K hK
      have h13 : a.tmps[13]?.getD undef = _ := hA.dep 2 13 _ (by kernel_rfl) rfl
      have h17 : a.tmps[17]?.getD undef = _ := hA.dep 6 17 _ (by kernel_rfl) rfl
      simp only [Oper.wp, execOp]; go_simp
      exact hK _ hC (Fp.refl _ _)
    -- 8
    apply ex_plain rfl rfl rfl
    · intro a w hC hA K hK
      have h18 : a.tmps[18]?.getD undef = _ := hA.dep 7 18 _ (by kernel_rfl) rfl
      simp only [Oper.wp, execOp]; go_simp
      exact hK _ hC (Fp.refl _ _)
    refine ⟨?_, ?_⟩
    · repeat (first | exact trivial | refine stab_val _ ?_ | refine ⟨fun w1 w2 v _ hf ⟨g, h1, h2⟩ => ⟨g, h1, (hf.block g (heap_lt h2) (by simp)).trans h2⟩, ?_⟩)
    · intro w' hC
      simp only [List.reverse_cons, List.reverse_nil, List.nil_append, List.cons_append]
      iterate 9 (refine all_val ?_)
      refine all_nil ?_
      simp only [putAll, Act.put, List.setIfInBounds_toArray, List.set_cons_succ, List.set_cons_zero]
      have HF1 := Lib.hid hC
      clear hC
      go_wp2_with (fail)
      refine wp_region_calm (by kernel_rfl) (by kernel_rfl) ?_
      -- 0
      apply ex_plain rfl rfl rfl
      · intro a w hC hA K hK
        have h0 := hA.free 0 _ (by kernel_rfl) rfl
        simp only [Oper.wp, execOp]; go_simp
        exact hK _ hC (Fp.refl _ _)
      -- 1
      apply ex_plain rfl rfl rfl
      · intro a w hC hA K hK
        have h24 : a.tmps[24]?.getD undef = _ := hA.dep 0 24 _ (by kernel_rfl) rfl
        simp only [Oper.wp, execOp]; go_simp
        exact hK _ hC (Fp.refl _ _)
      -- 2
      apply ex_plain rfl rfl rfl
      · intro a w hC hA K hK
        have h0 := hA.free 0 _ (by kernel_rfl) rfl
        simp only [Oper.wp, execOp]; go_simp
        exact hK _ hC (Fp.refl _ _)
      -- 3
      apply ex_plain rfl rfl rfl
      · intro a w hC hA K hK
        have h5 := hA.free 5 _ (by kernel_rfl) rfl
        simp only [Oper.wp, execOp]; go_simp
        exact hK _ hC (Fp.refl _ _)
      -- 4
      apply ex_plain rfl rfl rfl
      · intro a w hC hA K hK
        have h27 : a.tmps[27]?.getD undef = _ := hA.dep 3 27 _ (by kernel_rfl) rfl
        simp only [Oper.wp, execOp]; go_simp
        exact hK _ hC (Fp.refl _ _)
      -- 5
      apply ex_plain rfl rfl rfl
      · intro a w hC hA K hK
        have h26 : a.tmps[26]?.getD undef = _ := hA.dep 2 26 _ (by kernel_rfl) rfl
        have h28 : a.tmps[28]?.getD undef = _ := hA.dep 4 28 _ (by kernel_rfl) rfl
        simp only [Oper.wp, execOp]; go_simp
        exact hK _ hC (Fp.refl _ _)
      -- 6
      apply ex_plain rfl rfl rfl
      · intro a w hC hA K hK
        have h25 : a.tmps[25]?.getD undef = _ := hA.dep 1 25 _ (by kernel_rfl) rfl
        have h29 : a.tmps[29]?.getD undef = _ := hA.dep 5 29 _ (by kernel_rfl) rfl
        simp only [Oper.wp, execOp]; go_simp
        rw [if_neg (by first | omega | (simp only [ByteArray.size_append]; omega))]
        exact hK _ hC (Fp.refl _ _)
      -- 7
      apply ex_plain rfl rfl rfl
      · intro a w hC hA K hK
        have h30 : a.tmps[30]?.getD undef = _ := hA.dep 6 30 _ (by kernel_rfl) rfl
        simp only [Oper.wp, execOp]; go_simp
        first
          | ((with_reducible refine (HS.out _).mono ?_); rintro e w2 ⟨rfl, hf⟩; exact hK _ (hC.trans hf (by simp)) hf)
          | ((with_reducible refine (HF4.out _).mono ?_); rintro e w2 ⟨rfl, hf⟩; exact hK _ (hC.trans hf (by simp)) hf)
      -- 8
      apply ex_plain rfl rfl rfl
      · intro a w hC hA K hK
        have h31 : a.tmps[31]?.getD undef = _ := hA.dep 7 31 _ (by kernel_rfl) rfl
        simp only [Oper.wp, execOp]; go_simp
        first
          | ((with_reducible refine (HS.out _).mono ?_); rintro e w2 ⟨rfl, hf⟩; exact hK _ (hC.trans hf (by simp)) hf)
          | ((with_reducible refine (HF4.out _).mono ?_); rintro e w2 ⟨rfl, hf⟩; exact hK _ (hC.trans hf (by simp)) hf)
      -- 9
      apply ex_plain rfl rfl rfl
      · intro a w hC hA K hK
        have h0 := hA.free 0 _ (by kernel_rfl) rfl
        simp only [Oper.wp, execOp]; go_simp
        exact hK _ hC (Fp.refl _ _)
      -- 10
      apply ex_plain rfl rfl rfl
      · intro a w hC hA K hK
        have h33 : a.tmps[33]?.getD undef = _ := hA.dep 9 33 _ (by kernel_rfl) rfl
        simp only [Oper.wp, execOp]; go_simp
        exact hK _ hC (Fp.refl _ _)
      -- 11
      apply ex_plain rfl rfl rfl
      · intro a w hC hA K hK
        have h32 : a.tmps[32]?.getD undef = _ := hA.dep 8 32 _ (by kernel_rfl) rfl
        have h34 : a.tmps[34]?.getD undef = _ := hA.dep 10 34 _ (by kernel_rfl) rfl
        simp only [Oper.wp, execOp]; go_simp
        exact hK _ hC (Fp.refl _ _)
      refine ⟨?_, ?_⟩
      · repeat (first | exact trivial | refine stab_val _ ?_ | refine ⟨fun w1 w2 v _ hf ⟨g, h1, h2⟩ => ⟨g, h1, (hf.block g (heap_lt h2) (by simp)).trans h2⟩, ?_⟩)
      · intro w' hC
        simp only [List.reverse_cons, List.reverse_nil, List.nil_append, List.cons_append]
        iterate 12 (refine all_val ?_)
        refine all_nil ?_
        simp only [putAll, Act.put, List.setIfInBounds_toArray, List.set_cons_succ, List.set_cons_zero]
        have HF2 := Lib.hid (HF1.out.trans hC (by simp))
        clear hC
        go_wp2_with (fail)
        refine bodyPost_ret (v := .tuple #[.string (s.extract 6 en), .int .i64 en, .int .i64 0]) (by simp [results, Tryz.results48, go_sem, *]) rfl ⟨rfl, HF2.out⟩
  · rw [HSUM.out hE hgq]
    rw [decide_eq_false hgq] at hbe
    clear hgq
    go_enter Tryz.func48, Tryz.ntmps48
    go_wp2_with (fail)
    refine wp_region_calm (by kernel_rfl) (by kernel_rfl) ?_
    -- 0
    apply ex_plain rfl rfl rfl
    · intro a w hC hA K hK
      have h0 := hA.free 0 _ (by kernel_rfl) rfl
      simp only [Oper.wp, execOp]; go_simp
      exact hK _ hC (Fp.refl _ _)
    -- 1
    apply ex_plain rfl rfl rfl
    · intro a w hC hA K hK
      have h11 : a.tmps[11]?.getD undef = _ := hA.dep 0 11 _ (by kernel_rfl) rfl
      simp only [Oper.wp, execOp]; go_simp
      exact hK _ hC (Fp.refl _ _)
    -- 2
    apply ex_plain rfl rfl rfl
    · intro a w hC hA K hK
      have h12 : a.tmps[12]?.getD undef = _ := hA.dep 1 12 _ (by kernel_rfl) rfl
      simp only [Oper.wp, execOp]; go_simp
      exact hK _ hC (Fp.refl _ _)
    -- 3
    apply ex_plain rfl rfl rfl
    · intro a w hC hA K hK
      have h0 := hA.free 0 _ (by kernel_rfl) rfl
      simp only [Oper.wp, execOp]; go_simp
      exact hK _ hC (Fp.refl _ _)
    -- 4
    apply ex_plain rfl rfl rfl
    · intro a w hC hA K hK
      have h14 : a.tmps[14]?.getD undef = _ := hA.dep 3 14 _ (by kernel_rfl) rfl
      simp only [Oper.wp, execOp]; go_simp
      exact hK _ hC (Fp.refl _ _)
    -- 5
    apply ex_plain rfl rfl rfl
    · intro a w hC hA K hK
      have h15 : a.tmps[15]?.getD undef = _ := hA.dep 4 15 _ (by kernel_rfl) rfl
      simp only [Oper.wp, execOp]; go_simp
      exact hK _ hC (Fp.refl _ _)
    -- 6
    apply ex_plain rfl rfl rfl
    · intro a w hC hA K hK
      have h16 : a.tmps[16]?.getD undef = _ := hA.dep 5 16 _ (by kernel_rfl) rfl
      simp only [Oper.wp, execOp]; go_simp
      exact hK _ hC (Fp.refl _ _)
    -- 7
    apply ex_plain rfl rfl rfl
    · intro a w hC hA K hK
      have h13 : a.tmps[13]?.getD undef = _ := hA.dep 2 13 _ (by kernel_rfl) rfl
      have h17 : a.tmps[17]?.getD undef = _ := hA.dep 6 17 _ (by kernel_rfl) rfl
      simp only [Oper.wp, execOp]; go_simp
      exact hK _ hC (Fp.refl _ _)
    -- 8
    apply ex_plain rfl rfl rfl
    · intro a w hC hA K hK
      have h18 : a.tmps[18]?.getD undef = _ := hA.dep 7 18 _ (by kernel_rfl) rfl
      simp only [Oper.wp, execOp]; go_simp
      exact hK _ hC (Fp.refl _ _)
    refine ⟨?_, ?_⟩
    · repeat (first | exact trivial | refine stab_val _ ?_ | refine ⟨fun w1 w2 v _ hf ⟨g, h1, h2⟩ => ⟨g, h1, (hf.block g (heap_lt h2) (by simp)).trans h2⟩, ?_⟩)
    · intro w' hC
      simp only [List.reverse_cons, List.reverse_nil, List.nil_append, List.cons_append]
      iterate 9 (refine all_val ?_)
      refine all_nil ?_
      simp only [putAll, Act.put, List.setIfInBounds_toArray, List.set_cons_succ, List.set_cons_zero]
      have HF1 := Lib.hid hC
      clear hC
      go_wp2_with (fail)
      refine wp_region_calm (by kernel_rfl) (by kernel_rfl) ?_
      -- 0
      apply ex_plain rfl rfl rfl
      · intro a w hC hA K hK
        have h0 := hA.free 0 _ (by kernel_rfl) rfl
        simp only [Oper.wp, execOp]; go_simp
        exact hK _ hC (Fp.refl _ _)
      -- 1
      apply ex_plain rfl rfl rfl
      · intro a w hC hA K hK
        have h24 : a.tmps[24]?.getD undef = _ := hA.dep 0 24 _ (by kernel_rfl) rfl
        simp only [Oper.wp, execOp]; go_simp
        exact hK _ hC (Fp.refl _ _)
      -- 2
      apply ex_plain rfl rfl rfl
      · intro a w hC hA K hK
        have h0 := hA.free 0 _ (by kernel_rfl) rfl
        simp only [Oper.wp, execOp]; go_simp
        exact hK _ hC (Fp.refl _ _)
      -- 3
      apply ex_plain rfl rfl rfl
      · intro a w hC hA K hK
        have h5 := hA.free 5 _ (by kernel_rfl) rfl
        simp only [Oper.wp, execOp]; go_simp
        exact hK _ hC (Fp.refl _ _)
      -- 4
      apply ex_plain rfl rfl rfl
      · intro a w hC hA K hK
        have h27 : a.tmps[27]?.getD undef = _ := hA.dep 3 27 _ (by kernel_rfl) rfl
        simp only [Oper.wp, execOp]; go_simp
        exact hK _ hC (Fp.refl _ _)
      -- 5
      apply ex_plain rfl rfl rfl
      · intro a w hC hA K hK
        have h26 : a.tmps[26]?.getD undef = _ := hA.dep 2 26 _ (by kernel_rfl) rfl
        have h28 : a.tmps[28]?.getD undef = _ := hA.dep 4 28 _ (by kernel_rfl) rfl
        simp only [Oper.wp, execOp]; go_simp
        exact hK _ hC (Fp.refl _ _)
      -- 6
      apply ex_plain rfl rfl rfl
      · intro a w hC hA K hK
        have h25 : a.tmps[25]?.getD undef = _ := hA.dep 1 25 _ (by kernel_rfl) rfl
        have h29 : a.tmps[29]?.getD undef = _ := hA.dep 5 29 _ (by kernel_rfl) rfl
        simp only [Oper.wp, execOp]; go_simp
        rw [if_neg (by first | omega | (simp only [ByteArray.size_append]; omega))]
        exact hK _ hC (Fp.refl _ _)
      -- 7
      apply ex_plain rfl rfl rfl
      · intro a w hC hA K hK
        have h30 : a.tmps[30]?.getD undef = _ := hA.dep 6 30 _ (by kernel_rfl) rfl
        simp only [Oper.wp, execOp]; go_simp
        first
          | ((with_reducible refine (HS.out _).mono ?_); rintro e w2 ⟨rfl, hf⟩; exact hK _ (hC.trans hf (by simp)) hf)
          | ((with_reducible refine (HF4.out _).mono ?_); rintro e w2 ⟨rfl, hf⟩; exact hK _ (hC.trans hf (by simp)) hf)
      -- 8
      apply ex_plain rfl rfl rfl
      · intro a w hC hA K hK
        have h31 : a.tmps[31]?.getD undef = _ := hA.dep 7 31 _ (by kernel_rfl) rfl
        simp only [Oper.wp, execOp]; go_simp
        first
          | ((with_reducible refine (HS.out _).mono ?_); rintro e w2 ⟨rfl, hf⟩; exact hK _ (hC.trans hf (by simp)) hf)
          | ((with_reducible refine (HF4.out _).mono ?_); rintro e w2 ⟨rfl, hf⟩; exact hK _ (hC.trans hf (by simp)) hf)
      -- 9
      apply ex_plain rfl rfl rfl
      · intro a w hC hA K hK
        have h0 := hA.free 0 _ (by kernel_rfl) rfl
        simp only [Oper.wp, execOp]; go_simp
        exact hK _ hC (Fp.refl _ _)
      -- 10
      apply ex_plain rfl rfl rfl
      · intro a w hC hA K hK
        have h33 : a.tmps[33]?.getD undef = _ := hA.dep 9 33 _ (by kernel_rfl) rfl
        simp only [Oper.wp, execOp]; go_simp
        exact hK _ hC (Fp.refl _ _)
      -- 11
      apply ex_plain rfl rfl rfl
      · intro a w hC hA K hK
        have h32 : a.tmps[32]?.getD undef = _ := hA.dep 8 32 _ (by kernel_rfl) rfl
        have h34 : a.tmps[34]?.getD undef = _ := hA.dep 10 34 _ (by kernel_rfl) rfl
        simp only [Oper.wp, execOp]; go_simp
        exact hK _ hC (Fp.refl _ _)
      refine ⟨?_, ?_⟩
      · repeat (first | exact trivial | refine stab_val _ ?_ | refine ⟨fun w1 w2 v _ hf ⟨g, h1, h2⟩ => ⟨g, h1, (hf.block g (heap_lt h2) (by simp)).trans h2⟩, ?_⟩)
      · intro w' hC
        simp only [List.reverse_cons, List.reverse_nil, List.nil_append, List.cons_append]
        iterate 12 (refine all_val ?_)
        refine all_nil ?_
        simp only [putAll, Act.put, List.setIfInBounds_toArray, List.set_cons_succ, List.set_cons_zero]
        have HF2 := Lib.hid (HF1.out.trans hC (by simp))
        clear hC
        go_wp2_with (fail)
        refine bodyPost_ret (v := .tuple #[.string ⟨#[]⟩, .int .i64 0, .int .i64 20]) (by simp [results, Tryz.results48, go_sem, *]) rfl ⟨rfl, HF2.out⟩

/-! All -/
theorem textsF_more (s : ByteArray) : ∀ (n at_ : Nat), textsF (n + 1) at_ s = if (getP (s.extract at_ s.size)).2.2 = 0 then (at_ + (getP (s.extract at_ s.size)).2.1, (getP (s.extract at_ s.size)).1) :: textsF n (at_ + (getP (s.extract at_ s.size)).2.1) s else [] := fun _ _ => rfl
/-- the texts behind a place, however many steps are allowed -/
def textsAt (s : ByteArray) (at_ : Nat) : List (Nat × ByteArray) := textsF (s.size - at_ + 1) at_ s
theorem textsAt_yes {s t : ByteArray} {at_ k : Nat} (h : getP (s.extract at_ s.size) = (t, k, 0)) : textsAt s at_ = (at_ + k, t) :: textsAt s (at_ + k) := by
  unfold textsAt
  rw [textsF_yes h]
  have hb := get_bound h
  rw [textsF_fuel (s.size - at_) (s.size - (at_ + k) + 1) (at_ + k) s (by omega) (by omega)]
theorem textsAt_no {s t : ByteArray} {at_ k e : Nat} (h : getP (s.extract at_ s.size) = (t, k, e)) (he : e ≠ 0) : textsAt s at_ = [] := by
  unfold textsAt
  rw [textsF_no h he]
theorem textsAt_zero (s : ByteArray) : textsAt s 0 = textsP s := rfl

set_option maxRecDepth 100000 in
set_option maxHeartbeats 8000000 in
theorem rall_any (w : World) (s : ByteArray) (hs : s.size ≤ 100000000) :
    Calls Tryz.prog 49 #[.string s] w fun e w' => ∃ v, e = .returned (.tuple #[v, .int .i64 (endOf (textsP s))]) ∧ OwnS w' w.heap.size v ((textsP s).map (·.2)) ∧ Fp [] w w' := by
  have HG := Lib.hid (fun t ht w => rget_any t w ht)
  go_enter Tryz.func49, Tryz.ntmps49
  go_wp2_with (fail)
  go_loopg [4, 5] (s.size + 1) (fun g va vi wr => ∃ (pre : List (Nat × ByteArray)) (v : Value), textsP s = pre ++ textsAt s (endOf pre) ∧ endOf pre ≤ s.size ∧ pre.length ≤ endOf pre ∧ g + endOf pre = s.size + 1 ∧ v = va ∧ vi = .int .i64 (endOf pre : Nat) ∧ OwnS wr w.heap.size v (pre.map (·.2)) ∧ Fp [] w wr)
  case atStart => exact ⟨[], _, rfl, Nat.zero_le _, Nat.le_refl _, rfl, rfl, rfl, OwnS.made w _ (Nat.le_refl _), Fp.alloc _ _⟩
  case round =>
    obtain ⟨pre, va, ht, hle, hpl, hg, rfl, rfl, ho, hf⟩ := hrel
    have HF := Lib.hid hf
    have HO := Lib.hid ho
    clear hf ho
    have hexs : (s.extract (endOf pre) s.size).size ≤ 100000000 := by rw [ByteArray.size_extract]; omega
    have hc := HG.out _ hexs
    obtain ⟨⟨t, k, e⟩, hget⟩ : ∃ x, getP (s.extract (endOf pre) s.size) = x := ⟨_, rfl⟩
    rw [hget] at hc
    have HC := Lib.hid hc
    have HSN := Lib.hid (fun x => endOf_snoc pre x)
    have HYES := Lib.hid (fun h => textsAt_yes (s := s) (at_ := endOf pre) (t := t) (k := k) h)
    have HNO := Lib.hid (fun h he => textsAt_no (s := s) (at_ := endOf pre) (t := t) (k := k) (e := e) h he)
    have HBD := Lib.hid (fun h => get_bound (s := s) (at_ := endOf pre) (t := t) (k := k) h)
    have HTX := Lib.hid ht
    have HGT := Lib.hid hget
    obtain ⟨p, hp⟩ : ∃ p, endOf pre = p := ⟨_, rfl⟩
    rw [hp] at HC HYES HNO HBD HTX HGT hg hle hpl hexs
    rw [hp]
    have HP := Lib.hid hp
    have zp : (p : Int) ≤ (s.size : Int) := by omega
    clear hc hget ht hp
    by_cases he : e = 0
    · subst he
      have hb1 := (HBD.out HGT.out).1
      have hb2 := (HBD.out HGT.out).2.1
      have n1 : IntKind.i64.wrap ((p : Int) + (k : Int)) = ((p + k : Nat) : Int) := by rw [IntKind.wrap_i64]; omega
      go_wp2_with (fail)
      (with_reducible refine (HC.out _).mono ?_)
      rintro e w1 ⟨rfl, hf1⟩
      have HF1 := Lib.hid (HF.out.trans hf1 (by simp))
      have HO1 := Lib.hid (HO.out.fp hf1 (by simp))
      clear hf1
      have hbw : w.heap.size ≤ w1.heap.size := HF1.out.size
      go_wp2_with (at_builtin; (refine wpList_append_one rfl _ _ rfl w.heap.size _ _ rfl (HO1.out.fp (Fp.alloc _ _) (by simp)) _ t rfl (by rw [cell_of_block (heap_alloc_at (by simp) _)]; rfl) (by simp; omega) (by simp; omega) ?_); intro v2 w2 ho2 hb2; have HO2 := Lib.hid ho2; have HB2 := Lib.hid hb2; clear ho2 hb2)
      go_roundg (gk - k)
      case measure => omega
      case rel =>
        refine ⟨pre ++ [(p + k, t)], _, ?_, ?_, ?_, ?_, rfl, ?_, by rw [List.map_append]; exact HO2.out, (HF1.out.alloc' _).belowTrans HB2.out⟩
        · rw [HSN.out, HTX.out, HYES.out HGT.out, List.append_assoc]; rfl
        · rw [HSN.out]; exact hb2
        · rw [HSN.out, List.length_append]; show pre.length + 1 ≤ p + k; omega
        · rw [HSN.out]; show _ + (p + k) = _; omega
        · rw [HSN.out]; exact congrArg (Value.int .i64) (Int.natCast_add p k).symm
    · have ze : ((e : Int) != 0) = true := by rw [bne_iff_ne]; omega
      have hfin : textsP s = pre := by rw [HTX.out, HNO.out HGT.out he, List.append_nil]
      go_wp2_with (fail)
      (with_reducible refine (HC.out _).mono ?_)
      rintro e w1 ⟨rfl, hf1⟩
      have HF1 := Lib.hid (HF.out.trans hf1 (by simp))
      have HO1 := Lib.hid (HO.out.fp hf1 (by simp))
      have HFI := Lib.hid hfin
      clear hf1 hfin
      go_wp2_with (fail)
      refine bodyPost_ret (v := .tuple #[va, .int .i64 p]) (by simp [results, Tryz.results49, go_sem, *]) rfl ⟨va, ?_, ?_, HF1.out⟩
      · rw [HFI.out, HP.out]
      · rw [HFI.out]; exact HO1.out
end

section
open Go.RowKit Go.Lib

theorem Tryz.info3 : (Tryz.prog.info? 3).map (fun i => (i.zero, i.size, i.bytes)) = some (some (.int .i64 0), 1, 8) := by kernel_rfl
def bitsV (s : ByteArray) (many k : Nat) : List Value := (List.range k).map fun j => .int .i64 (placeN s many j : Nat)
theorem bitsV_succ (s : ByteArray) (many k : Nat) : bitsV s many (k + 1) = bitsV s many k ++ [.int .i64 (placeN s many k : Nat)] := by
  unfold bitsV
  rw [List.range_succ, List.map_append]
  rfl
theorem bitsV_length (s : ByteArray) (many k : Nat) : (bitsV s many k).length = k := by simp [bitsV]
theorem hashB_eq (s : ByteArray) : moreN 0 (s ++ ⟨#[1]⟩) = hashB s := moreN_append 0 s ⟨#[1]⟩ (by decide)

set_option maxRecDepth 100000 in
set_option maxHeartbeats 4000000 in
theorem rbits_any (s : ByteArray) (many : Nat) (w : World) (hs : s.size ≤ 100000) (hm : 0 < many) (hml : many ≤ 1000000000) :
    Calls Tryz.prog 75 #[.string s, .int .i64 many] w fun e w' => ∃ v, e = .returned v ∧ OwnR 3 w' w.heap.size v (bitsV s many 4) ∧ Fp [] w w' := by
  have HA := Lib.hid (fun w => rsum_any s w (by omega))
  have HB := Lib.hid (fun w => rsum_any (s ++ ⟨#[1]⟩) w (by rw [ByteArray.size_append]; show _ + 1 ≤ _; omega))
  rw [hashB_eq] at HB
  have la : hashA s < 4294967296 := moreN_lt _ _
  have lb : hashB s < 4294967296 := moreN_lt _ _
  have HK : Hid (∀ k, hashK s k = (hashA s + k * hashB s) % 4294967296) := fun k => rfl
  have HPL : Hid (∀ k, placeN s many k = hashK s k % many) := fun k => rfl
  have HSU := Lib.hid (fun k => bitsV_succ s many k)
  have HLE := Lib.hid (fun k => bitsV_length s many k)
  have HA' : Hid (∀ w, Calls Tryz.prog 84 #[.string s] w fun e w' => e = .returned (.int .u32 (hashA s)) ∧ Fp [] w w') := HA
  clear HA
  obtain ⟨a, ha⟩ : ∃ a, hashA s = a := ⟨_, rfl⟩
  obtain ⟨b, hb⟩ : ∃ b, hashB s = b := ⟨_, rfl⟩
  rw [ha] at HA' HK la
  rw [hb] at HB HK lb
  clear ha hb
  have zl : ¬ s.size + (ByteArray.mk #[1]).size > 9223372036854775807 := by show ¬ _ + 1 > _; omega
  have zl1 : ¬ s.size + 1 > 9223372036854775807 := by omega
  have wa : IntKind.u64.wrap (a : Int) = (a : Int) := by rw [IntKind.wrap_u64]; omega
  have wb : IntKind.u64.wrap (b : Int) = (b : Int) := by rw [IntKind.wrap_u64]; omega
  have zm : (many : Int) > 0 := by omega
  have m4 : IntKind.u64.wrap (many : Int) = (many : Int) := by rw [IntKind.wrap_u64]; omega
  have zmm : ((many : Int) == 0) = false := by rw [beq_eq_false_iff_ne]; omega
  have zmn : ¬ (many : Int) = 0 := by omega
  go_enter Tryz.func75, Tryz.ntmps75
  go_wp2_with (fail)
  (with_reducible refine (HA'.out _).mono ?_)
  rintro e w1 ⟨rfl, hf1⟩
  have HF1 := Lib.hid ((Fp.alloc w (.cells #[] 3)).trans hf1 (by simp))
  have HO1 := Lib.hid ((OwnR.made 3 w _ (Nat.le_refl _)).fp hf1 (by simp))
  clear hf1
  go_wp2_with (fail)
  (with_reducible refine (HB.out _).mono ?_)
  rintro e w2 ⟨rfl, hf2⟩
  have HF2 := Lib.hid (HF1.out.trans hf2 (by simp))
  have HO2 := Lib.hid (HO1.out.fp hf2 (by simp))
  clear hf2
  go_wp2_with (fail)
  go_loopg [5, 8] 4 (fun g va vi wr => ∃ (k : Nat) (v : Value), g + k = 4 ∧ v = va ∧ vi = .int .u64 k ∧ OwnR 3 wr w.heap.size v (bitsV s many k) ∧ Fp [] w wr)
  case atStart => exact ⟨0, _, by omega, rfl, rfl, HO2.out, HF2.out⟩
  case round =>
    obtain ⟨k, va, hg, rfl, rfl, ho, hf⟩ := hrel
    have HF := Lib.hid hf
    have HO := Lib.hid ho
    clear hf ho
    have hbw : w.heap.size ≤ wr.heap.size := HF.out.size
    by_cases hk : k < 4
    · have zk : (k : Int) < 4 := by omega
      have hkb : k * b ≤ 3 * b := Nat.mul_le_mul_right _ (by omega)
      have hkk := HK.out k
      have hpl := HPL.out k
      obtain ⟨p, hp⟩ : ∃ p, k * b = p := ⟨_, rfl⟩
      rw [hp] at hkb hkk
      have m1 : IntKind.u64.wrap ((k : Int) * (b : Int)) = (p : Int) := by rw [← Int.natCast_mul, hp, IntKind.wrap_u64]; omega
      obtain ⟨q, hq⟩ : ∃ q, a + p = q := ⟨_, rfl⟩
      rw [hq] at hkk
      have m2 : IntKind.u64.wrap ((a : Int) + (p : Int)) = (q : Int) := by rw [IntKind.wrap_u64]; omega
      obtain ⟨r, hr⟩ : ∃ r, hashK s k = r := ⟨_, rfl⟩
      rw [hr] at hkk hpl
      have m3 : (q : Int) % 4294967296 = (r : Int) := by omega
      obtain ⟨x, hx⟩ : ∃ x, placeN s many k = x := ⟨_, rfl⟩
      rw [hx] at hpl
      have hxl : x < many := by rw [hpl]; exact Nat.mod_lt _ hm
      have m5 : (r : Int) % (many : Int) = (x : Int) := by rw [hpl]; exact (Int.natCast_emod r many).symm
      have m6 : IntKind.i64.wrap (x : Int) = (x : Int) := by rw [IntKind.wrap_i64]; omega
      have hsu := HSU.out k
      rw [hx] at hsu
      have HS := Lib.hid hsu
      have hle := HLE.out k
      clear hsu hp hq hr hx hpl hkk
      have n1 : IntKind.u64.wrap ((k : Int) + 1) = ((k + 1 : Nat) : Int) := by rw [IntKind.wrap_u64]; omega
      go_wp2_with (at_builtin; (refine wpList_append_row 107 3 Tryz.underlying107 Tryz.info3 rfl (by decide) rfl _ _ rfl w.heap.size _ _ rfl (HO.out.fp (Fp.alloc _ _) (by simp)) _ (.int .i64 x) rfl rfl (by rw [cell_of_block (heap_alloc_at (by simp) _)]; rfl) (by omega) (by simp; omega) ?_); intro v2 w2 ho2 hb2; have HO2 := Lib.hid ho2; have HB2 := Lib.hid hb2; clear ho2 hb2)
      go_roundg (gk - 1)
      case measure => omega
      case rel => exact ⟨k + 1, _, by omega, rfl, by simp, by rw [HS.out]; exact HO2.out, (HF.out.alloc' _).belowTrans HB2.out⟩
    · obtain rfl : k = 4 := by omega
      have zk : ¬ ((4 : Nat) : Int) < 4 := by omega
      go_wp2_with (fail)
      go_ret
      exact ⟨va, rfl, HO.out, HF.out⟩

/-! one bit -/
def divK (x k : Nat) : Nat := x / 2 ^ k
theorem divK_zero (x : Nat) : divK x 0 = x := Nat.div_one x
theorem divK_succ (x k : Nat) : divK x (k + 1) = divK x k / 2 := by unfold divK; rw [Nat.pow_succ, Nat.div_div_eq_div_mul]
theorem divK_le (x k : Nat) : divK x k ≤ x := Nat.div_le_self _ _
set_option maxRecDepth 100000 in
set_option maxHeartbeats 4000000 in
theorem rbit_any (f : ByteArray) (i : Nat) (w : World) (hi : i < 8 * f.size) (hn : f.size ≤ 1000000) :
    Calls Tryz.prog 105 #[.string f, .int .i64 i] w fun e w' => e = .returned (.bool (bitAt f i)) ∧ Fp [] w w' := by
  obtain ⟨j, hje⟩ : ∃ j, i / 8 = j := ⟨_, rfl⟩
  obtain ⟨r, hre⟩ : ∃ r, i % 8 = r := ⟨_, rfl⟩
  have hj : j < f.size := by omega
  have e0 := atB_get f j hj
  have HBA : Hid (bitAt f i = decide (divK (atB f j).toNat r % 2 = 1)) := by unfold Hid bitAt divK; rw [hje, hre]
  have hx := (atB f j).toNat_lt
  obtain ⟨x, hxe⟩ : ∃ x, (atB f j).toNat = x := ⟨_, rfl⟩
  rw [hxe] at HBA hx
  have HI : Hid (∀ k, divK x (k + 1) = divK x k / 2) := fun k => divK_succ x k
  have HLE := Lib.hid (fun k => divK_le x k)
  have d1 : (i : Int) / 8 = (j : Int) := by omega
  have d2 : (i : Int) % 8 = (r : Int) := by omega
  have zj : (j : Int) < (f.size : Int) := by omega
  have hr8 : r < 8 := by omega
  have wx : IntKind.i64.wrap (x : Int) = (x : Int) := by rw [IntKind.wrap_i64]; omega
  clear hre hje
  go_enter Tryz.func105, Tryz.ntmps105
  go_wp2_with (fail)
  go_loopg [5, 6] r (fun g vn vk wr => ∃ k : Nat, g + k = r ∧ vn = .int .i64 (divK x k : Nat) ∧ vk = .int .i64 k ∧ Fp [] w wr)
  case atStart => exact ⟨0, by omega, by rw [divK_zero], rfl, Fp.refl _ _⟩
  case round =>
    obtain ⟨k, hg, rfl, rfl, hf⟩ := hrel
    have HF := Lib.hid hf
    clear hf
    have hle := HLE.out k
    by_cases hk : k < r
    · have zk : (k : Int) < (r : Int) := by omega
      have hs := HI.out k
      obtain ⟨y, hy⟩ : ∃ y, divK x k = y := ⟨_, rfl⟩
      rw [hy] at hs hle
      rw [hy]
      obtain ⟨z, hz⟩ : ∃ z, y / 2 = z := ⟨_, rfl⟩
      rw [hz] at hs
      have HS := Lib.hid hs
      have d3 : (y : Int) / 2 = (z : Int) := by omega
      have n1 : IntKind.i64.wrap ((k : Int) + 1) = ((k + 1 : Nat) : Int) := by rw [IntKind.wrap_i64]; omega
      clear hs hy hz
      go_wp2_with (fail)
      go_roundg (gk - 1)
      case measure => omega
      case rel => exact ⟨k + 1, by omega, by rw [HS.out], by simp, HF.out⟩
    · obtain rfl : k = r := by omega
      obtain ⟨y, hy⟩ : ∃ y, divK x k = y := ⟨_, rfl⟩
      rw [hy] at HBA hle
      rw [hy]
      clear hy
      obtain ⟨z, hz⟩ : ∃ z, y % 2 = z := ⟨_, rfl⟩
      rw [hz] at HBA
      have d3 : (y : Int) % 2 = (z : Int) := by omega
      clear hz
      by_cases ho : z = 1
      · subst ho
        have zo : (((1 : Nat) : Int) == 1) = true := by decide
        go_wp2_with (fail)
        go_ret
        exact ⟨by rw [HBA.out]; rfl, HF.out⟩
      · have zo : ((z : Int) == 1) = false := by rw [beq_eq_false_iff_ne]; omega
        go_wp2_with (fail)
        go_ret
        exact ⟨by rw [HBA.out, decide_eq_false ho]; rfl, HF.out⟩

/-! May -/
structure BitsAt (s : ByteArray) (many : Nat) (v : Value) (w : World) : Prop where
  ex : ∃ g cap, v = .slice (some ⟨g, 0, none⟩) 4 cap ∧ g < w.heap.size ∧ ∀ i, i < 4 → w.cell? ⟨g, i, none⟩ = some (.int .i64 (placeN s many i : Nat))
theorem BitsAt.of {s : ByteArray} {many base : Nat} {v : Value} {w : World} (h : OwnR 3 w base v (bitsV s many 4)) : ∃ g cap, v = .slice (some ⟨g, 0, none⟩) 4 cap ∧ base ≤ g ∧ g < w.heap.size ∧ ∀ w', Fp [] w w' → ∀ i, i < 4 → w'.cell? ⟨g, i, none⟩ = some (.int .i64 (placeN s many i : Nat)) := by
  rcases h.at with ⟨_, h1 | ⟨g, cap, h1, h0, h2, h3⟩⟩
  · have := bitsV_length s many 4
    rw [h1] at this
    exact absurd this (by decide)
  · rw [bitsV_length] at h1
    refine ⟨g, cap, h1, h0, h2, fun w' hf i hi => ?_⟩
    rw [hf.cell h2 (by simp), h3 i (by rw [bitsV_length]; exact hi)]
    unfold bitsV
    rw [List.getElem_map, List.getElem_range]

set_option maxRecDepth 100000 in
set_option maxHeartbeats 4000000 in
theorem rmay3_any (w : World) (f name : ByteArray) (hf : f.size ≤ 100000) (hname : name.size ≤ 100000) :
    Calls Tryz.prog 82 #[.string f, .string name] w fun e w' => e = .returned (.bool (mayP f name)) ∧ Fp [] w w' := by
  by_cases h0 : f.size = 0
  · have hm : mayP f name = true := by unfold mayP; rw [decide_eq_true h0]; rfl
    rw [hm]
    obtain rfl : f = ⟨#[]⟩ := ByteArray.ext (Array.eq_empty_of_size_eq_zero h0)
    go_enter Tryz.func82, Tryz.ntmps82
    go_wp2_with (fail)
    go_ret
    exact ⟨rfl, Fp.refl _ _⟩
  have hne : (f.toList == ([] : List UInt8)) = false := by
    rw [beq_eq_false_iff_ne]
    intro e
    apply h0
    have h2 := congrArg List.length e
    rw [ByteArray.toList_eq] at h2
    exact h2
  have HM : Hid (mayP f name = (List.range 4).all fun k => bitAt f (placeN name (8 * f.size) k)) := by unfold Hid mayP; rw [decide_eq_false h0]; rfl
  have HBI := Lib.hid (fun w => rbits_any name (8 * f.size) w hname (by omega) (by omega))
  have HPL : Hid (∀ k, placeN name (8 * f.size) k < 8 * f.size) := fun k => placeN_lt _ _ (by omega)
  have HBT := Lib.hid (fun i w hi => rbit_any f i w hi (by omega))
  obtain ⟨m8, hm8⟩ : ∃ m, 8 * f.size = m := ⟨_, rfl⟩
  rw [hm8] at HM HBI HPL HBT
  have zm8 : IntKind.i64.wrap (8 * (f.size : Int)) = (m8 : Int) := by rw [IntKind.wrap_i64]; omega
  clear hm8 h0
  go_enter Tryz.func82, Tryz.ntmps82
  go_wp2_with (fail)
  (with_reducible refine (HBI.out _).mono ?_)
  rintro e w1 ⟨v1, rfl, ho1, hf1⟩
  obtain ⟨g1, c1, rfl, _, _, hcells⟩ := BitsAt.of ho1
  have HF1 := Lib.hid hf1
  have HCE := Lib.hid hcells
  clear hf1 ho1 hcells
  go_wp2_with (fail)
  go_loopg [6] 4 (fun g vi wr => ∃ k : Nat, g + k = 4 ∧ vi = .int .i64 k ∧ (∀ j, j < k → bitAt f (placeN name m8 j) = true) ∧ Fp [] w1 wr)
  case atStart => exact ⟨0, by omega, rfl, fun j hj => absurd hj (Nat.not_lt_zero _), Fp.refl _ _⟩
  case round =>
    obtain ⟨k, hg, rfl, hall, hf⟩ := hrel
    have HF := Lib.hid hf
    have HAL := Lib.hid hall
    clear hf hall
    by_cases hk : k < 4
    · have zk : (k : Int) < 4 := by omega
      have q0 := HCE.out _ HF.out k hk
      have HB := Lib.hid (HBT.out _ wr (HPL.out k))
      have HBE : Hid (bitAt f (placeN name m8 k) = bitAt f (placeN name m8 k)) := rfl
      obtain ⟨bb, hbb⟩ : ∃ b, bitAt f (placeN name m8 k) = b := ⟨_, rfl⟩
      rw [hbb] at HB
      have HBB := Lib.hid hbb
      obtain ⟨x, hx⟩ : ∃ x, placeN name m8 k = x := ⟨_, rfl⟩
      rw [hx] at q0 HB
      have n1 : IntKind.i64.wrap ((k : Int) + 1) = ((k + 1 : Nat) : Int) := by rw [IntKind.wrap_i64]; omega
      clear HBE hbb hx
      go_wp2_with (fail)
      (with_reducible refine HB.out.mono ?_)
      rintro e w2 ⟨rfl, hf2⟩
      have HF2 := Lib.hid (HF.out.trans hf2 (by simp))
      clear hf2
      cases bb
      · go_wp2_with (fail)
        go_ret
        refine ⟨?_, HF1.out.trans HF2.out (by simp)⟩
        rw [HM.out]
        refine ret_bool (Eq.symm ?_)
        rw [List.all_eq_false]
        exact ⟨k, List.mem_range.2 hk, by rw [HBB.out]; decide⟩
      · go_wp2_with (fail)
        go_roundg (gk - 1)
        case measure => omega
        case rel =>
          refine ⟨k + 1, by omega, by simp, fun j hj => ?_, HF2.out⟩
          by_cases hj2 : j < k
          · exact HAL.out j hj2
          · obtain rfl : j = k := by omega
            exact HBB.out
    · obtain rfl : k = 4 := by omega
      have zk : ¬ ((4 : Nat) : Int) < 4 := by omega
      go_wp2_with (fail)
      go_ret
      refine ⟨?_, HF1.out.trans HF.out (by simp)⟩
      rw [HM.out]
      refine ret_bool (Eq.symm ?_)
      rw [List.all_eq_true]
      exact fun j hj => HAL.out j (List.mem_range.1 hj)
end

section
open Go.RowKit Go.Lib

/-! pure -/
def boolsOf (d : List UInt8) : List Bool := (List.range (8 * d.length)).map (bitL d)
theorem boolsOf_length (d : List UInt8) : (boolsOf d).length = 8 * d.length := by simp [boolsOf]
theorem boolsOf_get {d : List UInt8} {j : Nat} (h : j < (boolsOf d).length) : (boolsOf d)[j] = bitL d j := by
  simp only [boolsOf, List.getElem_map, List.getElem_range]
theorem boolsOf_set {d : List UInt8} {i : Nat} (h : i < 8 * d.length) : boolsOf (setBit d i) = (boolsOf d).set i true := by
  apply List.ext_getElem
  · rw [List.length_set, boolsOf_length, boolsOf_length, setBit_length]
  · intro j h1 h2
    rw [List.getElem_set, boolsOf_get, boolsOf_get, bit_set j h]
    by_cases e : i = j
    · rw [if_pos e, decide_eq_true e, Bool.or_true]
    · rw [if_neg e, decide_eq_false e, Bool.or_false]
theorem boolsOf_zero (n : Nat) : boolsOf (List.replicate n 0) = List.replicate (8 * n) false := by
  unfold boolsOf
  rw [List.length_replicate]
  apply List.ext_getElem
  · simp
  · intro j h1 h2
    rw [List.getElem_map, List.getElem_range, List.getElem_replicate]
    unfold bitL
    have : (List.replicate n (0 : UInt8)).getD (j / 8) 0 = 0 := by
      rw [List.getD_eq_getElem?_getD, List.getElem?_replicate]
      split <;> rfl
    rw [this]
    exact Nat.zero_testBit _
/-- bytes from their bits, from the highest place down to m -/
def packB (d : List UInt8) (m j : Nat) : Nat := (d.getD j 0).toNat / 2 ^ (m - 8 * j)
def packL (d : List UInt8) (m : Nat) : List UInt8 := (List.range d.length).map fun j => UInt8.ofNat (packB d m j)
theorem packL_length (d : List UInt8) (m : Nat) : (packL d m).length = d.length := by simp [packL]
theorem packB_lt (d : List UInt8) (m j : Nat) : packB d m j < 256 := Nat.lt_of_le_of_lt (Nat.div_le_self _ _) (UInt8.toNat_lt _)
theorem packB_high {d : List UInt8} {m j : Nat} (h : 8 * j + 8 ≤ m) : packB d m j = 0 := by
  unfold packB
  apply Nat.div_eq_of_lt
  refine Nat.lt_of_lt_of_le (UInt8.toNat_lt _) ?_
  show 2 ^ 8 ≤ 2 ^ (m - 8 * j)
  exact Nat.pow_le_pow_right (by decide) (by omega)
theorem packL_top (d : List UInt8) : packL d (8 * d.length) = List.replicate d.length 0 := by
  unfold packL
  apply List.ext_getElem
  · simp
  · intro j h1 h2
    rw [List.length_replicate] at h2
    rw [List.getElem_map, List.getElem_range, List.getElem_replicate, packB_high (by omega)]
    rfl
theorem packL_zero (d : List UInt8) : packL d 0 = d := by
  unfold packL
  apply List.ext_getElem
  · simp
  · intro j h1 h2
    rw [List.getElem_map, List.getElem_range]
    unfold packB
    rw [Nat.zero_sub, Nat.pow_zero, Nat.div_one, UInt8.ofNat_toNat, List.getD_eq_getElem?_getD, List.getElem?_eq_getElem h2]
    rfl
theorem packL_get {d : List UInt8} {m j : Nat} (h : j < d.length) : (packL d m).getD j 0 = UInt8.ofNat (packB d m j) := by
  rw [List.getD_eq_getElem?_getD, List.getElem?_eq_getElem (by rw [packL_length]; exact h)]
  unfold packL
  rw [List.getElem_map, List.getElem_range]
  rfl
theorem packB_down {d : List UInt8} {m : Nat} : packB d m (m / 8) = 2 * packB d (m + 1) (m / 8) + (if bitL d m = true then 1 else 0) := by
  unfold packB bitL
  rw [Nat.testBit_eq_decide_div_mod_eq, show m - 8 * (m / 8) = m % 8 by omega, show m + 1 - 8 * (m / 8) = m % 8 + 1 by omega, Nat.pow_succ, ← Nat.div_div_eq_div_mul]
  generalize (d.getD (m / 8) 0).toNat / 2 ^ (m % 8) = y
  by_cases h : y % 2 = 1
  · rw [if_pos (decide_eq_true h)]; omega
  · rw [if_neg (by rw [decide_eq_false h]; decide)]; omega
theorem packB_double (d : List UInt8) (m : Nat) : 2 * packB d (m + 1) (m / 8) + 1 < 256 := by
  unfold packB
  rw [show m + 1 - 8 * (m / 8) = m % 8 + 1 by omega, Nat.pow_succ', ← Nat.div_div_eq_div_mul]
  have h1 := UInt8.toNat_lt (d.getD (m / 8) 0)
  have h2 : (d.getD (m / 8) 0).toNat / 2 ≤ 127 := by omega
  have h3 := Nat.div_le_self ((d.getD (m / 8) 0).toNat / 2) (2 ^ (m % 8))
  have h4 : (d.getD (m / 8) 0).toNat / 2 / 2 ^ (m % 8) ≤ 127 := by omega
  omega
theorem packL_at {d : List UInt8} {m j : Nat} (h : j < (packL d m).length) : (packL d m)[j] = UInt8.ofNat (packB d m j) := by
  simp only [packL, List.getElem_map, List.getElem_range]
theorem packL_down {d : List UInt8} {m : Nat} : packL d m = (packL d (m + 1)).set (m / 8) (UInt8.ofNat (packB d m (m / 8))) := by
  apply List.ext_getElem
  · rw [List.length_set, packL_length, packL_length]
  · intro j h1 h2
    rw [packL_length] at h1
    rw [List.getElem_set, packL_at, packL_at]
    by_cases e : m / 8 = j
    · rw [if_pos e, e]
    · rw [if_neg e]
      congr 1
      by_cases hj : j < m / 8
      · rw [packB_high (by omega), packB_high (by omega)]
      · unfold packB
        rw [show m - 8 * j = 0 by omega, show m + 1 - 8 * j = 0 by omega]

/-! a block of bools -/
def BolAt (w : World) (g : Nat) (d : List Bool) : Prop := w.heap[g]? = some (.cells (d.map Value.bool).toArray 4 (0, 0))
theorem BolAt.cell {w : World} {g j : Nat} {d : List Bool} (h : BolAt w g d) (hj : j < d.length) : w.cell? ⟨g, j, none⟩ = some (.bool (d.getD j false)) := by
  rw [cell_of_block h]
  rw [List.getElem?_toArray, List.getElem?_map, List.getElem?_eq_getElem hj, List.getD_eq_getElem?_getD, List.getElem?_eq_getElem hj]
  rfl
theorem BolAt.free {w : World} {g : Nat} {d : List Bool} (h : BolAt w g d) (j : Nat) : w.frozen? ⟨g, j, none⟩ = false := frozen_of_block h j
theorem BolAt.set {w : World} {g j : Nat} {d : List Bool} {x : Bool} (h : BolAt w g d) : BolAt (w.setCell ⟨g, j, none⟩ (.bool x)) g (d.set j x) := by
  unfold BolAt
  rw [heap_setCell_same h]
  simp only [List.setIfInBounds_toArray]
  rw [← List.map_set]
theorem BolAt.fp {w w' : World} {g : Nat} {d : List Bool} {S : List Nat} (h : BolAt w g d) (hf : Fp S w w') (hs : g ∉ S) : BolAt w' g d := (hf.block g (heap_lt h) hs).trans h
theorem FilAt.setN {w : World} {g j n : Nat} {d : List UInt8} (h : FilAt w g d) (hn : n < 256) : FilAt (w.setCell ⟨g, j, none⟩ (.int .u8 n)) g (d.set j (UInt8.ofNat n)) := by
  have := h.set (j := j) (x := UInt8.ofNat n)
  rw [show (Value.int .u8 ((UInt8.ofNat n).toNat : Int)) = byteV (UInt8.ofNat n) from rfl, byteV_ofNat hn] at this
  exact this
theorem make_bools (w : World) (n : Nat) (hn : n ≤ 1000000) : (Instr.makeSlice 106 (.int .i64 n) (.int .i64 n)).run Tryz.prog w = .ok (.slice (some ⟨w.heap.size, 0, none⟩) n n) (w.alloc (.cells ((List.replicate n false).map Value.bool).toArray 4)) := by
  have h := run_makeSlice (P := Tryz.prog) w 106 4 Tryz.t4 (.bool false) Tryz.underlying106 (by kernel_rfl) (by kernel_rfl) .i64 .i64 n n (by omega) (Int.le_refl _) (by show (n : Int).toNat * 1 ≤ _; omega) (by show ((1 : Nat) : Int) * n ≤ _; omega) (by omega)
  change _ = Result.ok _ (w.alloc (.cells (madeCells (Value.bool false).cells ((n : Int).toNat * 1)) 4)) at h
  rw [h, Int.toNat_natCast, Nat.mul_one]
  rw [show (Value.bool false).cells = #[Value.bool false] from rfl, made_one', List.map_replicate]

set_option maxRecDepth 100000 in
set_option maxHeartbeats 8000000 in
theorem rmake_any (w : World) (v : Value) (base : Nat) (names : List ByteArray) (hv : OwnS w base v names) (hn : names.length ≤ 2000) (hsm : ∀ s ∈ names, s.size ≤ 100000) :
    Calls Tryz.prog 35 #[v, .int .i64 10] w fun e w' => e = .returned (.tuple #[.string (bloomP names), .int .i64 0]) ∧ Fp [] w w' := by
  obtain ⟨⟨a, cap, rfl⟩, hat⟩ := hv.at
  have HAT := Lib.hid hat
  have HSM := Lib.hid hsm
  obtain ⟨nl, hnl⟩ : ∃ nl, names.length = nl := ⟨_, rfl⟩
  obtain ⟨n, hn2⟩ : ∃ n, bloomN nl = n := ⟨_, rfl⟩
  have hnv : n = max ((nl * 10 + 7) / 8) 8 := by rw [← hn2]; rfl
  have n1 : IntKind.i64.wrap ((nl : Int) * 10) = ((nl * 10 : Nat) : Int) := by rw [IntKind.wrap_i64]; omega
  obtain ⟨m1, hm1⟩ : ∃ m, nl * 10 = m := ⟨_, rfl⟩
  rw [hm1] at n1
  have n2 : IntKind.i64.wrap ((m1 : Int) + 7) = ((m1 + 7 : Nat) : Int) := by rw [IntKind.wrap_i64]; omega
  obtain ⟨m2, hm2⟩ : ∃ m, m1 + 7 = m := ⟨_, rfl⟩
  rw [hm2] at n2
  obtain ⟨m3, hm3⟩ : ∃ m, m2 / 8 = m := ⟨_, rfl⟩
  have n3 : (m2 : Int) / 8 = (m3 : Int) := by omega
  have n4 : max (m3 : Int) 8 = (n : Int) := by omega
  have hn8 : 8 ≤ n := by omega
  have hnb : n ≤ 100000 := by omega
  clear hm1 hm2 hm3 hnv hv hat hsm
  have zn : ¬ (nl : Int) > 2000 := by omega
  have n5 : IntKind.i64.wrap (8 * (n : Int)) = ((8 * n : Nat) : Int) := by rw [IntKind.wrap_i64]; omega
  have HB0 := Lib.hid (boolsOf_zero n)
  have HPT : Hid (∀ d : List UInt8, d.length = n → packL d (8 * n) = List.replicate n 0) := fun d hd => by rw [← hd]; exact packL_top d
  have HPL : Hid (∀ s k, placeN s (8 * n) k < 8 * n) := fun s k => placeN_lt _ _ (by omega)
  have HLN : Hid (∀ k, (bloomL names k).length = n) := fun k => by rw [bloomL_length, hnl, hn2]
  have HBLN : Hid (∀ d : List UInt8, d.length = n → (boolsOf d).length = 8 * n) := fun d hd => by rw [boolsOf_length, hd]
  have HBSET : Hid (∀ (d : List UInt8) i, d.length = n → i < 8 * n → boolsOf (setBit d i) = (boolsOf d).set i true) := fun d i hd hi => boolsOf_set (by rw [hd]; exact hi)
  have HSPS : Hid (∀ s d k, d.length = n → setPlaces s d (k + 1) = setBit (setPlaces s d k) (placeN s (8 * n) k)) := fun s d k hd => by rw [setPlaces_succ, setPlaces_length, hd]
  have HPD : Hid (∀ (d : List UInt8) m, d.length = n → m < 8 * n → packL d m = (packL d (m + 1)).set (m / 8) (UInt8.ofNat (packB d m (m / 8)))) := fun _ _ _ _ => packL_down
  have HBIT : Hid (∀ s w, s.size ≤ 100000 → Calls Tryz.prog 75 #[.string s, .int .i64 ((8 * n : Nat) : Int)] w fun e w' => ∃ v, e = .returned v ∧ OwnR 3 w' w.heap.size v (bitsV s (8 * n) 4) ∧ Fp [] w w') := fun s w hs => rbits_any s (8 * n) w hs (by omega) (by omega)
  have h8n : 8 * (n / 1) = 8 * n := by omega
  obtain ⟨n8, hn8e⟩ : ∃ n8, 8 * n = n8 := ⟨_, rfl⟩
  rw [hn8e] at n5 HB0 HPT HPL HBLN HBSET HSPS HPD HBIT
  have h64 : 64 ≤ n8 := by omega
  have hn8b : n8 ≤ 800000 := by omega
  have HDV : Hid (∀ m, m < n8 → m / 8 < n) := fun m hm => by omega
  rw [hnl]
  have hmk := make_bools w n8 (by omega)
  have hbol : BolAt (w.alloc (.cells ((List.replicate n8 false).map Value.bool).toArray 4)) w.heap.size (List.replicate n8 false) := heap_alloc_at rfl _
  have hfw := Fp.alloc w (.cells ((List.replicate n8 false).map Value.bool).toArray 4)
  obtain ⟨w1, hw1⟩ : ∃ w1, w.alloc (.cells ((List.replicate n8 false).map Value.bool).toArray 4) = w1 := ⟨_, rfl⟩
  rw [hw1] at hmk hbol hfw
  have HBOL := Lib.hid hbol
  have HFW := Lib.hid hfw
  have hsz1 : w.heap.size < w1.heap.size := heap_lt hbol
  clear hw1 hbol hfw h8n
  go_enter Tryz.func35, Tryz.ntmps35
  go_wp2_with (fail)
  go_loopg [8] nl (fun g vi wr => ∃ k : Nat, g + k = nl ∧ vi = .int .i64 k ∧ BolAt wr w.heap.size (boolsOf (bloomL names k)) ∧ Fp [] w wr)
  case atStart =>
    refine ⟨0, by omega, rfl, ?_, HFW.out⟩
    have e : bloomL names 0 = List.replicate n 0 := by unfold bloomL; rw [hnl, hn2]; rfl
    rw [e, HB0.out]
    exact HBOL.out
  case round =>
    obtain ⟨k, hg, rfl, hbo, hf⟩ := hrel
    have HBO := Lib.hid hbo
    have HF := Lib.hid hf
    clear hbo hf
    have hwr : w.heap.size < wr.heap.size := heap_lt HBO.out
    by_cases hk : k < nl
    · have zk : (k : Int) < (nl : Int) := by omega
      have hkn : k < names.length := by rw [hnl]; exact hk
      have HBS := Lib.hid (bloomL_succ names hkn)
      have HLK := Lib.hid (HLN.out k)
      obtain ⟨s, hs⟩ : ∃ s, names[k] = s := ⟨_, rfl⟩
      have hss : s.size ≤ 100000 := by rw [← hs]; exact HSM.out _ (List.getElem_mem hkn)
      rw [hs] at HBS
      have hat2 : ∃ g0 cap0, a = some ⟨g0, 0, none⟩ ∧ cap = cap0 ∧ wr.cell? ⟨g0, k, none⟩ = some (.string s) := by
        rcases HAT.out with h | ⟨g0, c0, e0, _, hlt, hc⟩
        · rw [h] at hnl; simp at hnl; omega
        · injection e0 with e1 _ e3
          refine ⟨g0, c0, e1, e3, ?_⟩
          rw [HF.out.cell (p := ⟨g0, k, none⟩) hlt (by simp), hc k hkn, hs]
      obtain ⟨g0, cap0, rfl, rfl, q0⟩ := hat2
      obtain ⟨d, hd⟩ : ∃ d, bloomL names k = d := ⟨_, rfl⟩
      rw [hd] at HBO HBS HLK
      have HBI := Lib.hid (HBIT.out s wr hss)
      have n9 : IntKind.i64.wrap ((k : Int) + 1) = ((k + 1 : Nat) : Int) := by rw [IntKind.wrap_i64]; omega
      clear hs hd hss hkn
      go_wp2_with (fail)
      (with_reducible refine HBI.out.mono ?_)
      rintro e w2 ⟨v2, rfl, ho2, hf2⟩
      obtain ⟨g2, c2, rfl, hg2, _, hcells⟩ := BitsAt.of ho2
      have HCE := Lib.hid hcells
      have HF2 := Lib.hid (HF.out.trans hf2 (by simp))
      have HBO2 := Lib.hid (HBO.out.fp hf2 (by simp))
      have HF2' := Lib.hid hf2
      have hw2 : w.heap.size < w2.heap.size := heap_lt HBO2.out
      have hne2 : g2 ≠ w.heap.size := by omega
      clear hf2 ho2 hcells
      go_wp2_with (fail)
      go_loopg [10] 4 (fun g vi wt => ∃ j : Nat, g + j = 4 ∧ vi = .int .i64 j ∧ BolAt wt w.heap.size (boolsOf (setPlaces s d j)) ∧ Fp [w.heap.size] w2 wt)
      case atStart => exact ⟨0, by omega, rfl, HBO2.out, Fp.refl _ _⟩
      case round =>
        obtain ⟨j, hg3, rfl, hbo3, hf3⟩ := hrel
        have HBO3 := Lib.hid hbo3
        have HF3 := Lib.hid hf3
        clear hbo3 hf3
        by_cases hj : j < 4
        · have zj : (j : Int) < 4 := by omega
          have q1 : (wr_ : World) → True := fun _ => trivial
          have q2 := (HF3.out.cell (p := ⟨g2, j, none⟩) (World.block_lt_of_cell? _ _ (HCE.out _ (Fp.refl _ _) j hj)) (by simpa using hne2)).trans (HCE.out _ (Fp.refl _ _) j hj)
          have hpl := HPL.out s j
          have HSP := Lib.hid (HSPS.out s d j HLK.out)
          have hsl : (setPlaces s d j).length = n := by rw [setPlaces_length]; exact HLK.out
          have HST := Lib.hid (HBSET.out (setPlaces s d j) (placeN s n8 j) hsl hpl)
          have hbl := HBLN.out _ hsl
          obtain ⟨x, hx⟩ : ∃ x, placeN s n8 j = x := ⟨_, rfl⟩
          rw [hx] at q2 hpl HSP HST
          have zx : (x : Int) < (n8 : Int) := by omega
          have z0 := HBO3.out.free x
          have c0 := HBO3.out.cell (j := x) (by rw [hbl]; exact hpl)
          have n10 : IntKind.i64.wrap ((j : Int) + 1) = ((j + 1 : Nat) : Int) := by rw [IntKind.wrap_i64]; omega
          clear hx hsl hbl q1
          go_wp2_with (fail)
          go_roundg (4 - (j + 1))
          case measure => omega
          case rel => exact ⟨j + 1, by omega, by simp, by rw [HSP.out, HST.out]; exact HBO3.out.set, HF3.out.setCell' (Or.inl (by simp)) _⟩
        · obtain rfl : j = 4 := by omega
          have zj : ¬ ((4 : Nat) : Int) < 4 := by omega
          go_wp2_with (fail)
          go_roundg (nl - (k + 1))
          case measure => omega
          case rel => exact ⟨k + 1, by omega, by simp, by rw [HBS.out]; exact HBO3.out, HF2.out.trans HF3.out (by simp)⟩
    · obtain rfl : k = nl := by omega
      have zk : ¬ (k : Int) < (k : Int) := by omega
      have HLK := Lib.hid (HLN.out k)
      have HBP : Hid (bloomP names = bl (bloomL names k)) := by unfold Hid bloomP; rw [hnl]
      obtain ⟨d, hd⟩ : ∃ d, bloomL names k = d := ⟨_, rfl⟩
      rw [hd] at HBO HLK HBP
      have hmk2 := make_row wr n hnb
      have hfil : FilAt (wr.alloc (.cells ((List.replicate n (0 : UInt8)).map byteV).toArray 5)) wr.heap.size (List.replicate n 0) := heap_alloc_at rfl _
      have hfw2 := Fp.alloc wr (.cells ((List.replicate n (0 : UInt8)).map byteV).toArray 5)
      obtain ⟨w3, hw3⟩ : ∃ w3, wr.alloc (.cells ((List.replicate n (0 : UInt8)).map byteV).toArray 5) = w3 := ⟨_, rfl⟩
      rw [hw3] at hmk2 hfil hfw2
      have HFIL := Lib.hid hfil
      have HFW2 := Lib.hid hfw2
      have HBO3 := Lib.hid (HBO.out.fp hfw2 (by simp))
      obtain ⟨b3, hb3⟩ : ∃ b, wr.heap.size = b := ⟨_, rfl⟩
      rw [hb3] at hmk2 HFIL hwr
      have n12 : IntKind.i64.wrap ((n8 : Int) - 1) = (n8 : Int) - 1 := by rw [IntKind.wrap_i64]; omega
      clear hd hw3 hfil hfw2 hb3
      go_wp2_with (fail)
      go_loopg [12] n8 (fun g vi wt => ∃ i : Int, vi = .int .i64 i ∧ i = (g : Int) - 1 ∧ g ≤ n8 ∧ FilAt wt b3 (packL d g) ∧ Fp [b3] w3 wt)
      case atStart => exact ⟨_, rfl, rfl, Nat.le_refl _, by rw [HPT.out d HLK.out]; exact HFIL.out, Fp.refl _ _⟩
      case round =>
        obtain ⟨i, rfl, hi, hgn, hfl, hf3⟩ := hrel
        have HFL := Lib.hid hfl
        have HF3 := Lib.hid hf3
        have HBO4 := Lib.hid (HBO3.out.fp hf3 (by simp; omega))
        clear hfl hf3
        cases gk with
        | zero =>
          have zi : ¬ i ≥ 0 := by omega
          have HPZ := Lib.hid (packL_zero d)
          have hcv := HFL.out.str (cap := n)
          rw [HPZ.out, show d.length = n from HLK.out] at hcv
          obtain ⟨r, hr⟩ : ∃ r, bl d = r := ⟨_, rfl⟩
          rw [hr] at hcv HBP
          clear hr hi
          go_wp2_with (fail)
          go_ret2
          exact ⟨by rw [HBP.out]; rfl, (HF.out.trans HFW2.out (by simp)).trans HF3.out (by intro i hi; right; simp at hi; omega)⟩
        | succ m =>
          obtain rfl : i = (m : Int) := by omega
          have hm8 : m < n8 := by omega
          have hjn := HDV.out m hm8
          have HD := Lib.hid (HPD.out d m HLK.out hm8)
          have HDN := Lib.hid (packB_down (d := d) (m := m))
          have hdd := packB_double d m
          have hcb := HBO4.out.cell (j := m) (by rw [HBLN.out d HLK.out]; exact hm8)
          have hbd : (boolsOf d).getD m false = bitL d m := by
            rw [List.getD_eq_getElem?_getD, List.getElem?_eq_getElem (by rw [HBLN.out d HLK.out]; exact hm8)]
            unfold boolsOf
            rw [Option.getD_some, List.getElem_map, List.getElem_range]
          rw [hbd] at hcb
          have hcf := HFL.out.cell (j := m / 8) (by rw [packL_length, HLK.out]; exact hjn)
          rw [packL_get (by rw [HLK.out]; exact hjn)] at hcf
          have hbv := byteV_ofNat (packB_lt d (m + 1) (m / 8))
          rw [show byteV (UInt8.ofNat (packB d (m + 1) (m / 8))) = Value.int .u8 ((UInt8.ofNat (packB d (m + 1) (m / 8))).toNat : Int) from rfl] at hbv
          rw [hbv] at hcf
          have hfr := HFL.out.free (m / 8)
          have hplen : (packL d (m + 1)).length = n := by rw [packL_length, HLK.out]
          obtain ⟨j, hje⟩ : ∃ j, m / 8 = j := ⟨_, rfl⟩
          rw [hje] at hjn HD HDN hdd hcf hfr
          obtain ⟨y, hy⟩ : ∃ y, packB d (m + 1) j = y := ⟨_, rfl⟩
          rw [hy] at HDN hdd hcf
          obtain ⟨y2, hy2⟩ : ∃ y2, 2 * y = y2 := ⟨_, rfl⟩
          rw [hy2] at HDN hdd
          have zi : (m : Int) ≥ 0 := by omega
          have d1 : (m : Int) / 8 = (j : Int) := by omega
          have zj : (j : Int) < (n : Int) := by omega
          have zm : (m : Int) < (n8 : Int) := by omega
          have u1 : IntKind.u8.wrap ((y : Int) * 2) = (y2 : Int) := by rw [IntKind.wrap_u8]; omega
          have u2 : IntKind.u8.wrap ((y2 : Int) + 1) = ((y2 + 1 : Nat) : Int) := by rw [IntKind.wrap_u8]; omega
          have n13 : IntKind.i64.wrap ((m : Int) - 1) = (m : Int) - 1 := by rw [IntKind.wrap_i64]; omega
          have HS1 := Lib.hid (HFL.out.setN (j := j) (n := y2) (by omega))
          have HF4 := Lib.hid (HF3.out.setCell' (p := ⟨b3, j, none⟩) (Or.inl (by simp)) (.int .u8 y2))
          have hcf2 := HS1.out.cell (j := j) (by rw [List.length_set, hplen]; exact hjn)
          rw [List.getD_eq_getElem?_getD, List.getElem?_set_self (by rw [hplen]; exact hjn), Option.getD_some] at hcf2
          have hbv2 := byteV_ofNat (n := y2) (by omega)
          rw [show byteV (UInt8.ofNat y2) = Value.int .u8 ((UInt8.ofNat y2).toNat : Int) from rfl] at hbv2
          rw [hbv2] at hcf2
          have hfr2 := HS1.out.free j
          have hcb2 := (HBO4.out.fp (Fp.setCell _ ⟨b3, j, none⟩ (.int .u8 y2)) (by simp; omega)).cell (j := m) (by rw [HBLN.out d HLK.out]; exact hm8)
          rw [hbd] at hcb2
          clear hje hy hy2 hbd hbv hbv2 hplen hi
          obtain ⟨bb, hbb⟩ : ∃ b, bitL d m = b := ⟨_, rfl⟩
          rw [hbb] at hcb hcb2 HDN
          clear hbb
          cases bb
          · go_wp2_with (fail)
            go_roundg m
            case measure => omega
            case rel =>
              refine ⟨_, rfl, rfl, by omega, ?_, HF4.out⟩
              rw [HD.out, HDN.out]
              exact HS1.out
          · go_wp2_with (fail)
            go_roundg m
            case measure => omega
            case rel =>
              refine ⟨_, rfl, rfl, by omega, ?_, HF4.out.setCell' (Or.inl (by simp)) _⟩
              rw [HD.out, HDN.out]
              have h := HS1.out.setN (j := j) (n := y2 + 1) (by omega)
              rw [List.set_set] at h
              exact h
end

section
open Go.RowKit Go.Lib

/-! Parts -/
def rpartV (b o len cap k : Nat) : Value := .slice (some ⟨b, o + 8 * k * 6, none⟩) (min 8 (len - 8 * k)) (cap - 8 * k)
def rpartsV (b o len cap k : Nat) : List Value := (List.range k).map (rpartV b o len cap)
theorem rpartsV_succ (b o len cap k : Nat) : rpartsV b o len cap (k + 1) = rpartsV b o len cap k ++ [rpartV b o len cap k] := by
  unfold rpartsV
  rw [List.range_succ, List.map_append]
  rfl
theorem rpartsV_length (b o len cap k : Nat) : (rpartsV b o len cap k).length = k := by simp [rpartsV]
theorem rpartsV_at {b o len cap m k : Nat} (h : k < (rpartsV b o len cap m).length) : (rpartsV b o len cap m)[k] = rpartV b o len cap k := by
  simp only [rpartsV, List.getElem_map, List.getElem_range]

set_option maxRecDepth 100000 in
set_option maxHeartbeats 8000000 in
theorem rparts_any (w : World) (b o len cap : Nat) (hlc : len ≤ cap) (hlm : len ≤ 1000000000) :
    Calls Tryz.prog 30 #[.slice (some ⟨b, o, none⟩) len cap] w fun e w' => ∃ v, e = .returned v ∧ OwnR 22 w' w.heap.size v (rpartsV b o len cap ((len + 7) / 8)) ∧ Fp [] w w' := by
  obtain ⟨m, hm⟩ : ∃ m, (len + 7) / 8 = m := ⟨_, rfl⟩
  have hm1 : 8 * m ≤ len + 7 := by omega
  have hm2 : len ≤ 8 * m := by omega
  rw [hm]
  clear hm
  have HSU := Lib.hid (fun k => rpartsV_succ b o len cap k)
  have HLE := Lib.hid (fun k => rpartsV_length b o len cap k)
  go_enter Tryz.func30, Tryz.ntmps30
  go_wp2_with (fail)
  go_loopg [0, 3] m (fun g vl va wr => ∃ (k : Nat) (v : Value) (a : Option Addr) (ca : Nat), g + k = m ∧ v = va ∧ vl = .slice a (len - 8 * k) ca ∧ (8 * k < len → a = some ⟨b, o + 8 * k * 6, none⟩ ∧ ca = cap - 8 * k) ∧ OwnR 22 wr w.heap.size v (rpartsV b o len cap k) ∧ Fp [] w wr)
  case atStart => exact ⟨0, _, _, _, by omega, rfl, rfl, fun _ => ⟨rfl, rfl⟩, OwnR.made _ w _ (Nat.le_refl _), Fp.alloc _ _⟩
  case round =>
    obtain ⟨k, va, a, ca, hg, rfl, rfl, ha, ho, hf⟩ := hrel
    have HF := Lib.hid hf
    have HO := Lib.hid ho
    clear hf ho
    have hbw : w.heap.size ≤ wr.heap.size := HF.out.size
    by_cases hk : k < m
    · have hkl : 8 * k < len := by omega
      obtain ⟨rfl, rfl⟩ := ha hkl
      have hsu := HSU.out k
      have hle := HLE.out k
      have hpv : rpartV b o len cap k = .slice (some ⟨b, o + 8 * k * 6, none⟩) (min 8 (len - 8 * k)) (cap - 8 * k) := rfl
      obtain ⟨x, hx⟩ : ∃ x, len - 8 * k = x := ⟨_, rfl⟩
      obtain ⟨y, hy⟩ : ∃ y, min 8 x = y := ⟨_, rfl⟩
      obtain ⟨c, hc⟩ : ∃ c, cap - 8 * k = c := ⟨_, rfl⟩
      obtain ⟨o2, ho2⟩ : ∃ q, o + 8 * k * 6 = q := ⟨_, rfl⟩
      rw [hx, hy, hc, ho2] at hpv
      rw [hpv] at hsu
      have HS := Lib.hid hsu
      have zx : (x : Int) > 0 := by omega
      have zy : min 8 (x : Int) = (y : Int) := by omega
      have zyx : (y : Int) ≤ (x : Int) := by omega
      have zyc : (y : Int) ≤ (c : Int) := by omega
      have hyx : y ≤ x := by omega
      have hxc : x ≤ c := by omega
      have zxc : (x : Int) ≤ (c : Int) := by omega
      have hy8 : y ≤ 8 := by omega
      have hx8 : len - 8 * (k + 1) = x - y := by omega
      have HX : Hid (len - 8 * (k + 1) = x - y) := hx8
      have HC8 : Hid (y = 8 ∨ x - y = 0) := by unfold Hid; omega
      have HX2 := Lib.hid hx
      have HC2 := Lib.hid hc
      have HOO := Lib.hid ho2
      rw [hx, hc, ho2]
      clear hx hc ho2 hy hsu hpv ha hx8
      by_cases hcy : c = y
      · subst hcy
        go_wp2_with (at_builtin; (refine wpList_append_row 46 22 Tryz.underlying46 Tryz.infoP rfl (by decide) rfl _ _ rfl w.heap.size _ _ rfl (HO.out.fp (Fp.alloc _ _) (by simp)) _ (.slice (some ⟨b, o2, none⟩) c c) rfl rfl (by rw [cell_of_block (heap_alloc_at (by simp) _)]; rfl) (by omega) (by simp; omega) ?_); intro v2 w2 ho2 hb2; have HO2 := Lib.hid ho2; have HB2 := Lib.hid hb2; clear ho2 hb2)
        go_roundg (gk - 1)
        case measure => omega
        case rel =>
          have hx1 := HX.out
          have hcz := HC2.out
          exact ⟨k + 1, _, some ⟨b, o2, none⟩, 0, by omega, rfl, by rw [hx1, show x - c = 0 by omega], fun h => absurd h (by omega), by rw [HS.out]; exact HO2.out, (HF.out.alloc' _).belowTrans HB2.out⟩
      · have HN := Lib.hid hcy
        go_wp2_with (at_builtin; (refine wpList_append_row 46 22 Tryz.underlying46 Tryz.infoP rfl (by decide) rfl _ _ rfl w.heap.size _ _ rfl (HO.out.fp (Fp.alloc _ _) (by simp)) _ (.slice (some ⟨b, o2, none⟩) y c) rfl rfl (by rw [cell_of_block (heap_alloc_at (by simp) _)]; rfl) (by omega) (by simp; omega) ?_); intro v2 w2 ho2 hb2; have HO2 := Lib.hid ho2; have HB2 := Lib.hid hb2; clear ho2 hb2)
        go_roundg (gk - 1)
        case measure => omega
        case rel =>
          have hx1 := HX.out
          have hcz := HC2.out
          have hxz := HX2.out
          have hoz := HOO.out
          have h8 := HC8.out
          exact ⟨k + 1, _, _, _, by omega, rfl, by rw [hx1], fun h => ⟨by rw [← hoz, show y = 8 by omega, show o + 8 * (k + 1) * 6 = o + 8 * k * 6 + 8 * 6 by omega], by omega⟩, by rw [HS.out]; exact HO2.out, (HF.out.alloc' _).belowTrans HB2.out⟩
    · obtain rfl : k = m := by omega
      have hx : len - 8 * k = 0 := by omega
      rw [hx]
      go_wp2_with (fail)
      go_ret
      exact ⟨va, rfl, HO.out, HF.out⟩

/-! put -/
theorem rput5_any (s : ByteArray) (w : World) (hs : s.size ≤ 100000000) :
    Calls Tryz.prog 32 #[.string s] w fun e w' => e = .returned (.string (recP s)) ∧ Fp [] w w' := by
  have HP := Lib.hid (rput_any s w hs)
  have HR : Hid (recP s = (putP s).1) := rfl
  obtain ⟨⟨x, n⟩, hx⟩ : ∃ x, putP s = x := ⟨_, rfl⟩
  rw [hx] at HP HR
  clear hx
  go_enter Tryz.func32, Tryz.ntmps32
  go_wp2_with (fail)
  (with_reducible refine HP.out.mono ?_)
  rintro e w1 ⟨rfl, hf1⟩
  have HF1 := Lib.hid hf1
  clear hf1
  go_wp2_with (fail)
  go_ret
  exact ⟨by rw [HR.out]; rfl, HF1.out⟩

/-! Build -/
theorem leB4 (n : Nat) : leB n 4 = bl (quad n) := by
  unfold leB quad
  congr 1
  simp [leL, byteN, List.range_succ]
theorem leB8 (n : Nat) : bl (numL n false) = leB n 8 := rfl
theorem leB2 (n : Nat) : leB n 2 = bl [UInt8.ofNat n, UInt8.ofNat (n / 256)] := by
  unfold leB
  congr 1
  simp [leL, byteN, List.range_succ]

theorem foot_size5 (f : Foot) : f.text.size = 20 := by
  unfold Foot.text
  rw [ByteArray.size_append, ByteArray.size_append, ByteArray.size_append, leB_size, leB_size, leB_size, leB_size]
theorem bl_append_data (a : List UInt8) (b : ByteArray) : bl a ++ b = bl (a ++ b.data.toList) := by
  apply ByteArray.ext
  apply Array.ext'
  simp [bl]

set_option maxRecDepth 100000 in
set_option maxHeartbeats 16000000 in
theorem rbuild5_any (w : World) (a : Option Addr) (len cap : Nat) (l : List Cel) (seq : Nat) (hl : CelsAt w a len l) (hlc : len ≤ cap) (hq : seq < 18446744073709551616) :
    Calls Tryz.prog 8 #[.slice a len cap, .int .u64 seq] w fun e w' => e = .returned (.tuple #[.string (buildT l seq).1, .int .i64 ((buildT l seq).2 : Nat)]) ∧ Fp [] w w' := by
  have HL := Lib.hid hl
  have HLN := Lib.hid hl.len
  by_cases h1 : len > 2000
  · have hb : buildT l seq = (⟨#[]⟩, 71) := if_pos (by rw [← hl.len]; exact h1)
    rw [hb]
    have z : (len : Int) > 2000 := by omega
    clear hl hb
    go_enter Tryz.func8, Tryz.ntmps8
    go_wp2_with (fail)
    go_ret2
    exact ⟨rfl, Fp.refl _ _⟩
  by_cases h2 : len = 0
  · have hb : buildT l seq = (⟨#[]⟩, 1) := by unfold buildT; rw [if_neg (by rw [← hl.len]; exact h1), if_pos (by rw [← hl.len]; exact h2)]
    rw [hb]
    subst h2
    clear hl hb
    go_enter Tryz.func8, Tryz.ntmps8
    go_wp2_with (fail)
    go_ret2
    exact ⟨rfl, Fp.refl _ _⟩
  have hb : buildT l seq = if errK l (manyP l) ≠ 0 then (⟨#[]⟩, errK l (manyP l)) else if risC l = false then (⟨#[]⟩, 40) else (fileB l seq, 0) := by
    unfold buildT; rw [if_neg (by rw [← hl.len]; exact h1), if_neg (by rw [← hl.len]; exact h2)]
  have HB := Lib.hid hb
  have y1 : ¬ (len : Int) > 2000 := by omega
  have y2 : ((len : Int) == 0) = false := by rw [beq_eq_false_iff_ne]; omega
  obtain ⟨b, o, rfl⟩ : ∃ b o, a = some ⟨b, o, none⟩ := by
    rcases hl.cells with h0 | ⟨b, o, e, _⟩
    · rw [h0] at hl; have := hl.len; simp at this; omega
    · exact ⟨b, o, e⟩
  have HPT := Lib.hid (fun w => rparts_any w b o len cap hlc (by omega))
  obtain ⟨m, hmm⟩ : ∃ m, manyP l = m := ⟨_, rfl⟩
  have hm8 : (len + 7) / 8 = m := by rw [← hmm, manyP, hl.len]
  rw [hm8] at HPT
  have hm8a : 8 * m < len + 8 := by omega
  have hm8b : len ≤ 8 * m := by omega
  have HMM := Lib.hid hmm
  clear hl hb hmm hm8
  go_enter Tryz.func8, Tryz.ntmps8
  go_wp2_with (fail)
  (with_reducible refine (HPT.out _).mono ?_)
  rintro e w1 ⟨v1, rfl, ho1, hf1⟩
  have hpl := rpartsV_length b o len cap m
  obtain ⟨-, h1e | ⟨g1, c1, rfl, hg1, hgl1, hcs⟩⟩ := ho1.at
  · rw [h1e] at hpl; simp at hpl; omega
  rw [hpl]
  have HCS : Hid (∀ k, k < m → w1.cell? ⟨g1, k, none⟩ = some (.slice (some ⟨b, o + 8 * k * 6, none⟩) (min 8 (len - 8 * k)) (cap - 8 * k))) := by
    intro k hk
    have h := hcs k (by rw [hpl]; exact hk)
    rw [rpartsV_at] at h
    exact h
  have HF1 := Lib.hid hf1
  obtain ⟨p0, hp0⟩ : ∃ p, m % 256 = p := ⟨_, rfl⟩
  obtain ⟨p1, hp1⟩ : ∃ p, m / 256 = p := ⟨_, rfl⟩
  have e0 : (m : Int) % 256 = (p0 : Int) := by omega
  have e1 : (m : Int) / 256 = (p1 : Int) := by omega
  have l0 : p0 < 256 := by omega
  have l1 : p1 < 256 := by omega
  have w0 : IntKind.u8.wrap (p0 : Int) = (p0 : Int) := by rw [IntKind.wrap_u8]; omega
  have w1' : IntKind.u8.wrap (p1 : Int) = (p1 : Int) := by rw [IntKind.wrap_u8]; omega
  have HI0 : Hid (idxB l 0 = bl [UInt8.ofNat p0, UInt8.ofNat p1]) := by
    unfold Hid
    show leB (manyP l) 2 = _
    rw [HMM.out, leB2, ← hp0, ← hp1]
    have ofm : UInt8.ofNat (m % 256) = UInt8.ofNat m := by
      apply UInt8.toNat_inj.1
      rw [UInt8.toNat_ofNat', UInt8.toNat_ofNat']
      omega
    rw [ofm]
  have cv := conv2 (w := w1.alloc (.cells #[.int .u8 p0, .int .u8 p1] 5)) (g := w1.heap.size) (heap_alloc_at rfl _) l0 l1
  rw [← HI0.out] at cv
  obtain ⟨ix0, hix0⟩ : ∃ r, idxB l 0 = r := ⟨_, rfl⟩
  rw [hix0] at cv
  have HIX0 := Lib.hid hix0
  clear hp0 hp1 hcs ho1 hf1 HPT hix0 hpl
  go_wp2_with (fail)
  go_loopg [7, 8, 9] m (fun g vb vi vk wr => ∃ k : Nat, g + k = m ∧ vb = .string (bl (blkL l k)) ∧ vi = .string (idxB l k) ∧ vk = .int .i64 k ∧ Fp [] w1 wr ∧ errK l k = 0)
  case atStart => exact ⟨0, by omega, rfl, by rw [HIX0.out], rfl, Fp.alloc _ _, rfl⟩
  case round =>
    obtain ⟨k, hg, rfl, rfl, rfl, hf, he⟩ := hrel
    have HF := Lib.hid hf
    have HE := Lib.hid he
    clear hf he cv e0 e1 w0 w1'
    by_cases hk : k < m
    · have zk : (k : Int) < (m : Int) := by omega
      have q0 : wr.cell? ⟨g1, k, none⟩ = some (.slice (some ⟨b, o + 8 * k * 6, none⟩) (min 8 (len - 8 * k)) (cap - 8 * k)) := (HF.out.cell (p := ⟨g1, k, none⟩) hgl1 (by simp)).trans (HCS.out k hk)
      have HPB := Lib.hid (rbuild_any wr (some ⟨b, o + 8 * k * 6, none⟩) (min 8 (len - 8 * k)) (cap - 8 * k) (pieceL l k) (part_at (HL.out.fp (HF1.out.trans HF.out (by simp))) (by omega)) (by omega))
      have HEB := Lib.hid (fun h => errK_bad (m := manyP l) HE.out h (by rw [HMM.out]; exact hk))
      have HEG := Lib.hid (fun h => errK_good HE.out h)
      have HRK : Hid (recK l k = recP (buildP (pieceL l k)).1) := rfl
      have hbs := built_size (l := pieceL l k)
      obtain ⟨⟨s, e⟩, hse⟩ : ∃ t, buildP (pieceL l k) = t := ⟨_, rfl⟩
      rw [hse] at HPB HEB HEG HRK hbs
      obtain ⟨mm, hmm⟩ : ∃ mm, min 8 (len - 8 * k) = mm := ⟨_, rfl⟩
      rw [hmm] at q0 HPB
      have hbl := blkL_len l k
      have HBS := Lib.hid (blkL_succ l k)
      have his := idxB_size l k
      have HIS : Hid (idxB l (k + 1) = idxB l k ++ leB (recK l k).size 4) := rfl
      have hblz := bl_size (blkL l k)
      obtain ⟨bk, hbk⟩ : ∃ r, bl (blkL l k) = r := ⟨_, rfl⟩
      rw [hbk] at hblz
      rw [hbk]
      obtain ⟨ix, hix⟩ : ∃ r, idxB l k = r := ⟨_, rfl⟩
      rw [hix] at HIS his
      rw [hix]
      have HBK := Lib.hid hbk
      have n1 : IntKind.i64.wrap ((k : Int) + 1) = ((k + 1 : Nat) : Int) := by rw [IntKind.wrap_i64]; omega
      clear hse hmm hbk hix
      go_wp2_with (fail)
      (with_reducible refine HPB.out.mono ?_)
      rintro e1 w3 ⟨rfl, hf3⟩
      have HF3 := Lib.hid (HF.out.trans hf3 (by simp))
      clear hf3
      by_cases he : e = 0
      · subst he
        have HE1 := Lib.hid (HEG.out rfl)
        have HRC := Lib.hid (rput5_any s w3 (by omega))
        rw [← HRK.out] at HRC
        have hrs := recK_size l k
        obtain ⟨rec, hrec⟩ : ∃ r, recK l k = r := ⟨_, rfl⟩
        rw [hrec] at HRC hrs HBS HIS
        have zl1 : ¬ bk.size + rec.size > 9223372036854775807 := by omega
        have zl : ¬ ix.size + 4 > 9223372036854775807 := by omega
        have u2 : IntKind.u32.wrap (rec.size : Int) = (rec.size : Int) := by rw [IntKind.wrap_u32]; omega
        have HL4 := Lib.hid (fun w => rfour_any rec.size w (by omega))
        rw [← leB4] at HL4
        have hls := leB_size rec.size 4
        obtain ⟨le, hle⟩ : ∃ r, leB rec.size 4 = r := ⟨_, rfl⟩
        rw [hle] at HL4 hls HIS
        clear hrec HRK hle
        go_wp2_with (fail)
        (with_reducible refine HRC.out.mono ?_)
        rintro e1 w4 ⟨rfl, hf4⟩
        have HF4 := Lib.hid (HF3.out.trans hf4 (by simp))
        clear hf4
        go_wp2_with (fail)
        (with_reducible refine (HL4.out _).mono ?_)
        rintro e1 w6 ⟨rfl, hf6⟩
        have HF6 := Lib.hid (HF4.out.trans hf6 (by simp))
        clear hf6
        go_wp2_with (fail)
        go_roundg (gk - 1)
        case measure => omega
        case rel =>
          refine ⟨k + 1, by omega, ?_, by rw [HIS.out], by simp, HF6.out, HE1.out⟩
          rw [HBS.out, ← HBK.out]
          exact congrArg Value.string (bl_append_data _ _)
      · have ze : ((e : Int) != 0) = true := by rw [bne_iff_ne]; omega
        have hb2 := HB.out
        rw [HMM.out] at hb2
        have he2 := HEB.out he
        rw [HMM.out] at he2
        rw [he2, if_pos he] at hb2
        have HBB := Lib.hid hb2
        clear hb2 he2
        go_wp2_with (fail)
        go_ret2
        exact ⟨by rw [HBB.out]; rfl, HF1.out.trans HF3.out (by simp)⟩
    · obtain rfl : k = m := by omega
      have zk : ¬ (k : Int) < (k : Int) := by omega
      have hb2 := HB.out
      rw [HMM.out, HE.out, if_neg (by decide)] at hb2
      have HB2' := Lib.hid hb2
      have HRI := Lib.hid (rrising_any wr (some ⟨b, o, none⟩) len cap l (HL.out.fp (HF1.out.trans HF.out (by simp))) (by omega))
      clear hb2
      go_wp2_with (fail)
      (with_reducible refine HRI.out.mono ?_)
      rintro e1 w3 ⟨rfl, hf3⟩
      have HF3 := Lib.hid (HF.out.trans hf3 (by simp))
      clear hf3
      by_cases hri : risC l = false
      · have hb3 := HB2'.out
        rw [if_pos hri] at hb3
        have HBB := Lib.hid hb3
        rw [hri]
        clear hb3 hri
        go_wp2_with (fail)
        go_ret2
        exact ⟨by rw [HBB.out]; rfl, HF1.out.trans HF3.out (by simp)⟩
      · have hri2 : risC l = true := by simpa using hri
        have hb3 := HB2'.out
        rw [if_neg hri] at hb3
        have HBB := Lib.hid hb3
        rw [hri2]
        clear hb3 hri hri2
        have HRW := Lib.hid (rrows_any w3 (some ⟨b, o, none⟩) len cap l (HL.out.fp (HF1.out.trans HF3.out (by simp))) (by omega))
        go_wp2_with (fail)
        (with_reducible refine HRW.out.mono ?_)
        rintro e1 w4 ⟨v4, rfl, ho4, hf4⟩
        have HF4 := Lib.hid (HF3.out.trans hf4 (by simp))
        have hrl : (rowsP l).length ≤ 2000 := by have h1 := rowsUpTo_length l l.length; have h2 := HLN.out; unfold rowsP; omega
        have hbs := bloomP_size (rowsP l)
        have hbn : bloomN (rowsP l).length ≤ 3000 := by unfold bloomN; omega
        have HMK := Lib.hid (rmake_any w4 v4 w3.heap.size (rowsP l) ho4 hrl (by
          intro s hs
          obtain ⟨c, hc, rfl⟩ := rows_mem hs
          have := (may_sizes (errK_may (by rw [HMM.out]; exact HE.out) c hc)).1
          omega))
        clear hf4 ho4 hrl
        go_wp2_with (fail)
        (with_reducible refine HMK.out.mono ?_)
        rintro e1 w5 ⟨rfl, hf5⟩
        have HF5 := Lib.hid (HF4.out.trans hf5 (by simp))
        have HFI : Hid (fIndex l = recP (idxB l k)) := by unfold Hid fIndex; rw [HMM.out]
        have HFF : Hid (fFilter l = recP (bloomP (rowsP l))) := rfl
        have his := idxB_size l k
        have hrs1 := recP_size (idxB l k)
        have hrs2 := recP_size (bloomP (rowsP l))
        have HP1 := Lib.hid (fun w => rput5_any (idxB l k) w (by omega))
        have HP2 := Lib.hid (fun w => rput5_any (bloomP (rowsP l)) w (by omega))
        have hfi : (fIndex l).size ≤ 10000 := by rw [HFI.out]; omega
        have hff : (fFilter l).size ≤ 10000 := by rw [HFF.out]; omega
        have HFT : Hid (footOf l seq = ⟨(blkL l k).length, (fIndex l).size, (fFilter l).size, seq⟩) := by unfold Hid footOf; rw [HMM.out]
        have HFB : Hid (fileB l seq = bl (blkL l k) ++ fIndex l ++ fFilter l ++ recP (footOf l seq).text) := by unfold Hid fileB fBlocks; rw [HMM.out]
        have HFX : Hid ((footOf l seq).text = leB (blkL l k).length 4 ++ leB (fIndex l).size 4 ++ leB (fFilter l).size 4 ++ leB seq 8) := by unfold Hid Foot.text; rw [HFT.out]
        have hts := foot_size5 (footOf l seq)
        have htr := recP_size (footOf l seq).text
        have HP4 := Lib.hid (fun w => rput5_any (footOf l seq).text w (by omega))
        rw [← HFI.out] at HP1
        rw [← HFF.out] at HP2
        obtain ⟨ix, hix⟩ : ∃ r, idxB l k = r := ⟨_, rfl⟩
        rw [hix] at HP1
        rw [hix]
        obtain ⟨fl, hfl⟩ : ∃ r, bloomP (rowsP l) = r := ⟨_, rfl⟩
        rw [hfl] at HP2
        rw [hfl]
        have hbl := blkL_len l k
        obtain ⟨x2, hx2⟩ : ∃ r, fIndex l = r := ⟨_, rfl⟩
        rw [hx2] at HP1 hfi HFX HFB
        obtain ⟨x3, hx3⟩ : ∃ r, fFilter l = r := ⟨_, rfl⟩
        rw [hx3] at HP2 hff HFX HFB
        have hblz := bl_size (blkL l k)
        obtain ⟨bk, hbk⟩ : ∃ r, bl (blkL l k) = r := ⟨_, rfl⟩
        rw [← hblz] at HFX hbl
        rw [hbk] at hbl HFB HFX hblz
        rw [hbk]
        have HN1 := Lib.hid (fun w => rfour_any bk.size w (by omega))
        have HN2 := Lib.hid (fun w => rfour_any x2.size w (by omega))
        have HN3 := Lib.hid (fun w => rfour_any x3.size w (by omega))
        have HN4 := Lib.hid (fun w => rnumber_any' seq false w hq)
        rw [← leB4] at HN1 HN2 HN3
        rw [leB8] at HN4
        have s1 := leB_size bk.size 4
        have s2 := leB_size x2.size 4
        have s3 := leB_size x3.size 4
        have s4 := leB_size seq 8
        obtain ⟨n1, hn1⟩ : ∃ r, leB bk.size 4 = r := ⟨_, rfl⟩
        obtain ⟨n2, hn2⟩ : ∃ r, leB x2.size 4 = r := ⟨_, rfl⟩
        obtain ⟨n3, hn3⟩ : ∃ r, leB x3.size 4 = r := ⟨_, rfl⟩
        obtain ⟨n4, hn4⟩ : ∃ r, leB seq 8 = r := ⟨_, rfl⟩
        rw [hn1] at HN1 s1 HFX
        rw [hn2] at HN2 s2 HFX
        rw [hn3] at HN3 s3 HFX
        rw [hn4] at HN4 s4 HFX
        rw [HFX.out] at HP4
        have HFB2 : Hid (fileB l seq = bk ++ x2 ++ x3 ++ recP (footOf l seq).text) := HFB
        obtain ⟨rf, hrf⟩ : ∃ r, recP (footOf l seq).text = r := ⟨_, rfl⟩
        rw [hrf] at HFB2 htr
        rw [HFX.out] at hrf
        rw [hrf] at HP4
        have u1 : IntKind.u32.wrap (bk.size : Int) = (bk.size : Int) := by rw [IntKind.wrap_u32]; omega
        have u2 : IntKind.u32.wrap (x2.size : Int) = (x2.size : Int) := by rw [IntKind.wrap_u32]; omega
        have u3 : IntKind.u32.wrap (x3.size : Int) = (x3.size : Int) := by rw [IntKind.wrap_u32]; omega
        have z1 : ¬ n1.size + n2.size > 9223372036854775807 := by omega
        have z2 : ¬ n1.size + n2.size + n3.size > 9223372036854775807 := by omega
        have z3 : ¬ n1.size + n2.size + n3.size + n4.size > 9223372036854775807 := by omega
        have z4 : ¬ bk.size + x2.size > 9223372036854775807 := by omega
        have z5 : ¬ bk.size + x2.size + x3.size > 9223372036854775807 := by omega
        have z6 : ¬ bk.size + x2.size + x3.size + rf.size > 9223372036854775807 := by omega
        clear hf5 hix hfl hx2 hx3 hbk hbs hbn his hrs1 hrs2 HFT HFI HFF HFB hblz hn1 hn2 hn3 hn4 hrf hts htr s1 s2 s3 s4
        go_wp2_with (fail)
        (with_reducible refine (HP1.out _).mono ?_)
        rintro e1 w6 ⟨rfl, hf6⟩
        have HF6 := Lib.hid (HF5.out.trans hf6 (by simp))
        clear hf6
        go_wp2_with (fail)
        (with_reducible refine (HP2.out _).mono ?_)
        rintro e1 w7 ⟨rfl, hf7⟩
        have HF7 := Lib.hid (HF6.out.trans hf7 (by simp))
        clear hf7
        go_wp2_with (fail)
        (with_reducible refine (HN1.out _).mono ?_)
        rintro e1 w8 ⟨rfl, hf8⟩
        have HF8 := Lib.hid (HF7.out.trans hf8 (by simp))
        clear hf8
        go_wp2_with (fail)
        (with_reducible refine (HN2.out _).mono ?_)
        rintro e1 w9 ⟨rfl, hf9⟩
        have HF9 := Lib.hid (HF8.out.trans hf9 (by simp))
        clear hf9
        go_wp2_with (fail)
        (with_reducible refine (HN3.out _).mono ?_)
        rintro e1 w10 ⟨rfl, hf10⟩
        have HF10 := Lib.hid (HF9.out.trans hf10 (by simp))
        clear hf10
        go_wp2_with (fail)
        (with_reducible refine (HN4.out _).mono ?_)
        rintro e1 w11 ⟨rfl, hf11⟩
        have HF11 := Lib.hid (HF10.out.trans hf11 (by simp))
        clear hf11
        go_wp2_with (fail)
        (with_reducible refine (HP4.out _).mono ?_)
        rintro e1 w12 ⟨rfl, hf12⟩
        have HF12 := Lib.hid (HF11.out.trans hf12 (by simp))
        clear hf12
        go_wp2_with (fail)
        go_ret2
        exact ⟨by rw [HBB.out]; show _ = Ending.returned (.tuple #[.string (fileB l seq), _]); rw [HFB2.out]; rfl, HF1.out.trans HF12.out (by simp)⟩
end

section
open Go.RowKit Go.Lib

set_option maxRecDepth 100000 in
set_option maxHeartbeats 8000000 in
theorem rseen_any (w : World) (a : Option Addr) (n cap : Nat) (l : List Cel) (q : Nat) (hl : CelsAt w a n l) (hnc : a = none → cap = 0) (hn : n ≤ 1000000) (hq : q < 18446744073709551616) :
    Calls Tryz.prog 43 #[.slice a n cap, .int .u64 q] w fun e w' => ∃ v', e = .returned v' ∧ OwnC w' w.heap.size v' (seenL l q) ∧ Fp [] w w' := by
  have HL := Lib.hid hl
  have HLN := Lib.hid hl.len
  have HO0 := Lib.hid (OwnC.made w w.heap.size (Nat.le_refl _))
  have HF0 := Lib.hid (Fp.alloc w (.cells #[] 34))
  have HNC := Lib.hid hnc
  clear hl hnc
  go_enter Tryz.func43, Tryz.ntmps43
  go_wp2_with (at_builtin; (refine wpList_append_cels rfl _ _ rfl w.heap.size _ [] rfl HO0.out _ _ _ l rfl (HL.out.fp HF0.out) HNC.out (by have := HLN.out; simp; omega) (by simp) ?_); intro v2 w2 ho2 hb2; rw [List.nil_append] at ho2; obtain ⟨a2, c2, rfl⟩ := ho2.len; have HO2 := Lib.hid ho2; have HF2 := Lib.hid (HF0.out.belowTrans (hb2.mono (by simp))); clear ho2 hb2)
  have ho2 := HO2.out
  rw [← HLN.out] at ho2 ⊢
  have HO3 := Lib.hid ho2
  clear ho2
  by_cases hq0 : q = 0
  · subst hq0
    have HSN : Hid (seenL l 0 = l) := rfl
    go_loopg [6] n (fun g vi wr => vi = .int .i64 (0 : Nat) ∧ wr = w2)
    case atStart => exact ⟨rfl, rfl⟩
    case round =>
      obtain ⟨rfl, rfl⟩ := hrel
      rw [show ((0 : Nat) : Int) = 0 from rfl]
      by_cases hn0 : n = 0
      · subst hn0
        go_wp2_with (fail)
        go_ret
        exact ⟨_, rfl, by rw [HSN.out]; exact HO3.out, HF2.out⟩
      · have zn : (0 : Int) < (n : Int) := by omega
        go_wp2_with (fail)
        go_ret
        exact ⟨_, rfl, by rw [HSN.out]; exact HO3.out, HF2.out⟩
  · have zq : ((q : Int) != 0) = true := by rw [bne_iff_ne]; omega
    go_loopg [6] n (fun g vi wr => ∃ k : Nat, g + k = n ∧ vi = .int .i64 k ∧ OwnC wr w.heap.size (.slice a2 n c2) (seenUp l q k) ∧ Fp [] w wr)
    case atStart => exact ⟨0, by omega, rfl, by rw [seenUp_zero]; exact HO3.out, HF2.out⟩
    case round =>
      obtain ⟨k, hg, rfl, ho, hf⟩ := hrel
      have HO := Lib.hid ho
      have HF := Lib.hid hf
      clear ho hf
      by_cases hk : k < n
      · have zk : (k : Int) < (n : Int) := by omega
        have hkl : k < l.length := by rw [← HLN.out]; exact hk
        have hlen : (seenUp l q k).length = n := by rw [seenUp_length, HLN.out]
        obtain ⟨g, cap3, cur, e0, hgw, hh, -⟩ := OwnC.open HO.out (by omega)
        rw [hlen] at e0
        injection e0 with e1 _ e3
        subst e1 e3
        obtain ⟨hcl, hfz⟩ := HO.out.cel (j := k) (by omega)
        obtain ⟨-, -, -, p3, -, -⟩ := hcl
        have z3 := hfz (k * 6 + 3)
        have HS := Lib.hid (seenUp_succ (q := q) hkl)
        have hset := OwnC.setSeq q HO.out (k := k) (by omega)
        rw [seenUp_at hkl, ← HS.out] at hset
        have HSET := Lib.hid hset
        have HFS := Lib.hid (HF.out.setCell' (p := ⟨g, k * 6 + 3, none⟩) (Or.inr hgw) (.int .u64 q))
        have n1 : IntKind.i64.wrap ((k : Int) + 1) = ((k + 1 : Nat) : Int) := by rw [IntKind.wrap_i64]; omega
        clear hfz hh hset
        go_wp2_with (fail)
        go_roundg (gk - 1)
        case measure => omega
        case rel => exact ⟨k + 1, by omega, by simp, HSET.out, HFS.out⟩
      · have zk : ¬ (k : Int) < (n : Int) := by omega
        have hkn : k = l.length := by have := HLN.out; omega
        have ho3 := HO.out
        rw [hkn, seenUp_all hq0] at ho3
        have HO4 := Lib.hid ho3
        clear ho3 hkn
        go_wp2_with (fail)
        go_ret
        exact ⟨_, rfl, HO4.out, HF.out⟩

set_option maxRecDepth 100000 in
set_option maxHeartbeats 8000000 in
theorem rrow5_any (w : World) (a : Option Addr) (n cap : Nat) (l : List Cel) (row : ByteArray) (hl : CelsAt w a n l) (hn : n ≤ 1000000) :
    Calls Tryz.prog 45 #[.slice a n cap, .string row] w fun e w' => ∃ v', e = .returned v' ∧ OwnC w' w.heap.size v' (rowL l row) ∧ Fp [] w w' := by
  have HL := Lib.hid hl
  have HLN := Lib.hid hl.len
  have HOK := Lib.hid hl.ok
  clear hl
  go_enter Tryz.func45, Tryz.ntmps45
  go_wp2_with (fail)
  go_loopg [5, 6] n (fun g va vi wr => ∃ (k : Nat) (v : Value), g + k = n ∧ v = va ∧ vi = .int .i64 k ∧ OwnC wr w.heap.size v (rowL (l.take k) row) ∧ Fp [] w wr)
  case atStart => exact ⟨0, _, by omega, rfl, rfl, OwnC.made w _ (Nat.le_refl _), Fp.alloc _ _⟩
  case round =>
    obtain ⟨k, va, hg, rfl, rfl, ho, hf⟩ := hrel
    have HO := Lib.hid ho
    have HF := Lib.hid hf
    clear ho hf
    have hbw : w.heap.size ≤ wr.heap.size := HF.out.size
    by_cases hk : k < n
    · have zk : (k : Int) < (n : Int) := by omega
      have hkl : k < l.length := by rw [← HLN.out]; exact hk
      have hsn := rowL_snoc (row := row) hkl
      have hle : (rowL (l.take k) row).length ≤ k := Nat.le_trans (List.length_filter_le _ _) (by rw [List.length_take]; omega)
      have HLE := Lib.hid hle
      obtain ⟨b1, o1, rfl, _, hcells⟩ := cels_get HL.out hkl
      have hcok := HOK.out l[k] (List.getElem_mem hkl)
      obtain ⟨c, hc⟩ : ∃ c, l[k] = c := ⟨_, rfl⟩
      rw [hc] at hcells hsn hcok
      have HCO := Lib.hid hcok
      obtain ⟨q0, q1, q2, q3, q4, q5⟩ := hcells wr HF.out
      have n1 : IntKind.i64.wrap ((k : Int) + 1) = ((k + 1 : Nat) : Int) := by rw [IntKind.wrap_i64]; omega
      have hne := str_ne c.row row
      obtain ⟨x, hx⟩ : ∃ x, strNe c.row row = x := ⟨_, rfl⟩
      rw [hx] at hsn hne
      have HSN := Lib.hid hsn
      clear hcells hc hcok hle hsn hx
      cases x
      · have hey : (c.row.toList == row.toList) = true := by simpa using hne
        clear hne
        go_wp2_with (at_builtin; (refine wpList_append_cels rfl _ _ rfl w.heap.size _ (rowL (l.take k) row) rfl (HO.out.fp (Fp.alloc _ _) (by simp)) _ _ _ [c] rfl (CelIn.one (heap_alloc_at (by simp) _) HCO.out) (fun h => by cases h) (by have := HLE.out; simp; omega) (by simp; omega) ?_); intro v2 w2 ho2 hb2; have HO2 := Lib.hid ho2; have HB2 := Lib.hid hb2; clear ho2 hb2)
        go_roundg (gk - 1)
        case measure => omega
        case rel => exact ⟨k + 1, _, by omega, rfl, by simp, by rw [HSN.out, if_neg (by decide)]; exact HO2.out, (HF.out.alloc' _).belowTrans HB2.out⟩
      · have hey : (c.row.toList == row.toList) = false := by simpa using hne
        clear hne
        go_wp2_with (fail)
        go_roundg (gk - 1)
        case measure => omega
        case rel => exact ⟨k + 1, _, by omega, rfl, by simp, by rw [HSN.out]; simpa using HO.out, HF.out⟩
    · have zk : ¬ (k : Int) < (n : Int) := by omega
      have ho3 := HO.out
      rw [List.take_of_length_le (by have := HLN.out; omega)] at ho3
      have HO3 := Lib.hid ho3
      clear ho3
      go_wp2_with (fail)
      go_ret
      exact ⟨_, rfl, HO3.out, HF.out⟩

set_option maxRecDepth 100000 in
set_option maxHeartbeats 8000000 in
theorem rlooks_any (w : World) (a : Option Addr) (n cap : Nat) (l : List Cel) (row : ByteArray) (hl : CelsAt w a n l) (h0 : 0 < n) (hnc : n ≤ cap) (hn : n ≤ 2000) (hrow : row.size ≤ 100000) (hsm : ∀ c ∈ l, c.row.size ≤ 100000) :
    Calls Tryz.prog 46 #[.slice a n cap, .string row] w fun e w' => e = .returned (.int .i64 ((nearI l (bloomP (rowsP l)) row).length : Nat)) ∧ Fp [] w w' := by
  have HL := Lib.hid hl
  have HLN := Lib.hid hl.len
  obtain ⟨b, o, rfl⟩ : ∃ b o, a = some ⟨b, o, none⟩ := by
    rcases hl.cells with h | ⟨b, o, e, _⟩
    · rw [h] at hl; have := hl.len; simp at this; omega
    · exact ⟨b, o, e⟩
  have HRW := Lib.hid (rrows_any w (some ⟨b, o, none⟩) n cap l hl (by omega))
  have hrl : (rowsP l).length ≤ 2000 := by have h1 := rows_len l; have h2 := HLN.out; omega
  have hbs := bloomP_size (rowsP l)
  have hbn : bloomN (rowsP l).length ≤ 3000 := by unfold bloomN; omega
  have HMK : Hid (∀ w v base, OwnS w base v (rowsP l) → Calls Tryz.prog 35 #[v, .int .i64 10] w fun e w' => e = .returned (.tuple #[.string (bloomP (rowsP l)), .int .i64 0]) ∧ Fp [] w w') := fun w v base hv => rmake_any w v base (rowsP l) hv hrl (by
    intro s hs
    obtain ⟨c, hc, rfl⟩ := rows_mem hs
    exact hsm c hc)
  have HMY := Lib.hid (fun w => rmay3_any w (bloomP (rowsP l)) row (by omega) hrow)
  have HPT := Lib.hid (fun w => rparts_any w b o n cap hnc (by omega))
  obtain ⟨m, hmm⟩ : ∃ m, manyP l = m := ⟨_, rfl⟩
  have hm8 : (n + 7) / 8 = m := by rw [← hmm, manyP, hl.len]
  rw [hm8] at HPT
  have hm8a : 8 * m < n + 8 := by omega
  have hm8b : n ≤ 8 * m := by omega
  have HNI : Hid (nearI l (bloomP (rowsP l)) row = if mayP (bloomP (rowsP l)) row = true then nearUp l row m else []) := by unfold Hid nearI; rw [hmm]
  obtain ⟨fl, hfl⟩ : ∃ f, bloomP (rowsP l) = f := ⟨_, rfl⟩
  rw [hfl] at HMK HMY HNI
  rw [hfl]
  clear hl hrl hbs hbn hmm hm8 hfl hsm
  go_enter Tryz.func46, Tryz.ntmps46
  go_wp2_with (fail)
  (with_reducible refine HRW.out.mono ?_)
  rintro e w1 ⟨v1, rfl, ho1, hf1⟩
  have HF1 := Lib.hid hf1
  have HM2 := Lib.hid (HMK.out _ _ _ ho1)
  clear hf1 ho1
  go_wp2_with (fail)
  (with_reducible refine HM2.out.mono ?_)
  rintro e w2 ⟨rfl, hf2⟩
  have HF2 := Lib.hid (HF1.out.trans hf2 (by simp))
  clear hf2
  go_wp2_with (fail)
  (with_reducible refine (HMY.out _).mono ?_)
  rintro e w3 ⟨rfl, hf3⟩
  have HF3 := Lib.hid (HF2.out.trans hf3 (by simp))
  clear hf3
  obtain ⟨may, hmay⟩ : ∃ x, mayP fl row = x := ⟨_, rfl⟩
  rw [hmay] at HNI ⊢
  clear hmay
  cases may
  · go_wp2_with (fail)
    go_ret
    exact ⟨by rw [HNI.out]; rfl, HF3.out⟩
  · go_wp2_with (fail)
    (with_reducible refine (HPT.out _).mono ?_)
    rintro e w4 ⟨v4, rfl, ho4, hf4⟩
    have hpl := rpartsV_length b o n cap m
    obtain ⟨-, h1e | ⟨g1, c1, rfl, hg1, hgl1, hcs⟩⟩ := ho4.at
    · rw [h1e] at hpl; simp at hpl; omega
    rw [hpl]
    have HCS : Hid (∀ k, k < m → w4.cell? ⟨g1, k, none⟩ = some (.slice (some ⟨b, o + 8 * k * 6, none⟩) (min 8 (n - 8 * k)) (cap - 8 * k))) := by
      intro k hk
      have h := hcs k (by rw [hpl]; exact hk)
      rw [rpartsV_at] at h
      exact h
    have HF4 := Lib.hid (HF3.out.trans hf4 (by simp))
    clear hf4 hcs ho4 hpl
    go_wp2_with (fail)
    go_loopg [7, 9] m (fun g vn vk wr => ∃ k : Nat, g + k = m ∧ vn = .int .i64 ((nearUp l row k).length : Nat) ∧ vk = .int .i64 k ∧ Fp [] w4 wr)
    case atStart => exact ⟨0, by omega, rfl, rfl, Fp.refl _ _⟩
    case round =>
      obtain ⟨k, hg, rfl, rfl, hf⟩ := hrel
      have HF := Lib.hid hf
      clear hf
      have hul := nearUp_length l row k
      have HSU := Lib.hid (nearUp_succ l row k)
      obtain ⟨nk, hnk'⟩ : ∃ x, (nearUp l row k).length = x := ⟨_, rfl⟩
      rw [hnk'] at hul
      rw [hnk']
      have HNK := Lib.hid hnk'
      clear hnk'
      by_cases hk : k < m
      · have zk : (k : Int) < (m : Int) := by omega
        have HQ0 : Hid (∀ w', Fp [] wr w' → w'.cell? ⟨g1, k, none⟩ = some (.slice (some ⟨b, o + 8 * k * 6, none⟩) (min 8 (n - 8 * k)) (cap - 8 * k))) := fun w' hf => ((HF.out.trans hf (by simp)).cell (p := ⟨g1, k, none⟩) hgl1 (by simp)).trans (HCS.out k hk)
        have h8 : 8 * k < n := by omega
        have hnk : nearK l row k = (leS (firstR (pieceL l k)) row && geS (lastR (pieceL l k)) row) := rfl
        obtain ⟨m2, hm⟩ : ∃ m2, min 8 (n - 8 * k) = m2 := ⟨_, rfl⟩
        have hm1 : 1 ≤ m2 := by omega
        have hpc := part_at HL.out h8
        rw [hm] at HQ0 hpc
        have hpl : (pieceL l k).length = m2 := hpc.len.symm
        obtain ⟨bb0, oo0, ea, hbl0, hc0⟩ := cels_get (k := 0) hpc (by omega)
        obtain ⟨bb1, oo1, eb, hbl1, hc1⟩ := cels_get (k := m2 - 1) hpc (by omega)
        injection ea with ea
        injection ea with ea1 ea2
        injection eb with eb
        injection eb with eb1 eb2
        subst ea1 ea2 eb1 eb2
        have e0 : firstR (pieceL l k) = ((pieceL l k)[0]'(by omega)).row := by
          unfold firstR
          rw [List.getD_eq_getElem?_getD, List.getElem?_eq_getElem (by omega)]; rfl
        have e1 : lastR (pieceL l k) = ((pieceL l k)[m2 - 1]'(by omega)).row := by
          unfold lastR
          rw [show (pieceL l k).length - 1 = m2 - 1 from by rw [hpl], List.getD_eq_getElem?_getD, List.getElem?_eq_getElem (by omega)]; rfl
        rw [e0, e1] at hnk
        obtain ⟨c0, hcc0⟩ : ∃ c, ((pieceL l k)[0]'(by omega)).row = c := ⟨_, rfl⟩
        obtain ⟨c2, hcc1⟩ : ∃ c, ((pieceL l k)[m2 - 1]'(by omega)).row = c := ⟨_, rfl⟩
        rw [hcc0, hcc1] at hnk
        obtain ⟨m1, hm1e⟩ : ∃ x, m2 - 1 = x := ⟨_, rfl⟩
        have HP0 : Hid (∀ w', Fp [] wr w' → w'.cell? ⟨b, o + 8 * k * 6, none⟩ = some (.string c0)) := fun w' hf => by
          have h := (hc0 w' ((HF4.out.trans HF.out (by simp)).trans hf (by simp))).c0
          rw [hcc0, Nat.zero_mul, Nat.add_zero] at h
          exact h
        have HP1 : Hid (∀ w', Fp [] wr w' → w'.cell? ⟨b, o + 8 * k * 6 + m1 * 6, none⟩ = some (.string c2)) := fun w' hf => by
          have h := (hc1 w' ((HF4.out.trans HF.out (by simp)).trans hf (by simp))).c0
          rw [hcc1, hm1e] at h
          exact h
        have n1 : IntKind.i64.wrap ((m2 : Int) - 1) = (m1 : Int) := by rw [IntKind.wrap_i64]; omega
        have zm1 : (m1 : Int) < (m2 : Int) := by omega
        have zm0 : 0 < m2 := by omega
        obtain ⟨x, hx⟩ : ∃ x, leS c0 row = x := ⟨_, rfl⟩
        obtain ⟨y, hy⟩ : ∃ y, Op.bytesLess c2.toList row.toList = y := ⟨_, rfl⟩
        have hy2 : geS c2 row = !y := by unfold geS; rw [hy]
        have x1 : (Op.bytesLess c0.toList row.toList || c0.toList == row.toList) = x := hx
        have y1 := hy
        rw [hx, hy2] at hnk
        rw [hnk] at HSU
        have n2 : IntKind.i64.wrap ((k : Int) + 1) = ((k + 1 : Nat) : Int) := by rw [IntKind.wrap_i64]; omega
        have n3 : IntKind.i64.wrap ((nk : Int) + 1) = ((nk + 1 : Nat) : Int) := by rw [IntKind.wrap_i64]; omega
        clear hm hpc hpl hcc0 hcc1 hc0 hc1 hm1e hx hy hy2 hnk e0 e1
        cases x
        · go_wp2_with (fail)
          refine wp_region_calm (by kernel_rfl) (by kernel_rfl) ?_
          -- 0
          apply ex_plain rfl rfl rfl
          · intro a w hC hA K hK
            have h8 := hA.free 8 _ (by kernel_rfl) rfl
            simp only [Oper.wp, execOp]; go_simp
            exact hK _ hC (Fp.refl _ _)
          -- 1
          apply ex_plain rfl rfl rfl
          · intro a w hC hA K hK
            have h9 := hA.free 9 _ (by kernel_rfl) rfl
            simp only [Oper.wp, execOp]; go_simp
            exact hK _ hC (Fp.refl _ _)
          -- 2
          apply ex_plain rfl rfl rfl
          · intro a w hC hA K hK
            have h28 : a.tmps[28]?.getD undef = _ := hA.dep 0 28 _ (by kernel_rfl) rfl
            have h29 : a.tmps[29]?.getD undef = _ := hA.dep 1 29 _ (by kernel_rfl) rfl
            have q0 := HQ0.out _ hC
            have p0 := HP0.out _ hC
            simp only [Oper.wp, execOp]; go_simp
            exact hK _ hC (Fp.refl _ _)
          -- 3
          apply ex_plain rfl rfl rfl
          · intro a w hC hA K hK
            have h30 : a.tmps[30]?.getD undef = _ := hA.dep 2 30 _ (by kernel_rfl) rfl
            have q0 := HQ0.out _ hC
            have p0 := HP0.out _ hC
            simp only [Oper.wp, execOp]; go_simp
            exact hK _ hC (Fp.refl _ _)
          -- 4
          apply ex_plain rfl rfl rfl
          · intro a w hC hA K hK
            have h31 : a.tmps[31]?.getD undef = _ := hA.dep 3 31 _ (by kernel_rfl) rfl
            have q0 := HQ0.out _ hC
            have p0 := HP0.out _ hC
            simp only [Oper.wp, execOp]; go_simp
            exact hK _ hC (Fp.refl _ _)
          -- 5
          apply ex_plain rfl rfl rfl
          · intro a w hC hA K hK
            have h32 : a.tmps[32]?.getD undef = _ := hA.dep 4 32 _ (by kernel_rfl) rfl
            simp only [Oper.wp, execOp]; go_simp
            exact hK _ hC (Fp.refl _ _)
          -- 6
          apply ex_plain rfl rfl rfl
          · intro a w hC hA K hK
            have h33 : a.tmps[33]?.getD undef = _ := hA.dep 5 33 _ (by kernel_rfl) rfl
            have q0 := HQ0.out _ hC
            have p0 := HP0.out _ hC
            simp only [Oper.wp, execOp]; go_simp
            exact hK _ hC (Fp.refl _ _)
          -- 7
          apply ex_plain rfl rfl rfl
          · intro a w hC hA K hK
            have h1 := hA.free 1 _ (by kernel_rfl) rfl
            simp only [Oper.wp, execOp]; go_simp
            exact hK _ hC (Fp.refl _ _)
          -- 8
          apply ex_plain rfl rfl rfl
          · intro a w hC hA K hK
            have h34 : a.tmps[34]?.getD undef = _ := hA.dep 6 34 _ (by kernel_rfl) rfl
            have h35 : a.tmps[35]?.getD undef = _ := hA.dep 7 35 _ (by kernel_rfl) rfl
            simp only [Oper.wp, execOp]; go_simp
            exact hK _ hC (Fp.refl _ _)
          -- 9
          apply ex_plain rfl rfl rfl
          · intro a w hC hA K hK
            have h36 : a.tmps[36]?.getD undef = _ := hA.dep 8 36 _ (by kernel_rfl) rfl
            simp only [Oper.wp, execOp]; go_simp
            exact hK _ hC (Fp.refl _ _)
          -- 10
          apply ex_no 9 37 rfl rfl rfl rfl (by kernel_rfl) rfl rfl
          -- 11
          apply ex_no 9 37 rfl rfl rfl rfl (by kernel_rfl) rfl rfl
          -- 12
          apply ex_no 9 37 rfl rfl rfl rfl (by kernel_rfl) rfl rfl
          -- 13
          apply ex_no 9 37 rfl rfl rfl rfl (by kernel_rfl) rfl rfl
          -- 14
          apply ex_no 9 37 rfl rfl rfl rfl (by kernel_rfl) rfl rfl
          -- 15
          apply ex_no 9 37 rfl rfl rfl rfl (by kernel_rfl) rfl rfl
          -- 16
          apply ex_no 9 37 rfl rfl rfl rfl (by kernel_rfl) rfl rfl
          -- 17
          apply ex_no 9 37 rfl rfl rfl rfl (by kernel_rfl) rfl rfl
          -- 18
          apply ex_no 9 37 rfl rfl rfl rfl (by kernel_rfl) rfl rfl
          -- 19
          apply ex_no 9 37 rfl rfl rfl rfl (by kernel_rfl) rfl rfl
          -- 20
          apply ex_no 9 37 rfl rfl rfl rfl (by kernel_rfl) rfl rfl
          -- 21
          apply ex_no 9 37 rfl rfl rfl rfl (by kernel_rfl) rfl rfl
          -- 22
          apply ex_no 9 37 rfl rfl rfl rfl (by kernel_rfl) rfl rfl
          -- 23
          apply ex_no 9 37 rfl rfl rfl rfl (by kernel_rfl) rfl rfl
          -- 24
          apply ex_no 9 37 rfl rfl rfl rfl (by kernel_rfl) rfl rfl
          -- 25
          apply ex_plain rfl rfl rfl
          · intro a w hC hA K hK
            have h37 : a.tmps[37]?.getD undef = _ := hA.dep 9 37 _ (by kernel_rfl) rfl
            have h52 : a.tmps[52]?.getD undef = _ := hA.dep 24 52 _ (by kernel_rfl) rfl
            simp only [Oper.wp, execOp]; go_simp
            exact hK _ hC (Fp.refl _ _)
          refine ⟨?_, ?_⟩
          · repeat (first | exact trivial | refine stab_val _ ?_ | refine ⟨fun w1 w2 v _ hf ⟨g, h1, h2⟩ => ⟨g, h1, (hf.block g (heap_lt h2) (by simp)).trans h2⟩, ?_⟩)
          · intro w' hC
            simp only [List.reverse_cons, List.reverse_nil, List.nil_append, List.cons_append]
            iterate 26 (refine all_val ?_)
            refine all_nil ?_
            simp only [putAll, Act.put, List.setIfInBounds_toArray, List.set_cons_succ, List.set_cons_zero]
            have HF6 := Lib.hid (HF.out.trans hC (by simp))
            clear hC
            go_wp2_with (fail)
            go_roundg (gk - 1)
            case measure => omega
            case rel => exact ⟨k + 1, by omega, by rw [HSU.out, Bool.false_and, if_neg (by decide), List.append_nil, HNK.out], by simp, HF6.out⟩
        · cases y
          · go_wp2_with (fail)
            refine wp_region_calm (by kernel_rfl) (by kernel_rfl) ?_
            -- 0
            apply ex_plain rfl rfl rfl
            · intro a w hC hA K hK
              have h8 := hA.free 8 _ (by kernel_rfl) rfl
              simp only [Oper.wp, execOp]; go_simp
              exact hK _ hC (Fp.refl _ _)
            -- 1
            apply ex_plain rfl rfl rfl
            · intro a w hC hA K hK
              have h9 := hA.free 9 _ (by kernel_rfl) rfl
              simp only [Oper.wp, execOp]; go_simp
              exact hK _ hC (Fp.refl _ _)
            -- 2
            apply ex_plain rfl rfl rfl
            · intro a w hC hA K hK
              have h28 : a.tmps[28]?.getD undef = _ := hA.dep 0 28 _ (by kernel_rfl) rfl
              have h29 : a.tmps[29]?.getD undef = _ := hA.dep 1 29 _ (by kernel_rfl) rfl
              have q0 := HQ0.out _ hC
              have p0 := HP0.out _ hC
              have p1 := HP1.out _ hC
              simp only [Oper.wp, execOp]; go_simp
              exact hK _ hC (Fp.refl _ _)
            -- 3
            apply ex_plain rfl rfl rfl
            · intro a w hC hA K hK
              have h30 : a.tmps[30]?.getD undef = _ := hA.dep 2 30 _ (by kernel_rfl) rfl
              have q0 := HQ0.out _ hC
              have p0 := HP0.out _ hC
              have p1 := HP1.out _ hC
              simp only [Oper.wp, execOp]; go_simp
              exact hK _ hC (Fp.refl _ _)
            -- 4
            apply ex_plain rfl rfl rfl
            · intro a w hC hA K hK
              have h31 : a.tmps[31]?.getD undef = _ := hA.dep 3 31 _ (by kernel_rfl) rfl
              have q0 := HQ0.out _ hC
              have p0 := HP0.out _ hC
              have p1 := HP1.out _ hC
              simp only [Oper.wp, execOp]; go_simp
              exact hK _ hC (Fp.refl _ _)
            -- 5
            apply ex_plain rfl rfl rfl
            · intro a w hC hA K hK
              have h32 : a.tmps[32]?.getD undef = _ := hA.dep 4 32 _ (by kernel_rfl) rfl
              simp only [Oper.wp, execOp]; go_simp
              exact hK _ hC (Fp.refl _ _)
            -- 6
            apply ex_plain rfl rfl rfl
            · intro a w hC hA K hK
              have h33 : a.tmps[33]?.getD undef = _ := hA.dep 5 33 _ (by kernel_rfl) rfl
              have q0 := HQ0.out _ hC
              have p0 := HP0.out _ hC
              have p1 := HP1.out _ hC
              simp only [Oper.wp, execOp]; go_simp
              exact hK _ hC (Fp.refl _ _)
            -- 7
            apply ex_plain rfl rfl rfl
            · intro a w hC hA K hK
              have h1 := hA.free 1 _ (by kernel_rfl) rfl
              simp only [Oper.wp, execOp]; go_simp
              exact hK _ hC (Fp.refl _ _)
            -- 8
            apply ex_plain rfl rfl rfl
            · intro a w hC hA K hK
              have h34 : a.tmps[34]?.getD undef = _ := hA.dep 6 34 _ (by kernel_rfl) rfl
              have h35 : a.tmps[35]?.getD undef = _ := hA.dep 7 35 _ (by kernel_rfl) rfl
              simp only [Oper.wp, execOp]; go_simp
              exact hK _ hC (Fp.refl _ _)
            -- 9
            apply ex_plain rfl rfl rfl
            · intro a w hC hA K hK
              have h36 : a.tmps[36]?.getD undef = _ := hA.dep 8 36 _ (by kernel_rfl) rfl
              simp only [Oper.wp, execOp]; go_simp
              exact hK _ hC (Fp.refl _ _)
            -- 10
            apply ex_yes 9 37 rfl rfl rfl rfl (by kernel_rfl) rfl rfl
            · intro a w hC hA K hK
              have h8 := hA.free 8 _ (by kernel_rfl) rfl
              simp only [Oper.wp, execOp]; go_simp
              exact hK _ hC (Fp.refl _ _)
            -- 11
            apply ex_yes 9 37 rfl rfl rfl rfl (by kernel_rfl) rfl rfl
            · intro a w hC hA K hK
              have h9 := hA.free 9 _ (by kernel_rfl) rfl
              simp only [Oper.wp, execOp]; go_simp
              exact hK _ hC (Fp.refl _ _)
            -- 12
            apply ex_yes 9 37 rfl rfl rfl rfl (by kernel_rfl) rfl rfl
            · intro a w hC hA K hK
              have h38 : a.tmps[38]?.getD undef = _ := hA.dep 10 38 _ (by kernel_rfl) rfl
              have h39 : a.tmps[39]?.getD undef = _ := hA.dep 11 39 _ (by kernel_rfl) rfl
              have q0 := HQ0.out _ hC
              have p0 := HP0.out _ hC
              have p1 := HP1.out _ hC
              simp only [Oper.wp, execOp]; go_simp
              exact hK _ hC (Fp.refl _ _)
            -- 13
            apply ex_yes 9 37 rfl rfl rfl rfl (by kernel_rfl) rfl rfl
            · intro a w hC hA K hK
              have h40 : a.tmps[40]?.getD undef = _ := hA.dep 12 40 _ (by kernel_rfl) rfl
              have q0 := HQ0.out _ hC
              have p0 := HP0.out _ hC
              have p1 := HP1.out _ hC
              simp only [Oper.wp, execOp]; go_simp
              exact hK _ hC (Fp.refl _ _)
            -- 14
            apply ex_yes 9 37 rfl rfl rfl rfl (by kernel_rfl) rfl rfl
            · intro a w hC hA K hK
              have h8 := hA.free 8 _ (by kernel_rfl) rfl
              simp only [Oper.wp, execOp]; go_simp
              exact hK _ hC (Fp.refl _ _)
            -- 15
            apply ex_yes 9 37 rfl rfl rfl rfl (by kernel_rfl) rfl rfl
            · intro a w hC hA K hK
              have h9 := hA.free 9 _ (by kernel_rfl) rfl
              simp only [Oper.wp, execOp]; go_simp
              exact hK _ hC (Fp.refl _ _)
            -- 16
            apply ex_yes 9 37 rfl rfl rfl rfl (by kernel_rfl) rfl rfl
            · intro a w hC hA K hK
              have h42 : a.tmps[42]?.getD undef = _ := hA.dep 14 42 _ (by kernel_rfl) rfl
              have h43 : a.tmps[43]?.getD undef = _ := hA.dep 15 43 _ (by kernel_rfl) rfl
              have q0 := HQ0.out _ hC
              have p0 := HP0.out _ hC
              have p1 := HP1.out _ hC
              simp only [Oper.wp, execOp]; go_simp
              exact hK _ hC (Fp.refl _ _)
            -- 17
            apply ex_yes 9 37 rfl rfl rfl rfl (by kernel_rfl) rfl rfl
            · intro a w hC hA K hK
              have h44 : a.tmps[44]?.getD undef = _ := hA.dep 16 44 _ (by kernel_rfl) rfl
              have q0 := HQ0.out _ hC
              have p0 := HP0.out _ hC
              have p1 := HP1.out _ hC
              simp only [Oper.wp, execOp]; go_simp
              exact hK _ hC (Fp.refl _ _)
            -- 18
            apply ex_yes 9 37 rfl rfl rfl rfl (by kernel_rfl) rfl rfl
            · intro a w hC hA K hK
              have h45 : a.tmps[45]?.getD undef = _ := hA.dep 17 45 _ (by kernel_rfl) rfl
              simp only [Oper.wp, execOp]; go_simp
              exact hK _ hC (Fp.refl _ _)
            -- 19
            apply ex_yes 9 37 rfl rfl rfl rfl (by kernel_rfl) rfl rfl
            · intro a w hC hA K hK
              have h46 : a.tmps[46]?.getD undef = _ := hA.dep 18 46 _ (by kernel_rfl) rfl
              simp only [Oper.wp, execOp]; go_simp
              exact hK _ hC (Fp.refl _ _)
            -- 20
            apply ex_yes 9 37 rfl rfl rfl rfl (by kernel_rfl) rfl rfl
            · intro a w hC hA K hK
              have h41 : a.tmps[41]?.getD undef = _ := hA.dep 13 41 _ (by kernel_rfl) rfl
              have h47 : a.tmps[47]?.getD undef = _ := hA.dep 19 47 _ (by kernel_rfl) rfl
              have q0 := HQ0.out _ hC
              have p0 := HP0.out _ hC
              have p1 := HP1.out _ hC
              simp only [Oper.wp, execOp]; go_simp
              exact hK _ hC (Fp.refl _ _)
            -- 21
            apply ex_yes 9 37 rfl rfl rfl rfl (by kernel_rfl) rfl rfl
            · intro a w hC hA K hK
              have h48 : a.tmps[48]?.getD undef = _ := hA.dep 20 48 _ (by kernel_rfl) rfl
              simp only [Oper.wp, execOp]; go_simp
              exact hK _ hC (Fp.refl _ _)
            -- 22
            apply ex_yes 9 37 rfl rfl rfl rfl (by kernel_rfl) rfl rfl
            · intro a w hC hA K hK
              have h49 : a.tmps[49]?.getD undef = _ := hA.dep 21 49 _ (by kernel_rfl) rfl
              have q0 := HQ0.out _ hC
              have p0 := HP0.out _ hC
              have p1 := HP1.out _ hC
              simp only [Oper.wp, execOp]; go_simp
              exact hK _ hC (Fp.refl _ _)
            -- 23
            apply ex_yes 9 37 rfl rfl rfl rfl (by kernel_rfl) rfl rfl
            · intro a w hC hA K hK
              have h1 := hA.free 1 _ (by kernel_rfl) rfl
              simp only [Oper.wp, execOp]; go_simp
              exact hK _ hC (Fp.refl _ _)
            -- 24
            apply ex_yes 9 37 rfl rfl rfl rfl (by kernel_rfl) rfl rfl
            · intro a w hC hA K hK
              have h50 : a.tmps[50]?.getD undef = _ := hA.dep 22 50 _ (by kernel_rfl) rfl
              have h51 : a.tmps[51]?.getD undef = _ := hA.dep 23 51 _ (by kernel_rfl) rfl
              simp only [Oper.wp, execOp]; go_simp
              exact hK _ hC (Fp.refl _ _)
            -- 25
            apply ex_plain rfl rfl rfl
            · intro a w hC hA K hK
              have h37 : a.tmps[37]?.getD undef = _ := hA.dep 9 37 _ (by kernel_rfl) rfl
              have h52 : a.tmps[52]?.getD undef = _ := hA.dep 24 52 _ (by kernel_rfl) rfl
              simp only [Oper.wp, execOp]; go_simp
              exact hK _ hC (Fp.refl _ _)
            refine ⟨?_, ?_⟩
            · repeat (first | exact trivial | refine stab_val _ ?_ | refine ⟨fun w1 w2 v _ hf ⟨g, h1, h2⟩ => ⟨g, h1, (hf.block g (heap_lt h2) (by simp)).trans h2⟩, ?_⟩)
            · intro w' hC
              simp only [List.reverse_cons, List.reverse_nil, List.nil_append, List.cons_append]
              iterate 26 (refine all_val ?_)
              refine all_nil ?_
              simp only [putAll, Act.put, List.setIfInBounds_toArray, List.set_cons_succ, List.set_cons_zero]
              have HF6 := Lib.hid (HF.out.trans hC (by simp))
              clear hC
              go_wp2_with (fail)
              go_roundg (gk - 1)
              case measure => omega
              case rel => exact ⟨k + 1, by omega, by rw [HSU.out, show (true && !false) = true from rfl, if_pos rfl, List.length_append, HNK.out]; simp, by simp, HF6.out⟩
          · go_wp2_with (fail)
            refine wp_region_calm (by kernel_rfl) (by kernel_rfl) ?_
            -- 0
            apply ex_plain rfl rfl rfl
            · intro a w hC hA K hK
              have h8 := hA.free 8 _ (by kernel_rfl) rfl
              simp only [Oper.wp, execOp]; go_simp
              exact hK _ hC (Fp.refl _ _)
            -- 1
            apply ex_plain rfl rfl rfl
            · intro a w hC hA K hK
              have h9 := hA.free 9 _ (by kernel_rfl) rfl
              simp only [Oper.wp, execOp]; go_simp
              exact hK _ hC (Fp.refl _ _)
            -- 2
            apply ex_plain rfl rfl rfl
            · intro a w hC hA K hK
              have h28 : a.tmps[28]?.getD undef = _ := hA.dep 0 28 _ (by kernel_rfl) rfl
              have h29 : a.tmps[29]?.getD undef = _ := hA.dep 1 29 _ (by kernel_rfl) rfl
              have q0 := HQ0.out _ hC
              have p0 := HP0.out _ hC
              have p1 := HP1.out _ hC
              simp only [Oper.wp, execOp]; go_simp
              exact hK _ hC (Fp.refl _ _)
            -- 3
            apply ex_plain rfl rfl rfl
            · intro a w hC hA K hK
              have h30 : a.tmps[30]?.getD undef = _ := hA.dep 2 30 _ (by kernel_rfl) rfl
              have q0 := HQ0.out _ hC
              have p0 := HP0.out _ hC
              have p1 := HP1.out _ hC
              simp only [Oper.wp, execOp]; go_simp
              exact hK _ hC (Fp.refl _ _)
            -- 4
            apply ex_plain rfl rfl rfl
            · intro a w hC hA K hK
              have h31 : a.tmps[31]?.getD undef = _ := hA.dep 3 31 _ (by kernel_rfl) rfl
              have q0 := HQ0.out _ hC
              have p0 := HP0.out _ hC
              have p1 := HP1.out _ hC
              simp only [Oper.wp, execOp]; go_simp
              exact hK _ hC (Fp.refl _ _)
            -- 5
            apply ex_plain rfl rfl rfl
            · intro a w hC hA K hK
              have h32 : a.tmps[32]?.getD undef = _ := hA.dep 4 32 _ (by kernel_rfl) rfl
              simp only [Oper.wp, execOp]; go_simp
              exact hK _ hC (Fp.refl _ _)
            -- 6
            apply ex_plain rfl rfl rfl
            · intro a w hC hA K hK
              have h33 : a.tmps[33]?.getD undef = _ := hA.dep 5 33 _ (by kernel_rfl) rfl
              have q0 := HQ0.out _ hC
              have p0 := HP0.out _ hC
              have p1 := HP1.out _ hC
              simp only [Oper.wp, execOp]; go_simp
              exact hK _ hC (Fp.refl _ _)
            -- 7
            apply ex_plain rfl rfl rfl
            · intro a w hC hA K hK
              have h1 := hA.free 1 _ (by kernel_rfl) rfl
              simp only [Oper.wp, execOp]; go_simp
              exact hK _ hC (Fp.refl _ _)
            -- 8
            apply ex_plain rfl rfl rfl
            · intro a w hC hA K hK
              have h34 : a.tmps[34]?.getD undef = _ := hA.dep 6 34 _ (by kernel_rfl) rfl
              have h35 : a.tmps[35]?.getD undef = _ := hA.dep 7 35 _ (by kernel_rfl) rfl
              simp only [Oper.wp, execOp]; go_simp
              exact hK _ hC (Fp.refl _ _)
            -- 9
            apply ex_plain rfl rfl rfl
            · intro a w hC hA K hK
              have h36 : a.tmps[36]?.getD undef = _ := hA.dep 8 36 _ (by kernel_rfl) rfl
              simp only [Oper.wp, execOp]; go_simp
              exact hK _ hC (Fp.refl _ _)
            -- 10
            apply ex_yes 9 37 rfl rfl rfl rfl (by kernel_rfl) rfl rfl
            · intro a w hC hA K hK
              have h8 := hA.free 8 _ (by kernel_rfl) rfl
              simp only [Oper.wp, execOp]; go_simp
              exact hK _ hC (Fp.refl _ _)
            -- 11
            apply ex_yes 9 37 rfl rfl rfl rfl (by kernel_rfl) rfl rfl
            · intro a w hC hA K hK
              have h9 := hA.free 9 _ (by kernel_rfl) rfl
              simp only [Oper.wp, execOp]; go_simp
              exact hK _ hC (Fp.refl _ _)
            -- 12
            apply ex_yes 9 37 rfl rfl rfl rfl (by kernel_rfl) rfl rfl
            · intro a w hC hA K hK
              have h38 : a.tmps[38]?.getD undef = _ := hA.dep 10 38 _ (by kernel_rfl) rfl
              have h39 : a.tmps[39]?.getD undef = _ := hA.dep 11 39 _ (by kernel_rfl) rfl
              have q0 := HQ0.out _ hC
              have p0 := HP0.out _ hC
              have p1 := HP1.out _ hC
              simp only [Oper.wp, execOp]; go_simp
              exact hK _ hC (Fp.refl _ _)
            -- 13
            apply ex_yes 9 37 rfl rfl rfl rfl (by kernel_rfl) rfl rfl
            · intro a w hC hA K hK
              have h40 : a.tmps[40]?.getD undef = _ := hA.dep 12 40 _ (by kernel_rfl) rfl
              have q0 := HQ0.out _ hC
              have p0 := HP0.out _ hC
              have p1 := HP1.out _ hC
              simp only [Oper.wp, execOp]; go_simp
              exact hK _ hC (Fp.refl _ _)
            -- 14
            apply ex_yes 9 37 rfl rfl rfl rfl (by kernel_rfl) rfl rfl
            · intro a w hC hA K hK
              have h8 := hA.free 8 _ (by kernel_rfl) rfl
              simp only [Oper.wp, execOp]; go_simp
              exact hK _ hC (Fp.refl _ _)
            -- 15
            apply ex_yes 9 37 rfl rfl rfl rfl (by kernel_rfl) rfl rfl
            · intro a w hC hA K hK
              have h9 := hA.free 9 _ (by kernel_rfl) rfl
              simp only [Oper.wp, execOp]; go_simp
              exact hK _ hC (Fp.refl _ _)
            -- 16
            apply ex_yes 9 37 rfl rfl rfl rfl (by kernel_rfl) rfl rfl
            · intro a w hC hA K hK
              have h42 : a.tmps[42]?.getD undef = _ := hA.dep 14 42 _ (by kernel_rfl) rfl
              have h43 : a.tmps[43]?.getD undef = _ := hA.dep 15 43 _ (by kernel_rfl) rfl
              have q0 := HQ0.out _ hC
              have p0 := HP0.out _ hC
              have p1 := HP1.out _ hC
              simp only [Oper.wp, execOp]; go_simp
              exact hK _ hC (Fp.refl _ _)
            -- 17
            apply ex_yes 9 37 rfl rfl rfl rfl (by kernel_rfl) rfl rfl
            · intro a w hC hA K hK
              have h44 : a.tmps[44]?.getD undef = _ := hA.dep 16 44 _ (by kernel_rfl) rfl
              have q0 := HQ0.out _ hC
              have p0 := HP0.out _ hC
              have p1 := HP1.out _ hC
              simp only [Oper.wp, execOp]; go_simp
              exact hK _ hC (Fp.refl _ _)
            -- 18
            apply ex_yes 9 37 rfl rfl rfl rfl (by kernel_rfl) rfl rfl
            · intro a w hC hA K hK
              have h45 : a.tmps[45]?.getD undef = _ := hA.dep 17 45 _ (by kernel_rfl) rfl
              simp only [Oper.wp, execOp]; go_simp
              exact hK _ hC (Fp.refl _ _)
            -- 19
            apply ex_yes 9 37 rfl rfl rfl rfl (by kernel_rfl) rfl rfl
            · intro a w hC hA K hK
              have h46 : a.tmps[46]?.getD undef = _ := hA.dep 18 46 _ (by kernel_rfl) rfl
              simp only [Oper.wp, execOp]; go_simp
              exact hK _ hC (Fp.refl _ _)
            -- 20
            apply ex_yes 9 37 rfl rfl rfl rfl (by kernel_rfl) rfl rfl
            · intro a w hC hA K hK
              have h41 : a.tmps[41]?.getD undef = _ := hA.dep 13 41 _ (by kernel_rfl) rfl
              have h47 : a.tmps[47]?.getD undef = _ := hA.dep 19 47 _ (by kernel_rfl) rfl
              have q0 := HQ0.out _ hC
              have p0 := HP0.out _ hC
              have p1 := HP1.out _ hC
              simp only [Oper.wp, execOp]; go_simp
              exact hK _ hC (Fp.refl _ _)
            -- 21
            apply ex_yes 9 37 rfl rfl rfl rfl (by kernel_rfl) rfl rfl
            · intro a w hC hA K hK
              have h48 : a.tmps[48]?.getD undef = _ := hA.dep 20 48 _ (by kernel_rfl) rfl
              simp only [Oper.wp, execOp]; go_simp
              exact hK _ hC (Fp.refl _ _)
            -- 22
            apply ex_yes 9 37 rfl rfl rfl rfl (by kernel_rfl) rfl rfl
            · intro a w hC hA K hK
              have h49 : a.tmps[49]?.getD undef = _ := hA.dep 21 49 _ (by kernel_rfl) rfl
              have q0 := HQ0.out _ hC
              have p0 := HP0.out _ hC
              have p1 := HP1.out _ hC
              simp only [Oper.wp, execOp]; go_simp
              exact hK _ hC (Fp.refl _ _)
            -- 23
            apply ex_yes 9 37 rfl rfl rfl rfl (by kernel_rfl) rfl rfl
            · intro a w hC hA K hK
              have h1 := hA.free 1 _ (by kernel_rfl) rfl
              simp only [Oper.wp, execOp]; go_simp
              exact hK _ hC (Fp.refl _ _)
            -- 24
            apply ex_yes 9 37 rfl rfl rfl rfl (by kernel_rfl) rfl rfl
            · intro a w hC hA K hK
              have h50 : a.tmps[50]?.getD undef = _ := hA.dep 22 50 _ (by kernel_rfl) rfl
              have h51 : a.tmps[51]?.getD undef = _ := hA.dep 23 51 _ (by kernel_rfl) rfl
              simp only [Oper.wp, execOp]; go_simp
              exact hK _ hC (Fp.refl _ _)
            -- 25
            apply ex_plain rfl rfl rfl
            · intro a w hC hA K hK
              have h37 : a.tmps[37]?.getD undef = _ := hA.dep 9 37 _ (by kernel_rfl) rfl
              have h52 : a.tmps[52]?.getD undef = _ := hA.dep 24 52 _ (by kernel_rfl) rfl
              simp only [Oper.wp, execOp]; go_simp
              exact hK _ hC (Fp.refl _ _)
            refine ⟨?_, ?_⟩
            · repeat (first | exact trivial | refine stab_val _ ?_ | refine ⟨fun w1 w2 v _ hf ⟨g, h1, h2⟩ => ⟨g, h1, (hf.block g (heap_lt h2) (by simp)).trans h2⟩, ?_⟩)
            · intro w' hC
              simp only [List.reverse_cons, List.reverse_nil, List.nil_append, List.cons_append]
              iterate 26 (refine all_val ?_)
              refine all_nil ?_
              simp only [putAll, Act.put, List.setIfInBounds_toArray, List.set_cons_succ, List.set_cons_zero]
              have HF6 := Lib.hid (HF.out.trans hC (by simp))
              clear hC
              go_wp2_with (fail)
              go_roundg (gk - 1)
              case measure => omega
              case rel => exact ⟨k + 1, by omega, by rw [HSU.out, show (true && !true) = false from rfl, if_neg (by decide), List.append_nil, HNK.out], by simp, HF6.out⟩
      · obtain rfl : k = m := by omega
        have zk : ¬ (k : Int) < (k : Int) := by omega
        go_wp2_with (fail)
        go_ret
        exact ⟨by rw [HNI.out, if_pos (by trivial), HNK.out]; rfl, HF4.out.trans HF.out (by simp)⟩

/-! Range -/
set_option maxRecDepth 100000 in
set_option maxHeartbeats 8000000 in
theorem trange_any (w : World) (bt : Nat) (F : FileP) (hf : FileAt w bt F) (h0 : 0 < F.l.length) (hn : F.l.length ≤ 1000000) :
    Calls Tryz.prog 42 #[.pointer (some ⟨bt, 0, none⟩)] w fun e w' => e = .returned (.tuple #[.string (firstR F.l), .string (lastR F.l)]) ∧ Fp [] w w' := by
  obtain ⟨pv, b, o, h1, h2, h3⟩ := hf.ex
  obtain ⟨pa, pn, pc, rfl⟩ := h3.slice
  obtain ⟨hpn, hpr⟩ := parts_row h2 h3
  have HB := Lib.hid h1
  have HPR := Lib.hid hpr
  have HCL := Lib.hid h2
  obtain ⟨l, hl⟩ : ∃ x, F.l = x := ⟨_, rfl⟩
  rw [hl] at hpn HPR HCL h0 hn
  rw [hl]
  have hmp : manyP l = (l.length + 7) / 8 := rfl
  have hpn1 : 1 ≤ pn := by omega
  obtain ⟨p1, hp1⟩ : ∃ x, pn - 1 = x := ⟨_, rfl⟩
  have hk1 : p1 < (partsV b o l).length := by rw [partsV_length]; omega
  have hk0 : 0 < (partsV b o l).length := by rw [partsV_length]; omega
  obtain ⟨g1, rfl, hcell⟩ := HPR.out.get hk1
  obtain ⟨g1', eg, hcell0⟩ := HPR.out.get hk0
  obtain rfl : g1 = g1' := by cases eg; rfl
  have h81 : 8 * p1 < l.length := by omega
  obtain ⟨m0, hm0⟩ : ∃ x, min 8 (l.length - 8 * 0) = x := ⟨_, rfl⟩
  obtain ⟨m1, hm1⟩ : ∃ x, min 8 (l.length - 8 * p1) = x := ⟨_, rfl⟩
  have hm0p : 1 ≤ m0 := by omega
  have hm1p : 1 ≤ m1 := by omega
  obtain ⟨x1, hx1⟩ : ∃ x, m1 - 1 = x := ⟨_, rfl⟩
  have hlast : 8 * p1 + x1 = l.length - 1 := by omega
  have HQ1 : Hid (∀ w', Fp [] w w' → w'.cell? ⟨g1, p1, none⟩ = some (.slice (some ⟨b, o + 8 * p1 * 6, none⟩) m1 m1)) := fun w' hf => by
    rw [hcell w' hf, partsV_at hk1, hm1]
  have HQ0 : Hid (∀ w', Fp [] w w' → w'.cell? ⟨g1, 0, none⟩ = some (.slice (some ⟨b, o, none⟩) m0 m0)) := fun w' hf => by
    rw [hcell0 w' hf, partsV_at hk0, hm0]
    simp
  obtain ⟨b, o, ea, hbl0, hc0⟩ := cels_get (k := 0) HCL.out h0
  obtain ⟨b2, o2, eb, hbl1, hc1⟩ := cels_get (k := 8 * p1 + x1) HCL.out (by omega)
  injection ea with ea
  injection ea with ea1 ea2
  injection eb with eb
  injection eb with eb1 eb2
  subst ea1 ea2 eb1 eb2
  have HFR : Hid (firstR l = (l[0]'h0).row) := by
    unfold Hid firstR
    rw [List.getD_eq_getElem?_getD, List.getElem?_eq_getElem h0]; rfl
  have HLR : Hid (lastR l = (l[8 * p1 + x1]'(by omega)).row) := by
    unfold Hid lastR
    rw [← hlast, List.getD_eq_getElem?_getD, List.getElem?_eq_getElem (by omega)]; rfl
  obtain ⟨c0, hcc0⟩ : ∃ c, (l[0]'h0).row = c := ⟨_, rfl⟩
  obtain ⟨c1, hcc1⟩ : ∃ c, (l[8 * p1 + x1]'(by omega)).row = c := ⟨_, rfl⟩
  have HP0 : Hid (∀ w', Fp [] w w' → w'.cell? ⟨b, o, none⟩ = some (.string c0)) := fun w' hf => by
    have h := (hc0 w' hf).c0
    rw [hcc0, Nat.zero_mul, Nat.add_zero] at h
    exact h
  have HP1 : Hid (∀ w', Fp [] w w' → w'.cell? ⟨b, o + 8 * p1 * 6 + x1 * 6, none⟩ = some (.string c1)) := fun w' hf => by
    have h := (hc1 w' hf).c0
    rw [hcc1, Nat.add_mul, ← Nat.add_assoc] at h
    exact h
  rw [hcc0] at HFR
  rw [hcc1] at HLR
  rw [HFR.out, HLR.out]
  have HQ4 : Hid (∀ w', Fp [] w w' → w'.cell? ⟨bt, 4, none⟩ = some (.slice (some ⟨g1, 0, none⟩) pn pc)) := fun w' hf => cell_of_block ((hf.block _ (heap_lt HB.out) (by simp)).trans HB.out) 4
  have q4 := HQ4.out w (Fp.refl _ _)
  have zp0 : ((pn : Int) == 0) = false := by rw [beq_eq_false_iff_ne]; omega
  have n1 : IntKind.i64.wrap ((pn : Int) - 1) = (p1 : Int) := by rw [IntKind.wrap_i64]; omega
  have n2 : IntKind.i64.wrap ((m1 : Int) - 1) = (x1 : Int) := by rw [IntKind.wrap_i64]; omega
  have z1 : (p1 : Int) < (pn : Int) := by omega
  have z2 : (x1 : Int) < (m1 : Int) := by omega
  have z3 : 0 < m0 := by omega
  have z4 : 0 < pn := by omega
  clear hf h1 h2 h3 hpn hpr hl hmp hp1 hk1 hk0 hcell hcell0 h81 hm0 hm1 hx1 hlast hc0 hc1 hcc0 hcc1 eg HFR HLR
  go_enter Tryz.func42, Tryz.ntmps42
  go_wp2_with (fail)
  refine wp_region_calm (by kernel_rfl) (by kernel_rfl) ?_
  -- 0
  apply ex_plain rfl rfl rfl
  · intro a w hC hA K hK
    have h0 := hA.free 0 _ (by kernel_rfl) rfl
    simp only [Oper.wp, execOp]; go_simp
    exact hK _ hC (Fp.refl _ _)
  -- 1
  apply ex_plain rfl rfl rfl
  · intro a w hC hA K hK
    have h11 : a.tmps[11]?.getD undef = _ := hA.dep 0 11 _ (by kernel_rfl) rfl
    simp only [Oper.wp, execOp]; go_simp
    exact hK _ hC (Fp.refl _ _)
  -- 2
  apply ex_plain rfl rfl rfl
  · intro a w hC hA K hK
    have h12 : a.tmps[12]?.getD undef = _ := hA.dep 1 12 _ (by kernel_rfl) rfl
    simp only [Oper.wp, execOp]; go_simp
    exact hK _ hC (Fp.refl _ _)
  -- 3
  apply ex_plain rfl rfl rfl
  · intro a w hC hA K hK
    have h13 : a.tmps[13]?.getD undef = _ := hA.dep 2 13 _ (by kernel_rfl) rfl
    have q4 := HQ4.out _ hC
    have q1 := HQ1.out _ hC
    simp only [Oper.wp, execOp]; go_simp
    exact hK _ hC (Fp.refl _ _)
  -- 4
  apply ex_plain rfl rfl rfl
  · intro a w hC hA K hK
    have h0 := hA.free 0 _ (by kernel_rfl) rfl
    simp only [Oper.wp, execOp]; go_simp
    exact hK _ hC (Fp.refl _ _)
  -- 5
  apply ex_plain rfl rfl rfl
  · intro a w hC hA K hK
    have h15 : a.tmps[15]?.getD undef = _ := hA.dep 4 15 _ (by kernel_rfl) rfl
    simp only [Oper.wp, execOp]; go_simp
    exact hK _ hC (Fp.refl _ _)
  -- 6
  apply ex_plain rfl rfl rfl
  · intro a w hC hA K hK
    have h16 : a.tmps[16]?.getD undef = _ := hA.dep 5 16 _ (by kernel_rfl) rfl
    simp only [Oper.wp, execOp]; go_simp
    exact hK _ hC (Fp.refl _ _)
  -- 7
  apply ex_plain rfl rfl rfl
  · intro a w hC hA K hK
    have h17 : a.tmps[17]?.getD undef = _ := hA.dep 6 17 _ (by kernel_rfl) rfl
    have q4 := HQ4.out _ hC
    have q1 := HQ1.out _ hC
    simp only [Oper.wp, execOp]; go_simp
    exact hK _ hC (Fp.refl _ _)
  -- 8
  apply ex_plain rfl rfl rfl
  · intro a w hC hA K hK
    have h18 : a.tmps[18]?.getD undef = _ := hA.dep 7 18 _ (by kernel_rfl) rfl
    simp only [Oper.wp, execOp]; go_simp
    exact hK _ hC (Fp.refl _ _)
  -- 9
  apply ex_plain rfl rfl rfl
  · intro a w hC hA K hK
    have h19 : a.tmps[19]?.getD undef = _ := hA.dep 8 19 _ (by kernel_rfl) rfl
    simp only [Oper.wp, execOp]; go_simp
    exact hK _ hC (Fp.refl _ _)
  -- 10
  apply ex_plain rfl rfl rfl
  · intro a w hC hA K hK
    have h14 : a.tmps[14]?.getD undef = _ := hA.dep 3 14 _ (by kernel_rfl) rfl
    have h20 : a.tmps[20]?.getD undef = _ := hA.dep 9 20 _ (by kernel_rfl) rfl
    have q4 := HQ4.out _ hC
    have q1 := HQ1.out _ hC
    simp only [Oper.wp, execOp]; go_simp
    exact hK _ hC (Fp.refl _ _)
  -- 11
  apply ex_plain rfl rfl rfl
  · intro a w hC hA K hK
    have h21 : a.tmps[21]?.getD undef = _ := hA.dep 10 21 _ (by kernel_rfl) rfl
    have q4 := HQ4.out _ hC
    have q1 := HQ1.out _ hC
    simp only [Oper.wp, execOp]; go_simp
    exact hK _ hC (Fp.refl _ _)
  -- 12
  apply ex_plain rfl rfl rfl
  · intro a w hC hA K hK
    have h22 : a.tmps[22]?.getD undef = _ := hA.dep 11 22 _ (by kernel_rfl) rfl
    simp only [Oper.wp, execOp]; go_simp
    exact hK _ hC (Fp.refl _ _)
  refine ⟨?_, ?_⟩
  · repeat (first | exact trivial | refine stab_val _ ?_ | refine ⟨fun w1 w2 v _ hf ⟨g, h1, h2⟩ => ⟨g, h1, (hf.block g (heap_lt h2) (by simp)).trans h2⟩, ?_⟩)
  · intro w' hC
    simp only [List.reverse_cons, List.reverse_nil, List.nil_append, List.cons_append]
    iterate 13 (refine all_val ?_)
    refine all_nil ?_
    simp only [putAll, Act.put, List.setIfInBounds_toArray, List.set_cons_succ, List.set_cons_zero]
    have HF1 := Lib.hid hC
    clear hC
    go_wp2_with (fail)
    refine wp_region_calm (by kernel_rfl) (by kernel_rfl) ?_
    -- 0
    apply ex_plain rfl rfl rfl
    · intro a w hC hA K hK
      have h0 := hA.free 0 _ (by kernel_rfl) rfl
      simp only [Oper.wp, execOp]; go_simp
      exact hK _ hC (Fp.refl _ _)
    -- 1
    apply ex_plain rfl rfl rfl
    · intro a w hC hA K hK
      have h23 : a.tmps[23]?.getD undef = _ := hA.dep 0 23 _ (by kernel_rfl) rfl
      simp only [Oper.wp, execOp]; go_simp
      exact hK _ hC (Fp.refl _ _)
    -- 2
    apply ex_plain rfl rfl rfl
    · intro a w hC hA K hK
      have h24 : a.tmps[24]?.getD undef = _ := hA.dep 1 24 _ (by kernel_rfl) rfl
      simp only [Oper.wp, execOp]; go_simp
      exact hK _ hC (Fp.refl _ _)
    -- 3
    apply ex_plain rfl rfl rfl
    · intro a w hC hA K hK
      have h25 : a.tmps[25]?.getD undef = _ := hA.dep 2 25 _ (by kernel_rfl) rfl
      have q4 := HQ4.out _ (HF1.out.trans hC (by simp))
      have q0 := HQ0.out _ (HF1.out.trans hC (by simp))
      have p0 := HP0.out _ (HF1.out.trans hC (by simp))
      have p1 := HP1.out _ (HF1.out.trans hC (by simp))
      simp only [Oper.wp, execOp]; go_simp
      exact hK _ hC (Fp.refl _ _)
    -- 4
    apply ex_plain rfl rfl rfl
    · intro a w hC hA K hK
      have h26 : a.tmps[26]?.getD undef = _ := hA.dep 3 26 _ (by kernel_rfl) rfl
      have q4 := HQ4.out _ (HF1.out.trans hC (by simp))
      have q0 := HQ0.out _ (HF1.out.trans hC (by simp))
      have p0 := HP0.out _ (HF1.out.trans hC (by simp))
      have p1 := HP1.out _ (HF1.out.trans hC (by simp))
      simp only [Oper.wp, execOp]; go_simp
      exact hK _ hC (Fp.refl _ _)
    -- 5
    apply ex_plain rfl rfl rfl
    · intro a w hC hA K hK
      have h27 : a.tmps[27]?.getD undef = _ := hA.dep 4 27 _ (by kernel_rfl) rfl
      have q4 := HQ4.out _ (HF1.out.trans hC (by simp))
      have q0 := HQ0.out _ (HF1.out.trans hC (by simp))
      have p0 := HP0.out _ (HF1.out.trans hC (by simp))
      have p1 := HP1.out _ (HF1.out.trans hC (by simp))
      simp only [Oper.wp, execOp]; go_simp
      exact hK _ hC (Fp.refl _ _)
    -- 6
    apply ex_plain rfl rfl rfl
    · intro a w hC hA K hK
      have h28 : a.tmps[28]?.getD undef = _ := hA.dep 5 28 _ (by kernel_rfl) rfl
      have q4 := HQ4.out _ (HF1.out.trans hC (by simp))
      have q0 := HQ0.out _ (HF1.out.trans hC (by simp))
      have p0 := HP0.out _ (HF1.out.trans hC (by simp))
      have p1 := HP1.out _ (HF1.out.trans hC (by simp))
      simp only [Oper.wp, execOp]; go_simp
      exact hK _ hC (Fp.refl _ _)
    -- 7
    apply ex_plain rfl rfl rfl
    · intro a w hC hA K hK
      have h29 : a.tmps[29]?.getD undef = _ := hA.dep 6 29 _ (by kernel_rfl) rfl
      simp only [Oper.wp, execOp]; go_simp
      exact hK _ hC (Fp.refl _ _)
    -- 8
    apply ex_plain rfl rfl rfl
    · intro a w hC hA K hK
      have h30 : a.tmps[30]?.getD undef = _ := hA.dep 7 30 _ (by kernel_rfl) rfl
      have q4 := HQ4.out _ (HF1.out.trans hC (by simp))
      have q0 := HQ0.out _ (HF1.out.trans hC (by simp))
      have p0 := HP0.out _ (HF1.out.trans hC (by simp))
      have p1 := HP1.out _ (HF1.out.trans hC (by simp))
      simp only [Oper.wp, execOp]; go_simp
      exact hK _ hC (Fp.refl _ _)
    -- 9
    apply ex_plain rfl rfl rfl
    · intro a w hC hA K hK
      have h4 := hA.free 4 _ (by kernel_rfl) rfl
      simp only [Oper.wp, execOp]; go_simp
      exact hK _ hC (Fp.refl _ _)
    -- 10
    apply ex_plain rfl rfl rfl
    · intro a w hC hA K hK
      have h4 := hA.free 4 _ (by kernel_rfl) rfl
      simp only [Oper.wp, execOp]; go_simp
      exact hK _ hC (Fp.refl _ _)
    -- 11
    apply ex_plain rfl rfl rfl
    · intro a w hC hA K hK
      have h33 : a.tmps[33]?.getD undef = _ := hA.dep 10 33 _ (by kernel_rfl) rfl
      simp only [Oper.wp, execOp]; go_simp
      exact hK _ hC (Fp.refl _ _)
    -- 12
    apply ex_plain rfl rfl rfl
    · intro a w hC hA K hK
      have h34 : a.tmps[34]?.getD undef = _ := hA.dep 11 34 _ (by kernel_rfl) rfl
      simp only [Oper.wp, execOp]; go_simp
      exact hK _ hC (Fp.refl _ _)
    -- 13
    apply ex_plain rfl rfl rfl
    · intro a w hC hA K hK
      have h32 : a.tmps[32]?.getD undef = _ := hA.dep 9 32 _ (by kernel_rfl) rfl
      have h35 : a.tmps[35]?.getD undef = _ := hA.dep 12 35 _ (by kernel_rfl) rfl
      have q4 := HQ4.out _ (HF1.out.trans hC (by simp))
      have q0 := HQ0.out _ (HF1.out.trans hC (by simp))
      have p0 := HP0.out _ (HF1.out.trans hC (by simp))
      have p1 := HP1.out _ (HF1.out.trans hC (by simp))
      simp only [Oper.wp, execOp]; go_simp
      exact hK _ hC (Fp.refl _ _)
    -- 14
    apply ex_plain rfl rfl rfl
    · intro a w hC hA K hK
      have h36 : a.tmps[36]?.getD undef = _ := hA.dep 13 36 _ (by kernel_rfl) rfl
      simp only [Oper.wp, execOp]; go_simp
      exact hK _ hC (Fp.refl _ _)
    -- 15
    apply ex_plain rfl rfl rfl
    · intro a w hC hA K hK
      have h37 : a.tmps[37]?.getD undef = _ := hA.dep 14 37 _ (by kernel_rfl) rfl
      have q4 := HQ4.out _ (HF1.out.trans hC (by simp))
      have q0 := HQ0.out _ (HF1.out.trans hC (by simp))
      have p0 := HP0.out _ (HF1.out.trans hC (by simp))
      have p1 := HP1.out _ (HF1.out.trans hC (by simp))
      simp only [Oper.wp, execOp]; go_simp
      exact hK _ hC (Fp.refl _ _)
    -- 16
    apply ex_plain rfl rfl rfl
    · intro a w hC hA K hK
      have h31 : a.tmps[31]?.getD undef = _ := hA.dep 8 31 _ (by kernel_rfl) rfl
      simp only [Oper.wp, execOp]; go_simp
      exact hK _ hC (Fp.refl _ _)
    -- 17
    apply ex_plain rfl rfl rfl
    · intro a w hC hA K hK
      have h38 : a.tmps[38]?.getD undef = _ := hA.dep 15 38 _ (by kernel_rfl) rfl
      simp only [Oper.wp, execOp]; go_simp
      exact hK _ hC (Fp.refl _ _)
    refine ⟨?_, ?_⟩
    · repeat (first | exact trivial | refine stab_val _ ?_ | refine ⟨fun w1 w2 v _ hf ⟨g, h1, h2⟩ => ⟨g, h1, (hf.block g (heap_lt h2) (by simp)).trans h2⟩, ?_⟩)
    · intro w' hC
      simp only [List.reverse_cons, List.reverse_nil, List.nil_append, List.cons_append]
      iterate 18 (refine all_val ?_)
      refine all_nil ?_
      simp only [putAll, Act.put, List.setIfInBounds_toArray, List.set_cons_succ, List.set_cons_zero]
      have HF2 := Lib.hid (HF1.out.trans hC (by simp))
      clear hC
      go_wp2_with (fail)
      refine bodyPost_ret (v := .tuple #[.string c0, .string c1]) (by simp [results, Tryz.results42, go_sem, *]) rfl ⟨rfl, HF2.out⟩
end

section
open Go.RowKit Go.Lib

theorem rowL_seen (l : List Cel) (q : Nat) (row : ByteArray) : rowL (seenL l q) row = seenL (rowL l row) q := by
  unfold rowL seenL
  split
  · rfl
  · rw [List.filter_map]
    rfl
theorem rowL_ok5 {l : List Cel} (h : ∀ c ∈ l, CelOK c) (r : ByteArray) : ∀ c ∈ rowL l r, CelOK c := fun c hc => h c (List.mem_filter.1 hc).1

set_option maxRecDepth 100000 in
set_option maxHeartbeats 16000000 in
theorem same5_any (w : World) (bt : Nat) (a : Option Addr) (n cap : Nat) (l : List Cel) (seq : Nat) (row : ByteArray) (hf : FileAt w bt (openedP l seq)) (hl : CelsAt w a n l) (hlc : n ≤ cap) (hg : GoodT l) (hq : seq < 18446744073709551616) (hrow : row.size ≤ 100000) (ht : TabAt w) :
    Calls Tryz.prog 10 #[.pointer (some ⟨bt, 0, none⟩), .slice a n cap, .int .u64 seq, .string row] w fun e w' => e = .returned (.bool true) ∧ Fp [] w w' := by
  have HL := Lib.hid hl
  have HLN := Lib.hid hl.len
  have HT := Lib.hid ht
  have hpos : 0 < n := by have h1 := hg.pos; have h2 := hl.len; omega
  have hn2 : n ≤ 2000 := by have h1 := hg.len; have h2 := hl.len; omega
  obtain ⟨b, o, rfl⟩ : ∃ b o, a = some ⟨b, o, none⟩ := by
    rcases hl.cells with h | ⟨b, o, e, _⟩
    · rw [h] at hl; have := hl.len; simp at this; omega
    · exact ⟨b, o, e⟩
  have hbs := bloom_small hg.len
  have HOKS := Lib.hid (seenL_ok (q := seq) hq hl.ok)
  have HOKR := Lib.hid (seenL_ok (q := seq) hq (rowL_ok5 hl.ok row))
  have HSL := Lib.hid (seenL_length l seq)
  have hsm : ∀ c ∈ l, c.row.size ≤ 100000 := fun c hc => by have := (may_sizes (errK_may hg.err c hc)).1; omega
  have HRG : Hid (∀ w, FileAt w bt (openedP l seq) → Calls Tryz.prog 42 #[.pointer (some ⟨bt, 0, none⟩)] w fun e w' => e = .returned (.tuple #[.string (firstR l), .string (lastR l)]) ∧ Fp [] w w') := fun w hf => trange_any w bt (openedP l seq) hf hg.pos (by show l.length ≤ _; have := hg.len; omega)
  have HSE : Hid (∀ w, CelsAt w (some ⟨b, o, none⟩) n l → Calls Tryz.prog 43 #[.slice (some ⟨b, o, none⟩) n cap, .int .u64 seq] w fun e w' => ∃ v', e = .returned v' ∧ OwnC w' w.heap.size v' (seenL l seq) ∧ Fp [] w w') := fun w hl => rseen_any w _ n cap l seq hl (fun h => by cases h) (by omega) hq
  have HCE : Hid (∀ w, FileAt w bt (openedP l seq) → Calls Tryz.prog 14 #[.pointer (some ⟨bt, 0, none⟩)] w fun e w' => ∃ v', e = .returned v' ∧ OwnC w' w.heap.size v' (seenL l seq) ∧ Fp [] w w') := fun w hf => tcells_any w bt (openedP l seq) hf (by show l.length ≤ _; have := hg.len; omega) hq
  have HMA : Hid (∀ w, FileAt w bt (openedP l seq) → Calls Tryz.prog 16 #[.pointer (some ⟨bt, 0, none⟩)] w fun e w' => e = .returned (.int .i64 (n : Nat)) ∧ Fp [] w w') := fun w hf => by
    have h := tmany_any w bt (openedP l seq) hf (by show l.length ≤ _; have := hg.len; omega)
    rw [show (openedP l seq).l.length = n from HLN.out.symm] at h
    exact h
  obtain ⟨m, hmm⟩ : ∃ m, manyP l = m := ⟨_, rfl⟩
  have hm8 : (n + 7) / 8 = m := by rw [← hmm, manyP, HLN.out]
  have HBL : Hid (∀ w, FileAt w bt (openedP l seq) → Calls Tryz.prog 15 #[.pointer (some ⟨bt, 0, none⟩)] w fun e w' => e = .returned (.int .i64 (m : Nat)) ∧ Fp [] w w') := fun w hf => by
    have h := tblocks_any w bt (openedP l seq) hf
    rw [show manyP (openedP l seq).l = m from hmm] at h
    exact h
  have HPA := Lib.hid (fun w => rparts_any w b o n cap hlc (by omega))
  rw [hm8] at HPA
  have HSQ : Hid (∀ w, Calls Tryz.prog 17 #[footV (footOf l seq)] w fun e w' => e = .returned (.int .u64 seq) ∧ Fp [] w w') := fun w => fseq_any w (footOf l seq)
  have HRO : Hid (∀ w, FileAt w bt (openedP l seq) → TabAt w → Calls Tryz.prog 18 #[.pointer (some ⟨bt, 0, none⟩), .string row] w fun e w' => ∃ v', e = .returned v' ∧ OwnC w' w.heap.size v' (seenL (rowL l row) seq) ∧ Fp [] w w') := fun w hf ht => by
    have h := trow_any w bt (openedP l seq) row hf (by show l.length ≤ _; have := hg.len; omega) hq (by show (bloomP (rowsP l)).size ≤ _; omega) (by omega) ht
    rw [show rowT (openedP l seq).l (openedP l seq).fil row (openedP l seq).f.seq = seenL (rowL l row) seq from row_good hg row seq] at h
    exact h
  have HRR : Hid (∀ w a c, CelsAt w a n (seenL l seq) → Calls Tryz.prog 45 #[.slice a n c, .string row] w fun e w' => ∃ v', e = .returned v' ∧ OwnC w' w.heap.size v' (seenL (rowL l row) seq) ∧ Fp [] w w') := fun w a c hl => by
    have h := rrow5_any w a n c (seenL l seq) row hl (by omega)
    rw [rowL_seen] at h
    exact h
  obtain ⟨nl, hnl⟩ : ∃ x, (nearI l (bloomP (rowsP l)) row).length = x := ⟨_, rfl⟩
  have HLO : Hid (∀ w, FileAt w bt (openedP l seq) → TabAt w → Calls Tryz.prog 11 #[.pointer (some ⟨bt, 0, none⟩), .string row] w fun e w' => e = .returned (.int .i64 (nl : Nat)) ∧ Fp [] w w') := fun w hf ht => by
    have h := tlooks_any w bt (openedP l seq) row hf (by show l.length ≤ _; have := hg.len; omega) (by show (bloomP (rowsP l)).size ≤ _; omega) (by omega) ht
    rw [show (nearI (openedP l seq).l (openedP l seq).fil row).length = nl from hnl] at h
    exact h
  have HRL : Hid (∀ w, CelsAt w (some ⟨b, o, none⟩) n l → Calls Tryz.prog 46 #[.slice (some ⟨b, o, none⟩) n cap, .string row] w fun e w' => e = .returned (.int .i64 (nl : Nat)) ∧ Fp [] w w') := fun w hl => by
    have h := rlooks_any w (some ⟨b, o, none⟩) n cap l row hl hpos hlc hn2 hrow hsm
    rw [hnl] at h
    exact h
  -- the rows of the first cell, and of the last one
  have hc0 := cels_get (k := 0) hl (by rw [← hl.len]; exact hpos)
  have hc1 := cels_get (k := n - 1) hl (by rw [← hl.len]; omega)
  obtain ⟨b0, o0, ea, hbl0, hc0⟩ := hc0
  obtain ⟨b1, o1, eb, hbl1, hc1⟩ := hc1
  injection ea with ea
  injection ea with ea1 ea2
  injection eb with eb
  injection eb with eb1 eb2
  subst ea1 ea2 eb1 eb2
  have hfr : firstR l = (l[0]'(by rw [← hl.len]; exact hpos)).row := by
    unfold firstR
    rw [List.getD_eq_getElem?_getD, List.getElem?_eq_getElem (by rw [← hl.len]; exact hpos)]; rfl
  have hlr : lastR l = (l[n - 1]'(by rw [← hl.len]; omega)).row := by
    unfold lastR
    rw [show l.length - 1 = n - 1 by rw [← hl.len], List.getD_eq_getElem?_getD, List.getElem?_eq_getElem (by rw [← hl.len]; omega)]; rfl
  obtain ⟨n1, hn1⟩ : ∃ x, n - 1 = x := ⟨_, rfl⟩
  have HP0 : Hid (∀ w', Fp [] w w' → w'.cell? ⟨b, o, none⟩ = some (.string (firstR l))) := fun w' hf => by
    have h := (hc0 w' hf).c0
    rw [← hfr, Nat.zero_mul, Nat.add_zero] at h
    exact h
  have HP1 : Hid (∀ w', Fp [] w w' → w'.cell? ⟨b, o + n1 * 6, none⟩ = some (.string (lastR l))) := fun w' hf => by
    have h := (hc1 w' hf).c0
    rw [← hlr, hn1] at h
    exact h
  obtain ⟨fr, hfre⟩ : ∃ x, firstR l = x := ⟨_, rfl⟩
  obtain ⟨lr, hlre⟩ : ∃ x, lastR l = x := ⟨_, rfl⟩
  rw [hfre] at HP0 HRG
  rw [hlre] at HP1 HRG
  have w1' : IntKind.i64.wrap ((n : Int) - 1) = (n1 : Int) := by rw [IntKind.wrap_i64]; omega
  have z1 : (n1 : Int) < (n : Int) := by omega
  have z0 : (0 : Int) < (n : Int) := by omega
  have HFA := Lib.hid hf
  have HFT : Hid (footV (footOf l seq) = .agg #[.int .i64 (footOf l seq).blocks, .int .i64 (footOf l seq).index, .int .i64 (footOf l seq).filter, .int .u64 seq]) := rfl
  obtain ⟨f0, hf0⟩ : ∃ x, (footOf l seq).blocks = x := ⟨_, rfl⟩
  obtain ⟨f1, hf1⟩ : ∃ x, (footOf l seq).index = x := ⟨_, rfl⟩
  obtain ⟨f2, hf2⟩ : ∃ x, (footOf l seq).filter = x := ⟨_, rfl⟩
  rw [hf0, hf1, hf2] at HFT
  rw [HFT.out] at HSQ
  have HCB : Hid (∀ w', FileAt w' bt (openedP l seq) → w'.cell? ⟨bt, 0, none⟩ = some (.int .i64 (f0 : Nat)) ∧ w'.cell? ⟨bt, 1, none⟩ = some (.int .i64 (f1 : Nat)) ∧ w'.cell? ⟨bt, 2, none⟩ = some (.int .i64 (f2 : Nat)) ∧ w'.cell? ⟨bt, 3, none⟩ = some (.int .u64 seq)) := fun w' hf => by
    obtain ⟨pv, b, o, h1, -, -⟩ := hf.ex
    refine ⟨?_, ?_, ?_, ?_⟩
    · rw [cell_of_block h1, ← hf0]; rfl
    · rw [cell_of_block h1, ← hf1]; rfl
    · rw [cell_of_block h1, ← hf2]; rfl
    · rw [cell_of_block h1]; rfl
  clear hf hl ht hg hbs hsm hmm hm8 hnl hc0 hc1 hfr hlr hn1 hfre hlre hf0 hf1 hf2 HFT
  go_enter Tryz.func10, Tryz.ntmps10
  go_wp2_with (fail)
  (with_reducible refine (HRG.out _ HFA.out).mono ?_)
  rintro e w1 ⟨rfl, hf1⟩
  have HF1 := Lib.hid hf1
  clear hf1
  go_wp2_with (fail)
  (with_reducible refine (HSE.out _ (HL.out.fp HF1.out)).mono ?_)
  rintro e w2 ⟨v2, rfl, ho2, hf2⟩
  obtain ⟨a2, c2, rfl, hc2⟩ := ho2.at HOKS.out
  have HF2 := Lib.hid (HF1.out.trans hf2 (by simp))
  have HC2 := Lib.hid hc2
  have hz2 := HC2.out
  rw [HSL.out, ← HLN.out] at hz2
  have HC2' := Lib.hid hz2
  clear hf2 ho2 hc2 hz2
  rw [HSL.out, ← HLN.out]
  go_wp2_with (fail)
  (with_reducible refine (HCE.out _ (HFA.out.fp HF2.out)).mono ?_)
  rintro e w3 ⟨v3, rfl, ho3, hf3⟩
  obtain ⟨a3, c3, rfl, hc3⟩ := ho3.at HOKS.out
  have HF3 := Lib.hid (HF2.out.trans hf3 (by simp))
  have HC23 := Lib.hid (HC2'.out.fp hf3)
  have hz3 := hc3
  rw [HSL.out, ← HLN.out] at hz3
  have HS3 := Lib.hid (same_any w3 a3 a2 n c3 n c2 (seenL l seq) hz3 HC23.out (by omega))
  clear hf3 ho3 hc3 hz3
  rw [HSL.out, ← HLN.out]
  go_wp2_with (fail)
  (with_reducible refine HS3.out.mono ?_)
  rintro e w4 ⟨rfl, hf4⟩
  have HF4 := Lib.hid (HF3.out.trans hf4 (by simp))
  have HC24 := Lib.hid (HC23.out.fp hf4)
  clear hf4
  go_wp2_with (fail)
  (with_reducible refine (HMA.out _ (HFA.out.fp HF4.out)).mono ?_)
  rintro e w5 ⟨rfl, hf5⟩
  have HF5 := Lib.hid (HF4.out.trans hf5 (by simp))
  have HC25 := Lib.hid (HC24.out.fp hf5)
  clear hf5
  go_wp2_with (fail)
  (with_reducible refine (HBL.out _ (HFA.out.fp HF5.out)).mono ?_)
  rintro e w6 ⟨rfl, hf6⟩
  have HF6 := Lib.hid (HF5.out.trans hf6 (by simp))
  have HC26 := Lib.hid (HC25.out.fp hf6)
  clear hf6
  go_wp2_with (fail)
  (with_reducible refine (HPA.out _).mono ?_)
  rintro e w7 ⟨v7, rfl, ho7, hf7⟩
  obtain ⟨a7, c7, rfl⟩ := ho7.at.1
  rw [rpartsV_length]
  have HF7 := Lib.hid (HF6.out.trans hf7 (by simp))
  have HC27 := Lib.hid (HC26.out.fp hf7)
  obtain ⟨y0, y1, y2, y3⟩ := HCB.out _ (HFA.out.fp HF7.out)
  clear hf7 ho7
  go_wp2_with (fail)
  (with_reducible refine (HSQ.out _).mono ?_)
  rintro e w8 ⟨rfl, hf8⟩
  have HF8 := Lib.hid (HF7.out.trans hf8 (by simp))
  have HC28 := Lib.hid (HC27.out.fp hf8)
  have p0 := HP0.out _ HF8.out
  have p1 := HP1.out _ HF8.out
  clear hf8 y0 y1 y2 y3
  go_wp2_with (fail)
  (with_reducible refine (HRO.out _ (HFA.out.fp HF8.out) (HT.out.fp HF8.out (by simp))).mono ?_)
  rintro e w9 ⟨v9, rfl, ho9, hf9⟩
  obtain ⟨a9, c9, rfl, hc9⟩ := ho9.at HOKR.out
  have HF9 := Lib.hid (HF8.out.trans hf9 (by simp))
  have HC29 := Lib.hid (HC28.out.fp hf9)
  have HC9 := Lib.hid hc9
  clear hf9 ho9 hc9
  go_wp2_with (fail)
  (with_reducible refine (HRR.out _ _ _ HC29.out).mono ?_)
  rintro e w10 ⟨v10, rfl, ho10, hf10⟩
  obtain ⟨a10, c10, rfl, hc10⟩ := ho10.at HOKR.out
  have HF10 := Lib.hid (HF9.out.trans hf10 (by simp))
  have hrl5 : (seenL (rowL l row) seq).length ≤ 2000 := by
    rw [seenL_length]
    exact Nat.le_trans (List.length_filter_le _ _) (by have := HLN.out; omega)
  have HS10 := Lib.hid (same_any w10 a9 a10 _ c9 _ c10 (seenL (rowL l row) seq) (HC9.out.fp hf10) hc10 (by omega))
  clear hf10 ho10 hc10 hrl5
  go_wp2_with (fail)
  (with_reducible refine HS10.out.mono ?_)
  rintro e w11 ⟨rfl, hf11⟩
  have HF11 := Lib.hid (HF10.out.trans hf11 (by simp))
  clear hf11
  go_wp2_with (fail)
  (with_reducible refine (HLO.out _ (HFA.out.fp HF11.out) (HT.out.fp HF11.out (by simp))).mono ?_)
  rintro e w12 ⟨rfl, hf12⟩
  have HF12 := Lib.hid (HF11.out.trans hf12 (by simp))
  clear hf12
  go_wp2_with (fail)
  (with_reducible refine (HRL.out _ (HL.out.fp HF12.out)).mono ?_)
  rintro e w13 ⟨rfl, hf13⟩
  have HF13 := Lib.hid (HF12.out.trans hf13 (by simp))
  clear hf13
  go_wp2_with (fail)
  go_ret
  exact ⟨rfl, HF13.out⟩
end
end Go.Proofs.YtjnapcfclejknaaGreatDoor
