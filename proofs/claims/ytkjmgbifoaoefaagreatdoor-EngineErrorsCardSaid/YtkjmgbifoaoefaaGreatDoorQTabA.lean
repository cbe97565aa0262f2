/-
 Texts with their sums: what crc.Put, crc.Get compute; the walks. Slices of cells that a call owns; append of cells.
-/
import Derived.Test.YtkjmgbifoaoefaaGreatDoorQVdOps2
import Derived.Test.YtkjmgbifoaoefaaGreatDoorQBlkB
import Derived.Test.YtkjmgbifoaoefaaGreatDoorQBlkE
import Derived.Test.YtkjmgbifoaoefaaGreatDoorQBytes
import Derived.Test.YtkjmgbifoaoefaaGreatDoorQBuild
import Derived.Test.YtkjmgbifoaoefaaGreatDoorQRegion
import Derived.Test.YtkjmgbifoaoefaaGreatDoorRows
import Derived.Maps.AppendAt
import Derived.Laws.AppendOwnNone
set_option maxRecDepth 100000
set_option maxHeartbeats 8000000
namespace Go.Proofs.YtkjmgbifoaoefaaGreatDoor
section
open Go.RowKit
def quad (n : Nat) : List UInt8 := [UInt8.ofNat n, UInt8.ofNat (n / 256), UInt8.ofNat (n / 65536), UInt8.ofNat (n / 16777216)]
def quadN (a b c d : UInt8) : Nat := a.toNat + b.toNat * 256 + c.toNat * 65536 + d.toNat * 16777216
def crcN (h s : ByteArray) : Nat := moreN (moreN 0 h) s
theorem moreN_lt (n : Nat) (s : ByteArray) : moreN n s < 4294967296 := by unfold moreN; omega
theorem crcN_lt (h s : ByteArray) : crcN h s < 4294967296 := moreN_lt _ _
def recB (s : ByteArray) : ByteArray := bl (two s.size) ++ bl (quad (crcN (bl (two s.size)) s)) ++ s
def putP (s : ByteArray) : ByteArray × Nat := if s.size > 65535 then (⟨#[]⟩, 71) else (recB s, 0)
theorem recB_size (s : ByteArray) : (recB s).size = 6 + s.size := by
 unfold recB
 rw [ByteArray.size_append, ByteArray.size_append, bl_size, bl_size]
 rfl
def endN (s : ByteArray) : Nat := 6 + (atB s 0).toNat + (atB s 1).toNat * 256
def getP (s : ByteArray) : ByteArray × Nat × Nat :=
 if s.size = 0 then (⟨#[]⟩, 0, 3) else if s.size < 6 then (⟨#[]⟩, 0, 10) else if s.size < endN s then (⟨#[]⟩, 0, 10)
 else if crcN (s.extract 0 2) (s.extract 6 (endN s)) = quadN (atB s 2) (atB s 3) (atB s 4) (atB s 5) then (s.extract 6 (endN s), endN s, 0) else (⟨#[]⟩, 0, 20)
theorem conv4 {w : World} {g a b c d : Nat} (hg : w.heap[g]? = some (.cells #[.int .u8 a, .int .u8 b, .int .u8 c, .int .u8 d] 5 (0, 0))) (ha : a < 256) (hb : b < 256) (hc : c < 256) (hd : d < 256) :
  (convert 67 9 (.slice (some ⟨g, 0, none⟩) 4 4)).run Tryz.prog w = .ok (.string (bl [UInt8.ofNat a, UInt8.ofNat b, UInt8.ofNat c, UInt8.ofNat d])) w := by
 refine str_of_brow (cap := 4) (n := 4) (f := fun j => [UInt8.ofNat a, UInt8.ofNat b, UInt8.ofNat c, UInt8.ofNat d].getD j 0) ⟨heap_lt hg, fun j hj => ?_, fun j _ => frozen_of_block hg j⟩
 have h3 : j = 0 ∨ j = 1 ∨ j = 2 ∨ j = 3 := by omega
 rcases h3 with rfl | rfl | rfl | rfl
 ·rw [cell_of_block hg]; show _ = some (byteV (UInt8.ofNat a)); rw [byteV_ofNat ha]; rfl
 ·rw [cell_of_block hg]; show _ = some (byteV (UInt8.ofNat b)); rw [byteV_ofNat hb]; rfl
 ·rw [cell_of_block hg]; show _ = some (byteV (UInt8.ofNat c)); rw [byteV_ofNat hc]; rfl
 ·rw [cell_of_block hg]; show _ = some (byteV (UInt8.ofNat d)); rw [byteV_ofNat hd]; rfl
theorem ofNat_u8' (n : Nat) : ∃ m : Nat, m < 256 ∧ IntKind.u8.wrap (n : Int) = (m : Int) ∧ UInt8.ofNat n = UInt8.ofNat m := by
 refine ⟨n % 256, by omega, by rw [IntKind.wrap_u8]; omega, ?_⟩
 apply UInt8.toNat_inj.1
 simp only [UInt8.toNat_ofNat']
 omega
theorem put_any (s : ByteArray) (w : World) (hs : s.size ≤ 100000000) (ht : TabAt w) :
  Calls Tryz.prog 161 #[.string s] w fun e w' => e = .returned (.tuple #[.string (putP s).1, .int .i64 (putP s).2]) ∧ Fp [] w w' := by
 by_cases hw : s.size > 65535
 ·have hp : putP s = (⟨#[]⟩, 71) := if_pos hw
  rw [hp]
  have z : (s.size : Int) > 65535 := by omega
  go_enter Tryz.func161, Tryz.ntmps161
  go_wp2_with (fail)
  go_ret2
  exact ⟨rfl, Fp.refl _ _⟩
 ·have hp : putP s = (recB s, 0) := if_neg hw
  rw [hp]
  have z : ¬ (s.size : Int) > 65535 := by omega
  obtain ⟨x, hx⟩ : ∃ x, crcN (bl (two s.size)) s = x := ⟨_, rfl⟩
  have hxl : x < 4294967296 := by rw [← hx]; exact crcN_lt _ _
  have HR : Hid (recB s = bl (two s.size) ++ bl (quad x) ++ s) := by unfold Hid recB; rw [hx]
  have HS := Lib.hid (fun w ht => sum_any (bl (two s.size)) w (by rw [bl_size]; show 2 ≤ _; decide) ht)
  have HX := Lib.hid (fun w ht => more_any (moreN 0 (bl (two s.size))) s w (moreN_lt _ _) hs ht)
  rw [show moreN (moreN 0 (bl (two s.size))) s = x from hx] at HX
  have hml := moreN_lt 0 (bl (two s.size))
  obtain ⟨m, hm⟩ : ∃ m, moreN 0 (bl (two s.size)) = m := ⟨_, rfl⟩
  rw [hm] at HS HX hml
  have HT := Lib.hid ht
  clear hx hm hp ht
  obtain ⟨a0, la0, ea0, fa0⟩ := ofNat_u8' s.size
  obtain ⟨a1, la1, ea1, fa1⟩ := ofNat_u8' (s.size / 256)
  obtain ⟨y1, hy1⟩ : ∃ y, s.size / 256 = y := ⟨_, rfl⟩
  have d1 : (s.size : Int) / 256 = (y1 : Int) := by omega
  have HTW : Hid (bl [UInt8.ofNat a0, UInt8.ofNat a1] = bl (two s.size)) := by unfold Hid two; rw [fa0, fa1]
  rw [hy1] at ea1
  obtain ⟨x0, lx0, ex0, fx0⟩ := ofNat_u8' x
  obtain ⟨x1, lx1, ex1, fx1⟩ := ofNat_u8' (x / 256)
  obtain ⟨x2, lx2, ex2, fx2⟩ := ofNat_u8' (x / 65536)
  obtain ⟨x3, lx3, ex3, fx3⟩ := ofNat_u8' (x / 16777216)
  obtain ⟨z1, hz1⟩ : ∃ y, x / 256 = y := ⟨_, rfl⟩
  obtain ⟨z2, hz2⟩ : ∃ y, x / 65536 = y := ⟨_, rfl⟩
  obtain ⟨z3, hz3⟩ : ∃ y, x / 16777216 = y := ⟨_, rfl⟩
  have dx1 : (x : Int) / 256 = (z1 : Int) := by omega
  have dx2 : (x : Int) / 65536 = (z2 : Int) := by omega
  have dx3 : (x : Int) / 16777216 = (z3 : Int) := by omega
  have HQ : Hid (bl [UInt8.ofNat x0, UInt8.ofNat x1, UInt8.ofNat x2, UInt8.ofNat x3] = bl (quad x)) := by unfold Hid quad; rw [fx0, fx1, fx2, fx3]
  rw [hz1] at ex1
  rw [hz2] at ex2
  rw [hz3] at ex3
  clear fa0 fa1 fx0 fx1 fx2 fx3 hz1 hz2 hz3 hy1
  have HC2 := Lib.hid (conv2 (w := w.alloc (.cells #[.int .u8 a0, .int .u8 a1] 5)) (heap_alloc_at rfl _) la0 la1)
  have hcv := HC2.out
  rw [HTW.out] at hcv
  go_enter Tryz.func161, Tryz.ntmps161
  go_wp2_with (fail)
  (with_reducible refine (HS.out _ (HT.out.fp (Fp.alloc _ _) (by simp))).mono ?_)
  rintro e w1 ⟨rfl, hf1⟩
  have HF1 := Lib.hid ((Fp.alloc w _).trans hf1 (by simp))
  clear hf1 hcv
  go_wp2_with (fail)
  (with_reducible refine (HX.out _ (HT.out.fp HF1.out (by simp))).mono ?_)
  rintro e w2 ⟨rfl, hf2⟩
  have HF2 := Lib.hid (HF1.out.trans hf2 (by simp))
  clear hf2
  have hcv4 := conv4 (w := w2.alloc (.cells #[.int .u8 x0, .int .u8 x1, .int .u8 x2, .int .u8 x3] 5)) (heap_alloc_at rfl _) lx0 lx1 lx2 lx3
  rw [HQ.out] at hcv4
  have l1 : (bl (two s.size)).size = 2 := by rw [bl_size]; rfl
  have l2 : (bl (quad x)).size = 4 := by rw [bl_size]; rfl
  obtain ⟨t1, ht1⟩ : ∃ t, bl (two s.size) = t := ⟨_, rfl⟩
  obtain ⟨t2, ht2⟩ : ∃ t, bl (quad x) = t := ⟨_, rfl⟩
  rw [ht1] at l1 HR ⊢
  rw [ht2] at l2 HR hcv4
  have zl : ¬ t1.size + t2.size > 9223372036854775807 := by omega
  have zl2 : ¬ t1.size + t2.size + s.size > 9223372036854775807 := by omega
  clear ht1 ht2 l1 l2
  go_wp2_with (fail)
  go_ret2
  exact ⟨by rw [HR.out]; rfl, HF2.out.alloc' _⟩
theorem or_u32 (n m k : Nat) (hn : n < 2 ^ k) (hk : n + m * 2 ^ k < 4294967296) : bits .or .u32 (n : Int) ((m * 2 ^ k : Nat) : Int) = ((n + m * 2 ^ k : Nat) : Int) := by
 have h1 : (BitVec.ofInt 32 (n : Int)).toNat = n := by
  rw [BitVec.ofInt_natCast, BitVec.toNat_ofNat]; exact Nat.mod_eq_of_lt (by omega)
 have h2 : (BitVec.ofInt 32 ((m * 2 ^ k : Nat) : Int)).toNat = m * 2 ^ k := by
  rw [BitVec.ofInt_natCast, BitVec.toNat_ofNat]; exact Nat.mod_eq_of_lt (by omega)
 show IntKind.u32.wrap ((BitVec.ofInt 32 (n : Int) ||| BitVec.ofInt 32 ((m * 2 ^ k : Nat) : Int)).toNat : Int) = _
 have h3 := Nat.two_pow_add_eq_or_of_lt hn m
 rw [BitVec.toNat_or, h1, h2, Nat.or_comm, Nat.mul_comm, ← h3, IntKind.wrap_u32]
 rw [Nat.mul_comm (2 ^ k) m]
 omega
theorem getP_none {s : ByteArray} (h : s.size = 0) : getP s = (⟨#[]⟩, 0, 3) := if_pos h
theorem getP_short {s : ByteArray} (h0 : ¬ s.size = 0) (h : s.size < 6) : getP s = (⟨#[]⟩, 0, 10) := by unfold getP; rw [if_neg h0, if_pos h]
theorem getP_cut {s : ByteArray} (h0 : ¬ s.size = 0) (h1 : ¬ s.size < 6) (h : s.size < endN s) : getP s = (⟨#[]⟩, 0, 10) := by unfold getP; rw [if_neg h0, if_neg h1, if_pos h]
theorem getP_sum {s : ByteArray} (h0 : ¬ s.size = 0) (h1 : ¬ s.size < 6) (h2 : ¬ s.size < endN s) (h : ¬ crcN (s.extract 0 2) (s.extract 6 (endN s)) = quadN (atB s 2) (atB s 3) (atB s 4) (atB s 5)) : getP s = (⟨#[]⟩, 0, 20) := by
 unfold getP; rw [if_neg h0, if_neg h1, if_neg h2, if_neg h]
theorem getP_ok {s : ByteArray} (h0 : ¬ s.size = 0) (h1 : ¬ s.size < 6) (h2 : ¬ s.size < endN s) (h : crcN (s.extract 0 2) (s.extract 6 (endN s)) = quadN (atB s 2) (atB s 3) (atB s 4) (atB s 5)) : getP s = (s.extract 6 (endN s), endN s, 0) := by
 unfold getP; rw [if_neg h0, if_neg h1, if_neg h2, if_pos h]
theorem atB_get (s : ByteArray) (i : Nat) (h : i < s.size) : s[i] = atB s i := by
 unfold atB
 rw [List.getD_eq_getElem?_getD, List.getElem?_eq_getElem (by simpa using h)]
 simp
 rfl
theorem get_any (s : ByteArray) (w : World) (hs : s.size ≤ 100000000) (ht : TabAt w) :
  Calls Tryz.prog 35 #[.string s] w fun e w' => e = .returned (.tuple #[.string (getP s).1, .int .i64 (getP s).2.1, .int .i64 (getP s).2.2]) ∧ Fp [] w w' := by
 by_cases h0 : s.size = 0
 ·rw [getP_none h0]
  obtain rfl : s = ⟨#[]⟩ := ByteArray.ext (Array.eq_empty_of_size_eq_zero h0)
  go_enter Tryz.func35, Tryz.ntmps35
  go_wp2_with (fail)
  refine bodyPost_ret (v := .tuple #[.string ⟨#[]⟩, .int .i64 0, .int .i64 3]) (by simp [results, Tryz.results35, go_sem, *]) rfl ⟨rfl, Fp.refl _ _⟩
 have hne : (s.toList == ([] : List UInt8)) = false := by
  rw [beq_eq_false_iff_ne]
  intro e
  apply h0
  have h2 := congrArg List.length e
  rw [ByteArray.toList_eq] at h2
  exact h2
 by_cases h1 : s.size < 6
 ·rw [getP_short h0 h1]
  have z : (s.size : Int) < 6 := by omega
  go_enter Tryz.func35, Tryz.ntmps35
  go_wp2_with (fail)
  refine bodyPost_ret (v := .tuple #[.string ⟨#[]⟩, .int .i64 0, .int .i64 10]) (by simp [results, Tryz.results35, go_sem, *]) rfl ⟨rfl, Fp.refl _ _⟩
 have z1 : ¬ (s.size : Int) < 6 := by omega
 have e0 := atB_get s 0 (by omega)
 have p0 : 0 < s.size := by omega
 have e1 := atB_get s 1 (by omega)
 have p1 : (1 : Int) < (s.size : Int) := by omega
 have e2 := atB_get s 2 (by omega)
 have p2 : (2 : Int) < (s.size : Int) := by omega
 have e3 := atB_get s 3 (by omega)
 have p3 : (3 : Int) < (s.size : Int) := by omega
 have e4 := atB_get s 4 (by omega)
 have p4 : (4 : Int) < (s.size : Int) := by omega
 have e5 := atB_get s 5 (by omega)
 have p5 : (5 : Int) < (s.size : Int) := by omega
 have hb0 := (atB s 0).toNat_lt
 have hb1 := (atB s 1).toNat_lt
 have hb2 := (atB s 2).toNat_lt
 have hb3 := (atB s 3).toNat_lt
 have hb4 := (atB s 4).toNat_lt
 have hb5 := (atB s 5).toNat_lt
 obtain ⟨x0, hx0⟩ : ∃ x, (atB s 0).toNat = x := ⟨_, rfl⟩
 obtain ⟨x1, hx1⟩ : ∃ x, (atB s 1).toNat = x := ⟨_, rfl⟩
 obtain ⟨x2, hx2⟩ : ∃ x, (atB s 2).toNat = x := ⟨_, rfl⟩
 obtain ⟨x3, hx3⟩ : ∃ x, (atB s 3).toNat = x := ⟨_, rfl⟩
 obtain ⟨x4, hx4⟩ : ∃ x, (atB s 4).toNat = x := ⟨_, rfl⟩
 obtain ⟨x5, hx5⟩ : ∃ x, (atB s 5).toNat = x := ⟨_, rfl⟩
 obtain ⟨en, hen⟩ : ∃ en, endN s = en := ⟨_, rfl⟩
 obtain ⟨q, hq⟩ : ∃ q, quadN (atB s 2) (atB s 3) (atB s 4) (atB s 5) = q := ⟨_, rfl⟩
 have hen2 : en = 6 + x0 + x1 * 256 := by rw [← hen, ← hx0, ← hx1]; rfl
 have hq2 : q = x2 + x3 * 256 + x4 * 65536 + x5 * 16777216 := by rw [← hq, ← hx2, ← hx3, ← hx4, ← hx5]; rfl
 have HCUT := Lib.hid (fun h => getP_cut h0 h1 h)
 have HSUM := Lib.hid (fun h2 h => getP_sum h0 h1 h2 h)
 have HOKG := Lib.hid (fun h2 h => getP_ok h0 h1 h2 h)
 rw [hen] at HCUT HSUM HOKG
 rw [hq] at HSUM HOKG
 rw [hx0] at hb0
 rw [hx1] at hb1
 rw [hx2] at hb2
 rw [hx3] at hb3
 rw [hx4] at hb4
 rw [hx5] at hb5
 have k0 : IntKind.i64.wrap (x0 : Int) = x0 := by rw [IntKind.wrap_i64]; omega
 have k1 : IntKind.i64.wrap (x1 : Int) = x1 := by rw [IntKind.wrap_i64]; omega
 have k2 : IntKind.i64.wrap (6 + (x0 : Int)) = 6 + x0 := by rw [IntKind.wrap_i64]; omega
 obtain ⟨y1, hy1⟩ : ∃ y, x1 * 256 = y := ⟨_, rfl⟩
 have k3 : IntKind.i64.wrap ((x1 : Int) * 256) = (y1 : Int) := by rw [IntKind.wrap_i64]; omega
 have k4 : IntKind.i64.wrap (6 + (x0 : Int) + (y1 : Int)) = (en : Int) := by rw [IntKind.wrap_i64]; omega
 have he6 : 6 ≤ en := by omega
 have heb : en ≤ 70000 := by omega
 have u2 : IntKind.u32.wrap (x2 : Int) = x2 := by rw [IntKind.wrap_u32]; omega
 have u3 : IntKind.u32.wrap (x3 : Int) = x3 := by rw [IntKind.wrap_u32]; omega
 have u4 : IntKind.u32.wrap (x4 : Int) = x4 := by rw [IntKind.wrap_u32]; omega
 have u5 : IntKind.u32.wrap (x5 : Int) = x5 := by rw [IntKind.wrap_u32]; omega
 obtain ⟨y3, hy3⟩ : ∃ y, x3 * 2 ^ 8 = y := ⟨_, rfl⟩
 obtain ⟨y4, hy4⟩ : ∃ y, x4 * 2 ^ 16 = y := ⟨_, rfl⟩
 obtain ⟨y5, hy5⟩ : ∃ y, x5 * 2 ^ 24 = y := ⟨_, rfl⟩
 have v3 : IntKind.u32.wrap ((x3 : Int) * 256) = (y3 : Int) := by rw [IntKind.wrap_u32]; omega
 have v4 : IntKind.u32.wrap ((x4 : Int) * 65536) = (y4 : Int) := by rw [IntKind.wrap_u32]; omega
 have v5 : IntKind.u32.wrap ((x5 : Int) * 16777216) = (y5 : Int) := by rw [IntKind.wrap_u32]; omega
 have o3 := or_u32 x2 x3 8 (by omega) (by omega)
 rw [hy3] at o3
 obtain ⟨r3, hr3⟩ : ∃ r, x2 + y3 = r := ⟨_, rfl⟩
 rw [hr3] at o3
 have o4 := or_u32 r3 x4 16 (by omega) (by omega)
 rw [hy4] at o4
 obtain ⟨r4, hr4⟩ : ∃ r, r3 + y4 = r := ⟨_, rfl⟩
 rw [hr4] at o4
 have o5 := or_u32 r4 x5 24 (by omega) (by omega)
 rw [hy5] at o5
 rw [show r4 + y5 = q from by omega] at o5
 have hql : q < 4294967296 := by omega
 clear hen hq hen2 hq2 hy1 hy3 hy4 hy5 hr3 hr4 h0
 have HT := Lib.hid ht
 clear ht
 by_cases hE : s.size < en
 ·rw [HCUT.out hE]
  have z2 : (s.size : Int) < en := by omega
  go_enter Tryz.func35, Tryz.ntmps35
  go_wp2_with (fail)
  refine wp_region_calm (by kernel_rfl) (by kernel_rfl) ?_
  iterate 10
   apply ex_plain rfl rfl rfl
   ·intro a w hC hA K hK
    have := hA.f 0
    try have := hA.e 0 14
    try have := hA.e 1 15
    try have := hA.e 2 16
    try have := hA.e 4 18
    try have := hA.e 5 19
    try have := hA.e 6 20
    try have := hA.e 3 17
    try have := hA.e 7 21
    try have := hA.e 8 22
    simp only [Oper.wp, execOp]; go_simp
    exact hK _ hC (Fp.refl _ _)
  refine ex_end ?_
  iterate 10 refine end_val ?_
  refine end_nil fun w' hC => ?_
  ·simp only [putAll, Act.put, List.setIfInBounds_toArray, List.set_cons_succ, List.set_cons_zero]
   go_wp2_with (fail)
   refine bodyPost_ret (v := .tuple #[.string ⟨#[]⟩, .int .i64 0, .int .i64 10]) (by simp [results, Tryz.results35, go_sem, *]) rfl ⟨rfl, hC⟩
 have z2 : ¬ (s.size : Int) < en := by omega
 have hE2 : (en : Int) ≤ s.size := by omega
 have h2s : (2 : Int) ≤ s.size := by omega
 have h6e : (6 : Int) ≤ en := by omega
 obtain ⟨g, hg⟩ : ∃ g, crcN (s.extract 0 2) (s.extract 6 en) = g := ⟨_, rfl⟩
 rw [hg] at HSUM HOKG
 have zx1 : (s.extract 0 2).size ≤ 100000000 := by rw [ByteArray.size_extract]; omega
 have zx2 : (s.extract 6 en).size ≤ 100000000 := by rw [ByteArray.size_extract]; omega
 have HS := Lib.hid (fun w ht => sum_any (s.extract 0 2) w zx1 ht)
 have HX := Lib.hid (fun w ht => more_any (moreN 0 (s.extract 0 2)) (s.extract 6 en) w (moreN_lt _ _) zx2 ht)
 rw [show moreN (moreN 0 (s.extract 0 2)) (s.extract 6 en) = g from hg] at HX
 obtain ⟨m, hm⟩ : ∃ m, moreN 0 (s.extract 0 2) = m := ⟨_, rfl⟩
 rw [hm] at HS HX
 clear hg hm zx1 zx2
 by_cases hgq : g = q
 ·rw [HOKG.out hE hgq]
  subst hgq
  go_enter Tryz.func35, Tryz.ntmps35
  go_wp2_with (fail)
  refine wp_region_calm (by kernel_rfl) (by kernel_rfl) ?_
  iterate 10
   apply ex_plain rfl rfl rfl
   ·intro a w hC hA K hK
    have := hA.f 0
    try have := hA.e 0 14
    try have := hA.e 1 15
    try have := hA.e 2 16
    try have := hA.e 4 18
    try have := hA.e 5 19
    try have := hA.e 6 20
    try have := hA.e 3 17
    try have := hA.e 7 21
    try have := hA.e 8 22
    simp only [Oper.wp, execOp]; go_simp
    exact hK _ hC (Fp.refl _ _)
  refine ex_end ?_
  iterate 10 refine end_val ?_
  refine end_nil fun w' hC => ?_
  ·simp only [putAll, Act.put, List.setIfInBounds_toArray, List.set_cons_succ, List.set_cons_zero]
   have HF1 := Lib.hid hC
   clear hC
   go_wp2_with (fail)
   refine wp_region_calm (by kernel_rfl) (by kernel_rfl) ?_
   iterate 19
    apply ex_plain rfl rfl rfl
    ·intro a w hC hA K hK
     have := hA.f 0
     try have := hA.e 0 27
     try have := hA.e 1 28
     try have := hA.e 3 30
     try have := hA.e 4 31
     try have := hA.e 5 32
     try have := hA.e 2 29
     try have := hA.e 6 33
     try have := hA.e 8 35
     try have := hA.e 9 36
     try have := hA.e 10 37
     try have := hA.e 7 34
     try have := hA.e 11 38
     try have := hA.e 13 40
     try have := hA.e 14 41
     try have := hA.e 15 42
     try have := hA.e 12 39
     try have := hA.e 16 43
     try have := hA.e 17 44
     simp only [Oper.wp, execOp]; go_simp
     exact hK _ hC (Fp.refl _ _)
   refine ex_end ?_
   iterate 19 refine end_val ?_
   refine end_nil fun w' hC => ?_
   ·simp only [putAll, Act.put, List.setIfInBounds_toArray, List.set_cons_succ, List.set_cons_zero]
    have HF2 := Lib.hid (HF1.out.trans hC (by simp))
    clear hC
    go_wp2_with (fail)
    refine wp_region_calm (by kernel_rfl) (by kernel_rfl) ?_
    iterate 9
     apply ex_plain rfl rfl rfl
     ·intro a w hC hA K hK
      have := hA.f 0
      have := hA.f 5
      have := hA.f 6
      try have := hA.e 0 45
      try have := hA.e 1 46
      try have := hA.e 3 48
      try have := hA.e 4 49
      try have := hA.e 2 47
      try have := hA.e 5 50
      try have := hA.e 6 51
      try have := hA.e 7 52
      simp only [Oper.wp, execOp]; go_simp
      first
      |exact hK _ hC (Fp.refl _ _)
      |first
        |((with_reducible refine (HS.out _ (HT.out.fp (HF2.out.trans hC (by simp)) (by simp))).mono ?_); rintro e w2 ⟨rfl, hf⟩; exact hK _ (hC.trans hf (by simp)) hf)
        |((with_reducible refine (HX.out _ (HT.out.fp (HF2.out.trans hC (by simp)) (by simp))).mono ?_); rintro e w2 ⟨rfl, hf⟩; exact hK _ (hC.trans hf (by simp)) hf)
    refine ex_end ?_
    iterate 9 refine end_val ?_
    refine end_nil fun w' hC => ?_
    ·simp only [putAll, Act.put, List.setIfInBounds_toArray, List.set_cons_succ, List.set_cons_zero]
     have HF3 := Lib.hid (HF2.out.trans hC (by simp))
     clear hC
     go_wp2_with (fail)
     refine bodyPost_ret (v := .tuple #[.string (s.extract 6 en), .int .i64 en, .int .i64 0]) (by simp [results, Tryz.results35, go_sem, *]) rfl ⟨rfl, HF3.out⟩
 ·rw [HSUM.out hE hgq]
  have zq : ((g : Int) != (q : Int)) = true := by rw [bne_iff_ne]; omega
  go_enter Tryz.func35, Tryz.ntmps35
  go_wp2_with (fail)
  refine wp_region_calm (by kernel_rfl) (by kernel_rfl) ?_
  iterate 10
   apply ex_plain rfl rfl rfl
   ·intro a w hC hA K hK
    have := hA.f 0
    try have := hA.e 0 14
    try have := hA.e 1 15
    try have := hA.e 2 16
    try have := hA.e 4 18
    try have := hA.e 5 19
    try have := hA.e 6 20
    try have := hA.e 3 17
    try have := hA.e 7 21
    try have := hA.e 8 22
    simp only [Oper.wp, execOp]; go_simp
    exact hK _ hC (Fp.refl _ _)
  refine ex_end ?_
  iterate 10 refine end_val ?_
  refine end_nil fun w' hC => ?_
  ·simp only [putAll, Act.put, List.setIfInBounds_toArray, List.set_cons_succ, List.set_cons_zero]
   have HF1 := Lib.hid hC
   clear hC
   go_wp2_with (fail)
   refine wp_region_calm (by kernel_rfl) (by kernel_rfl) ?_
   iterate 19
    apply ex_plain rfl rfl rfl
    ·intro a w hC hA K hK
     have := hA.f 0
     try have := hA.e 0 27
     try have := hA.e 1 28
     try have := hA.e 3 30
     try have := hA.e 4 31
     try have := hA.e 5 32
     try have := hA.e 2 29
     try have := hA.e 6 33
     try have := hA.e 8 35
     try have := hA.e 9 36
     try have := hA.e 10 37
     try have := hA.e 7 34
     try have := hA.e 11 38
     try have := hA.e 13 40
     try have := hA.e 14 41
     try have := hA.e 15 42
     try have := hA.e 12 39
     try have := hA.e 16 43
     try have := hA.e 17 44
     simp only [Oper.wp, execOp]; go_simp
     exact hK _ hC (Fp.refl _ _)
   refine ex_end ?_
   iterate 19 refine end_val ?_
   refine end_nil fun w' hC => ?_
   ·simp only [putAll, Act.put, List.setIfInBounds_toArray, List.set_cons_succ, List.set_cons_zero]
    have HF2 := Lib.hid (HF1.out.trans hC (by simp))
    clear hC
    go_wp2_with (fail)
    refine wp_region_calm (by kernel_rfl) (by kernel_rfl) ?_
    iterate 9
     apply ex_plain rfl rfl rfl
     ·intro a w hC hA K hK
      have := hA.f 0
      have := hA.f 5
      have := hA.f 6
      try have := hA.e 0 45
      try have := hA.e 1 46
      try have := hA.e 3 48
      try have := hA.e 4 49
      try have := hA.e 2 47
      try have := hA.e 5 50
      try have := hA.e 6 51
      try have := hA.e 7 52
      simp only [Oper.wp, execOp]; go_simp
      first
      |exact hK _ hC (Fp.refl _ _)
      |first
        |((with_reducible refine (HS.out _ (HT.out.fp (HF2.out.trans hC (by simp)) (by simp))).mono ?_); rintro e w2 ⟨rfl, hf⟩; exact hK _ (hC.trans hf (by simp)) hf)
        |((with_reducible refine (HX.out _ (HT.out.fp (HF2.out.trans hC (by simp)) (by simp))).mono ?_); rintro e w2 ⟨rfl, hf⟩; exact hK _ (hC.trans hf (by simp)) hf)
    refine ex_end ?_
    iterate 9 refine end_val ?_
    refine end_nil fun w' hC => ?_
    ·simp only [putAll, Act.put, List.setIfInBounds_toArray, List.set_cons_succ, List.set_cons_zero]
     have HF3 := Lib.hid (HF2.out.trans hC (by simp))
     clear hC
     go_wp2_with (fail)
     refine bodyPost_ret (v := .tuple #[.string ⟨#[]⟩, .int .i64 0, .int .i64 20]) (by simp [results, Tryz.results35, go_sem, *]) rfl ⟨rfl, HF3.out⟩
end
section
open Go.RowKit
def celA (c : Cel) : Array Value := #[.string c.row, .string c.col, .int .u64 c.ts, .int .u64 c.seq, .bool c.del, .string c.val]
def celRow (c : Cel) : List Value := [.string c.row, .string c.col, .int .u64 c.ts, .int .u64 c.seq, .bool c.del, .string c.val]
def CelIn (w : World) (b : Nat) (c : Cel) : Prop := w.heap[b]? = some (.cells (celA c) 24 (0, 0))
theorem CelIn.cell {w : World} {b : Nat} {c : Cel} (h : CelIn w b c) (o : Nat) : w.cell? ⟨b, o, none⟩ = (celA c)[o]? := cell_of_block h o
theorem CelIn.free {w : World} {b : Nat} {c : Cel} (h : CelIn w b c) (o : Nat) : w.frozen? ⟨b, o, none⟩ = false := frozen_of_block h o
theorem CelIn.fp {w w' : World} {b : Nat} {c : Cel} {S : List Nat} (h : CelIn w b c) (hf : Fp S w w') (hb : b ∉ S) : CelIn w' b c := (hf.block b (heap_lt h) hb).trans h
theorem CelIn.set {w : World} {b : Nat} {c c' : Cel} (h : CelIn w b c) (o : Nat) (v : Value) (e : (celA c).setIfInBounds o v = celA c') : CelIn (w.setCell ⟨b, o, none⟩ v) b c' := by
 unfold CelIn
 rw [heap_setCell_same h, e]
theorem CelIn.cells {w : World} {b : Nat} {c : Cel} (h : CelIn w b c) : CelCells w b 0 c := ⟨h.cell 0, h.cell 1, h.cell 2, h.cell 3, h.cell 4, h.cell 5⟩
theorem celRow_at {w : World} {b o : Nat} {c : Cel} (h : CelCells w b o c) (j : Nat) (u : Value) (hu : (celRow c)[j]? = some u) : w.cell? ⟨b, o + j, none⟩ = some u := by
 match j, hu with
 |0, hu => simp [celRow] at hu; subst hu; exact h.c0
 |1, hu => simp [celRow] at hu; subst hu; exact h.c1
 |2, hu => simp [celRow] at hu; subst hu; exact h.c2
 |3, hu => simp [celRow] at hu; subst hu; exact h.c3
 |4, hu => simp [celRow] at hu; subst hu; exact h.c4
 |5, hu => simp [celRow] at hu; subst hu; exact h.c5
 |j + 6, hu => simp [celRow] at hu
theorem flat_len (l : List Cel) : (l.flatMap celRow).length = l.length * 6 := by
 induction l with
 |nil => rfl
 |cons c l ih => rw [List.flatMap_cons, List.length_append, ih, List.length_cons]; show 6 + _ = _; omega
theorem flat_at (l : List Cel) (i j : Nat) (hj : j < 6) (hi : i < l.length) : (l.flatMap celRow)[i * 6 + j]? = (celRow l[i])[j]? := by
 induction l generalizing i with
 |nil => exact absurd hi (Nat.not_lt_zero _)
 |cons c l ih =>
  rw [List.flatMap_cons]
  cases i with
  |zero => rw [List.getElem?_append_left (by show 0 * 6 + j < 6; omega)]; simp
  |succ i =>
   rw [List.getElem?_append_right (by show 6 ≤ (i + 1) * 6 + j; omega)]
   have e : (i + 1) * 6 + j - (celRow c).length = i * 6 + j := by show (i + 1) * 6 + j - 6 = _; omega
   rw [e]
   exact ih i (by simpa using hi)
theorem flat_all {w : World} {b o : Nat} {l : List Cel} (h : ∀ i (hi : i < l.length), CelCells w b (o + i * 6) l[i]) (j : Nat) (u : Value) (hu : (l.flatMap celRow)[j]? = some u) : w.cell? ⟨b, o + j, none⟩ = some u := by
 have hlt : j < l.length * 6 := by rw [← flat_len]; exact (List.getElem?_eq_some_iff.1 hu).1
 have hi : j / 6 < l.length := by omega
 have hj : j % 6 < 6 := Nat.mod_lt _ (by decide)
 have e : j = j / 6 * 6 + j % 6 := by omega
 rw [e, flat_at l _ _ hj hi] at hu
 have := celRow_at (h _ hi) _ _ hu
 rw [e, ← Nat.add_assoc]
 exact this
def OwnC (w : World) (base : Nat) (v : Value) (l : List Cel) : Prop := w.ownsRow base 24 6 v l.length (l.flatMap celRow)
theorem OwnC.nil (w : World) (base : Nat) : OwnC w base (.slice none 0 0) [] := World.ownsRow_nil w base _ _
theorem OwnC.mono {w : World} {base base' : Nat} {v : Value} {l : List Cel} (h : OwnC w base v l) (hb : base' ≤ base) : OwnC w base' v l := by
 obtain ⟨h1, h2⟩ := h
 refine ⟨h1, ?_⟩
 rcases h2 with h2 | ⟨g, cap, cur, hv, hg, r⟩
 ·exact Or.inl h2
 ·exact Or.inr ⟨g, cap, cur, hv, Nat.le_trans hb hg, r⟩
theorem OwnC.lt {w : World} {base : Nat} {v : Value} {l : List Cel} (h : OwnC w base v l) : ∀ k, v.ownBlock = some k → base ≤ k ∧ k < w.heap.size := World.ownsRow.lt h
theorem OwnC.kept {w w' : World} {base : Nat} {v : Value} {l : List Cel} (h : OwnC w base v l) (hf : ∀ k, v.ownBlock = some k → w'.heap[k]? = w.heap[k]?) : OwnC w' base v l := by
 obtain ⟨h1, h2⟩ := h
 refine ⟨h1, ?_⟩
 rcases h2 with h2 | ⟨g, cap, cur, hv, hg, hh, r⟩
 ·exact Or.inl h2
 ·exact Or.inr ⟨g, cap, cur, hv, hg, (hf g (by rw [hv]; rfl)).trans hh, r⟩
theorem OwnC.fp {w w' : World} {base : Nat} {v : Value} {l : List Cel} {S : List Nat} (h : OwnC w base v l) (hf : Fp S w w') (hS : ∀ i ∈ S, i < base) : OwnC w' base v l :=
 h.kept fun k hk => hf.block k (h.lt k hk).2 (fun hm => by have := hS k hm; have := (h.lt k hk).1; omega)
theorem OwnC.at {w : World} {base : Nat} {v : Value} {l : List Cel} (h : OwnC w base v l) (hok : ∀ c ∈ l, CelOK c) : ∃ a cap, v = .slice a l.length cap ∧ CelsAt w a l.length l := by
 obtain ⟨h1, h2⟩ := h
 rcases h2 with ⟨rfl, h0⟩ | ⟨g, cap, cur, rfl, hg, hh, hn, hm, hs, ht⟩
 ·have : l = [] := List.eq_nil_of_length_eq_zero h0
  subst this
  exact ⟨none, 0, rfl, rfl, Or.inl rfl, by simp⟩
 ·refine ⟨_, _, rfl, rfl, Or.inr ⟨g, 0, rfl, heap_lt hh, fun i hi => ?_⟩, hok⟩
  have key : ∀ j, j < 6 → w.cell? ⟨g, 0 + i * 6 + j, none⟩ = (celRow l[i])[j]? := by
   intro j hj
   rw [cell_of_block hh, ← flat_at l i j hj hi, ← ht, List.getElem?_take, if_pos (by omega), Array.getElem?_toList, Nat.zero_add]
  exact ⟨key 0 (by decide), key 1 (by decide), key 2 (by decide), key 3 (by decide), key 4 (by decide), key 5 (by decide)⟩
theorem OwnC.at2 {w : World} {base : Nat} {v : Value} {l : List Cel} (h : OwnC w base v l) (hok : ∀ c ∈ l, CelOK c) : ∃ a cap, v = .slice a l.length cap ∧ (a = none → cap = 0) ∧ CelsAt w a l.length l := by
 obtain ⟨a, cap, e, hc⟩ := h.at hok
 refine ⟨a, cap, e, fun hn => ?_, hc⟩
 rcases h.2 with ⟨h1, _⟩ | ⟨g, c2, cur, h1, _⟩
 ·rw [e] at h1
  injection h1
 ·rw [e, hn] at h1
  injection h1 with h2
  cases h2
theorem OwnC.made (w : World) (base : Nat) (hb : base ≤ w.heap.size) : OwnC (w.alloc (.cells #[] 24)) base (.slice (some ⟨w.heap.size, 0, none⟩) 0 0) [] :=
 World.ownsRow_made w #[] 0 hb (by decide) rfl
theorem Tryz.infoCel : (Tryz.prog.info? 24).map (fun i => (i.zero, i.size, i.bytes)) = some (some (.agg #[.string ⟨#[]⟩, .string ⟨#[]⟩, .int .u64 0, .int .u64 0, .bool false, .string ⟨#[]⟩]), 6, 72) := by kernel_rfl
theorem grown_belowC {w w' : World} {base : Nat} {v : Value} {l : List Cel} (h : OwnC w base v l) (hg : w.grownBy w' v.ownBlock) (hb : base ≤ w.heap.size) : Below base w w' :=
 (Below.refl base w).grown hg hb (fun k hk => (h.lt k hk).1)
theorem cels_oneCell (l : List Cel) : ∀ u ∈ l.flatMap celRow, u.oneCell' = true := by
 intro u hu
 obtain ⟨c, _, hc⟩ := List.mem_flatMap.1 hu
 simp only [celRow, List.mem_cons, List.not_mem_nil, or_false] at hc
 rcases hc with rfl | rfl | rfl | rfl | rfl | rfl <;> rfl
theorem wpList_append_cels {w : World} {ops : Array Oper} {rest : List Oper} {o : Oper} {a : Act} {Q : Exit → Act → World → Prop} (hgd : o.guard = none) (s x : Operand)
  (ho : o.op = .call { callee := .builtin .append, args := #[s, x], argTypes := #[33, 33] }) (base : Nat) (v : Value) (l : List Cel) (hs : a.eval s = v) (hown : OwnC w base v l)
  (ad : Option Addr) (m c : Nat) (ls : List Cel) (hx : a.eval x = .slice ad m c) (hl : CelsAt w ad m ls) (hnone : ad = none → c = 0) (hlen : l.length + ls.length ≤ 1000000000) (hbase : base ≤ w.heap.size)
  (h : ∀ v' w', OwnC w' base v' (l ++ ls) → Below base w w' → wpList Tryz.prog ops Q rest (a.put o.dst v') w') : wpList Tryz.prog ops Q (o :: rest) a w := by
 obtain ⟨i0, hi, hz0, hz1, hz2⟩ := info_parts Tryz.infoCel
 have hm := hl.len
 cases ad with
 |none =>
  have : ls = [] := by
   rcases hl.cells with h0 | ⟨b, o, h0, _⟩
   ·exact h0
   ·cases h0
  subst this
  obtain rfl := hnone rfl
  have hm0 : m = 0 := hm
  subst hm0
  refine wpList_append_own_none hgd s x 33 ho base 24 i0 6 Tryz.underlying33 hi v l.length (l.flatMap celRow) hs hown hx ?_
  exact h v w (by rw [List.append_nil]; exact hown) (Below.refl _ _)
 |some ad =>
  refine wpList_append_own w hgd s x 33 ho base 24 i0 _ 6 72 Tryz.underlying33 hi hz0 hz1 hz2 rfl (by decide) v l.length (l.flatMap celRow) hs hown ad m c (ls.flatMap celRow) hx (by rw [flat_len, hm]) ?_ (cels_oneCell ls) (by unfold maxLen; omega) (by omega) hbase ?_
  ·intro j u hu
   rcases hl.cells with h0 | ⟨b, o, h0, _, hc⟩
   ·subst h0; simp at hu
   ·obtain rfl := Option.some.inj h0
    have e1 : (⟨b, o, none⟩ : Addr).add j = ⟨b, o + j, none⟩ := by unfold Addr.add; split <;> simp_all
    rw [e1]
    exact flat_all hc j u hu
  ·intro v' w' h1 h2 _
   refine h v' w' ?_ (grown_belowC hown h2 hbase)
   unfold OwnC
   rw [List.length_append, List.flatMap_append, ← hm]
   exact h1
theorem CelIn.one {w : World} {b : Nat} {c : Cel} (h : CelIn w b c) (hok : CelOK c) : CelsAt w (some ⟨b, 0, none⟩) 1 [c] :=
 ⟨rfl, Or.inr ⟨b, 0, rfl, heap_lt h, fun i hi => by
  obtain rfl : i = 0 := by simpa using hi
  exact h.cells⟩, by simpa using hok⟩
theorem CelIn.facts0 {w : World} {b : Nat} {c : Cel} (h : CelIn w b c) :
  w.cell? ⟨b, 0, none⟩ = some (.string c.row) ∧ w.cell? ⟨b, 1, none⟩ = some (.string c.col) ∧ w.cell? ⟨b, 2, none⟩ = some (.int .u64 c.ts) ∧
  w.cell? ⟨b, 3, none⟩ = some (.int .u64 c.seq) ∧ w.cell? ⟨b, 4, none⟩ = some (.bool c.del) ∧ w.cell? ⟨b, 5, none⟩ = some (.string c.val) ∧
  w.frozen? ⟨b, 0, none⟩ = false ∧ w.frozen? ⟨b, 1, none⟩ = false ∧ w.frozen? ⟨b, 2, none⟩ = false ∧ w.frozen? ⟨b, 3, none⟩ = false ∧ w.frozen? ⟨b, 4, none⟩ = false ∧ w.frozen? ⟨b, 5, none⟩ = false :=
 ⟨h.cell 0, h.cell 1, h.cell 2, h.cell 3, h.cell 4, h.cell 5, h.free 0, h.free 1, h.free 2, h.free 3, h.free 4, h.free 5⟩
end
end Go.Proofs.YtkjmgbifoaoefaaGreatDoor
