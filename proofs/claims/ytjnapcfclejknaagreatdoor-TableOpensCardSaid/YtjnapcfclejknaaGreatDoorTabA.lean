/-
  Texts with their sums: what crc.Put, crc.Get compute; the walks.
-/
import Derived.Test.YtjnapcfclejknaaGreatDoorCrc
import Derived.Test.YtjnapcfclejknaaGreatDoorRefC
import Derived.Test.YtjnapcfclejknaaGreatDoorBlkB
import Derived.Test.YtjnapcfclejknaaGreatDoorBlkE
import Derived.Test.YtjnapcfclejknaaGreatDoorBytes
namespace Go.Proofs.YtjnapcfclejknaaGreatDoor
open Go.RowKit

def quad (n : Nat) : List UInt8 := [UInt8.ofNat n, UInt8.ofNat (n / 256), UInt8.ofNat (n / 65536), UInt8.ofNat (n / 16777216)]
def quadN (a b c d : UInt8) : Nat := a.toNat + b.toNat * 256 + c.toNat * 65536 + d.toNat * 16777216
theorem quadN_quad (n : Nat) (h : n < 4294967296) : quadN (UInt8.ofNat n) (UInt8.ofNat (n / 256)) (UInt8.ofNat (n / 65536)) (UInt8.ofNat (n / 16777216)) = n := by
  unfold quadN
  simp only [UInt8.toNat_ofNat']
  omega
theorem quadN_lt (a b c d : UInt8) : quadN a b c d < 4294967296 := by
  have := a.toNat_lt; have := b.toNat_lt; have := c.toNat_lt; have := d.toNat_lt
  unfold quadN
  omega
theorem quad_quadN (a b c d : UInt8) : quad (quadN a b c d) = [a, b, c, d] := by
  have ha := a.toNat_lt; have hb := b.toNat_lt; have hc := c.toNat_lt; have hd := d.toNat_lt
  unfold quad
  have e1 : UInt8.ofNat (quadN a b c d) = a := by apply UInt8.toNat_inj.1; rw [UInt8.toNat_ofNat']; unfold quadN; omega
  have e2 : UInt8.ofNat (quadN a b c d / 256) = b := by apply UInt8.toNat_inj.1; rw [UInt8.toNat_ofNat']; unfold quadN; omega
  have e3 : UInt8.ofNat (quadN a b c d / 65536) = c := by apply UInt8.toNat_inj.1; rw [UInt8.toNat_ofNat']; unfold quadN; omega
  have e4 : UInt8.ofNat (quadN a b c d / 16777216) = d := by apply UInt8.toNat_inj.1; rw [UInt8.toNat_ofNat']; unfold quadN; omega
  rw [e1, e2, e3, e4]
/-- the sum of a length and a text -/
def crcN (h s : ByteArray) : Nat := moreN (moreN 0 h) s
theorem moreN_lt (n : Nat) (s : ByteArray) : moreN n s < 4294967296 := by unfold moreN; omega
theorem crcN_lt (h s : ByteArray) : crcN h s < 4294967296 := moreN_lt _ _
theorem moreN_append (n : Nat) (a b : ByteArray) (hn : n < 4294967296) : moreN n (a ++ b) = moreN (moreN n a) b := by
  have h1 : sumN (4294967295 - n) a.data.toList < 4294967296 := sumN_lt _ _ (by omega)
  unfold moreN
  rw [show 4294967295 - (4294967295 - sumN (4294967295 - n) a.data.toList) = sumN (4294967295 - n) a.data.toList from by omega]
  rw [show (a ++ b).data.toList = a.data.toList ++ b.data.toList from by simp]
  unfold sumN
  rw [List.foldl_append]
/-- a text with its sum -/
def recB (s : ByteArray) : ByteArray := bl (two s.size) ++ bl (quad (crcN (bl (two s.size)) s)) ++ s
def putP (s : ByteArray) : ByteArray × Nat := if s.size > 65535 then (⟨#[]⟩, 71) else (recB s, 0)
theorem recB_size (s : ByteArray) : (recB s).size = 6 + s.size := by
  unfold recB
  rw [ByteArray.size_append, ByteArray.size_append, bl_size, bl_size]
  rfl
def endN (s : ByteArray) : Nat := 6 + (atB s 0).toNat + (atB s 1).toNat * 256
def getP (s : ByteArray) : ByteArray × Nat × Nat :=
  if s.size = 0 then (⟨#[]⟩, 0, 3) else if s.size < 6 then (⟨#[]⟩, 0, 10) else if s.size < endN s then (⟨#[]⟩, 0, 10)
  else if crcN (s.extract 0 2) (s.extract 6 (endN s)) = quadN (atB s 2) (atB s 3) (atB s 4) (atB s 5) then (s.extract 6 (endN s), endN s, 0) else (⟨#[]⟩, 0, 20)

theorem conv4 {w : World} {g a b c d : Nat} (hg : w.heap[g]? = some (.cells #[.int .u8 a, .int .u8 b, .int .u8 c, .int .u8 d] 5 (0, 0))) (ha : a < 256) (hb : b < 256) (hc : c < 256) (hd : d < 256) :
    (convert 52 9 (.slice (some ⟨g, 0, none⟩) 4 4)).run Tryz.prog w = .ok (.string (bl [UInt8.ofNat a, UInt8.ofNat b, UInt8.ofNat c, UInt8.ofNat d])) w := by
  refine str_of_brow (cap := 4) (n := 4) (f := fun j => [UInt8.ofNat a, UInt8.ofNat b, UInt8.ofNat c, UInt8.ofNat d].getD j 0) ⟨heap_lt hg, fun j hj => ?_, fun j _ => frozen_of_block hg j⟩
  have h3 : j = 0 ∨ j = 1 ∨ j = 2 ∨ j = 3 := by omega
  rcases h3 with rfl | rfl | rfl | rfl
  · rw [cell_of_block hg]; show _ = some (byteV (UInt8.ofNat a)); rw [byteV_ofNat ha]; rfl
  · rw [cell_of_block hg]; show _ = some (byteV (UInt8.ofNat b)); rw [byteV_ofNat hb]; rfl
  · rw [cell_of_block hg]; show _ = some (byteV (UInt8.ofNat c)); rw [byteV_ofNat hc]; rfl
  · rw [cell_of_block hg]; show _ = some (byteV (UInt8.ofNat d)); rw [byteV_ofNat hd]; rfl
theorem ofNat_u8' (n : Nat) : ∃ m : Nat, m < 256 ∧ IntKind.u8.wrap (n : Int) = (m : Int) ∧ UInt8.ofNat n = UInt8.ofNat m := by
  refine ⟨n % 256, by omega, by rw [IntKind.wrap_u8]; omega, ?_⟩
  apply UInt8.toNat_inj.1
  simp only [UInt8.toNat_ofNat']
  omega

set_option maxRecDepth 100000 in
set_option maxHeartbeats 4000000 in
theorem put_any (s : ByteArray) (w : World) (hs : s.size ≤ 100000000) (ht : TabAt w) :
    Calls Tryz.prog 64 #[.string s] w fun e w' => e = .returned (.tuple #[.string (putP s).1, .int .i64 (putP s).2]) ∧ Fp [] w w' := by
  by_cases hw : s.size > 65535
  · have hp : putP s = (⟨#[]⟩, 71) := if_pos hw
    rw [hp]
    have z : (s.size : Int) > 65535 := by omega
    go_enter Tryz.func64, Tryz.ntmps64
    go_wp2_with (fail)
    go_ret2
    exact ⟨rfl, Fp.refl _ _⟩
  · have hp : putP s = (recB s, 0) := if_neg hw
    rw [hp]
    have z : ¬ (s.size : Int) > 65535 := by omega
    obtain ⟨x, hx⟩ : ∃ x, crcN (bl (two s.size)) s = x := ⟨_, rfl⟩
    have hxl : x < 4294967296 := by rw [← hx]; exact crcN_lt _ _
    have HR : Hid (recB s = bl (two s.size) ++ bl (quad x) ++ s) := by unfold Hid recB; rw [hx]
    have HS := Lib.hid (fun w ht => sum_any (bl (two s.size)) w (by rw [bl_size]; show 2 ≤ _; decide) ht)
    have HX := Lib.hid (fun w ht => more_any (moreN 0 (bl (two s.size))) s w (moreN_lt _ _) hs ht)
    rw [show moreN (moreN 0 (bl (two s.size))) s = x from hx] at HX
    have hml := moreN_lt 0 (bl (two s.size))
    obtain ⟨m, hm⟩ : ∃ m, moreN 0 (bl (two s.size)) = m := ⟨_, rfl⟩
    rw [hm] at HS HX hml
    have HT := Lib.hid ht
    clear hx hm hp ht
    obtain ⟨a0, la0, ea0, fa0⟩ := ofNat_u8' s.size
    obtain ⟨a1, la1, ea1, fa1⟩ := ofNat_u8' (s.size / 256)
    obtain ⟨y1, hy1⟩ : ∃ y, s.size / 256 = y := ⟨_, rfl⟩
    have d1 : (s.size : Int) / 256 = (y1 : Int) := by omega
    have HTW : Hid (bl [UInt8.ofNat a0, UInt8.ofNat a1] = bl (two s.size)) := by unfold Hid two; rw [fa0, fa1]
    rw [hy1] at ea1
    obtain ⟨x0, lx0, ex0, fx0⟩ := ofNat_u8' x
    obtain ⟨x1, lx1, ex1, fx1⟩ := ofNat_u8' (x / 256)
    obtain ⟨x2, lx2, ex2, fx2⟩ := ofNat_u8' (x / 65536)
    obtain ⟨x3, lx3, ex3, fx3⟩ := ofNat_u8' (x / 16777216)
    obtain ⟨z1, hz1⟩ : ∃ y, x / 256 = y := ⟨_, rfl⟩
    obtain ⟨z2, hz2⟩ : ∃ y, x / 65536 = y := ⟨_, rfl⟩
    obtain ⟨z3, hz3⟩ : ∃ y, x / 16777216 = y := ⟨_, rfl⟩
    have dx1 : (x : Int) / 256 = (z1 : Int) := by omega
    have dx2 : (x : Int) / 65536 = (z2 : Int) := by omega
    have dx3 : (x : Int) / 16777216 = (z3 : Int) := by omega
    have HQ : Hid (bl [UInt8.ofNat x0, UInt8.ofNat x1, UInt8.ofNat x2, UInt8.ofNat x3] = bl (quad x)) := by unfold Hid quad; rw [fx0, fx1, fx2, fx3]
    rw [hz1] at ex1
    rw [hz2] at ex2
    rw [hz3] at ex3
    clear fa0 fa1 fx0 fx1 fx2 fx3 hz1 hz2 hz3 hy1
    have HC2 := Lib.hid (conv2 (w := w.alloc (.cells #[.int .u8 a0, .int .u8 a1] 5)) (heap_alloc_at rfl _) la0 la1)
    have hcv := HC2.out
    rw [HTW.out] at hcv
    go_enter Tryz.func64, Tryz.ntmps64
    go_wp2_with (fail)
    (with_reducible refine (HS.out _ (HT.out.fp (Fp.alloc _ _) (by simp))).mono ?_)
    rintro e w1 ⟨rfl, hf1⟩
    have HF1 := Lib.hid ((Fp.alloc w _).trans hf1 (by simp))
    clear hf1 hcv
    go_wp2_with (fail)
    (with_reducible refine (HX.out _ (HT.out.fp HF1.out (by simp))).mono ?_)
    rintro e w2 ⟨rfl, hf2⟩
    have HF2 := Lib.hid (HF1.out.trans hf2 (by simp))
    clear hf2
    have hcv4 := conv4 (w := w2.alloc (.cells #[.int .u8 x0, .int .u8 x1, .int .u8 x2, .int .u8 x3] 5)) (heap_alloc_at rfl _) lx0 lx1 lx2 lx3
    rw [HQ.out] at hcv4
    have l1 : (bl (two s.size)).size = 2 := by rw [bl_size]; rfl
    have l2 : (bl (quad x)).size = 4 := by rw [bl_size]; rfl
    obtain ⟨t1, ht1⟩ : ∃ t, bl (two s.size) = t := ⟨_, rfl⟩
    obtain ⟨t2, ht2⟩ : ∃ t, bl (quad x) = t := ⟨_, rfl⟩
    rw [ht1] at l1 HR ⊢
    rw [ht2] at l2 HR hcv4
    have zl : ¬ t1.size + t2.size > 9223372036854775807 := by omega
    have zl2 : ¬ t1.size + t2.size + s.size > 9223372036854775807 := by omega
    clear ht1 ht2 l1 l2
    go_wp2_with (fail)
    go_ret2
    exact ⟨by rw [HR.out]; rfl, HF2.out.alloc' _⟩

theorem or_u32 (n m k : Nat) (hn : n < 2 ^ k) (hk : n + m * 2 ^ k < 4294967296) : bits .or .u32 (n : Int) ((m * 2 ^ k : Nat) : Int) = ((n + m * 2 ^ k : Nat) : Int) := by
  have h1 : (BitVec.ofInt 32 (n : Int)).toNat = n := by
    rw [BitVec.ofInt_natCast, BitVec.toNat_ofNat]; exact Nat.mod_eq_of_lt (by omega)
  have h2 : (BitVec.ofInt 32 ((m * 2 ^ k : Nat) : Int)).toNat = m * 2 ^ k := by
    rw [BitVec.ofInt_natCast, BitVec.toNat_ofNat]; exact Nat.mod_eq_of_lt (by omega)
  show IntKind.u32.wrap ((BitVec.ofInt 32 (n : Int) ||| BitVec.ofInt 32 ((m * 2 ^ k : Nat) : Int)).toNat : Int) = _
  have h3 := Nat.two_pow_add_eq_or_of_lt hn m
  rw [BitVec.toNat_or, h1, h2, Nat.or_comm, Nat.mul_comm, ← h3, IntKind.wrap_u32]
  rw [Nat.mul_comm (2 ^ k) m]
  omega

theorem getP_none {s : ByteArray} (h : s.size = 0) : getP s = (⟨#[]⟩, 0, 3) := if_pos h
theorem getP_short {s : ByteArray} (h0 : ¬ s.size = 0) (h : s.size < 6) : getP s = (⟨#[]⟩, 0, 10) := by unfold getP; rw [if_neg h0, if_pos h]
theorem getP_cut {s : ByteArray} (h0 : ¬ s.size = 0) (h1 : ¬ s.size < 6) (h : s.size < endN s) : getP s = (⟨#[]⟩, 0, 10) := by unfold getP; rw [if_neg h0, if_neg h1, if_pos h]
theorem getP_sum {s : ByteArray} (h0 : ¬ s.size = 0) (h1 : ¬ s.size < 6) (h2 : ¬ s.size < endN s) (h : ¬ crcN (s.extract 0 2) (s.extract 6 (endN s)) = quadN (atB s 2) (atB s 3) (atB s 4) (atB s 5)) : getP s = (⟨#[]⟩, 0, 20) := by
  unfold getP; rw [if_neg h0, if_neg h1, if_neg h2, if_neg h]
theorem getP_ok {s : ByteArray} (h0 : ¬ s.size = 0) (h1 : ¬ s.size < 6) (h2 : ¬ s.size < endN s) (h : crcN (s.extract 0 2) (s.extract 6 (endN s)) = quadN (atB s 2) (atB s 3) (atB s 4) (atB s 5)) : getP s = (s.extract 6 (endN s), endN s, 0) := by
  unfold getP; rw [if_neg h0, if_neg h1, if_neg h2, if_pos h]

theorem atB_get (s : ByteArray) (i : Nat) (h : i < s.size) : s[i] = atB s i := by
  unfold atB
  rw [List.getD_eq_getElem?_getD, List.getElem?_eq_getElem (by simpa using h)]
  simp
  rfl

set_option maxRecDepth 100000 in
set_option maxHeartbeats 4000000 in
theorem get_any (s : ByteArray) (w : World) (hs : s.size ≤ 100000000) (ht : TabAt w) :
    Calls Tryz.prog 38 #[.string s] w fun e w' => e = .returned (.tuple #[.string (getP s).1, .int .i64 (getP s).2.1, .int .i64 (getP s).2.2]) ∧ Fp [] w w' := by
  by_cases h0 : s.size = 0
  · rw [getP_none h0]
    obtain rfl : s = ⟨#[]⟩ := ByteArray.ext (Array.eq_empty_of_size_eq_zero h0)
    go_enter Tryz.func38, Tryz.ntmps38
    go_wp2_with (fail)
    refine bodyPost_ret (v := .tuple #[.string ⟨#[]⟩, .int .i64 0, .int .i64 3]) (by simp [results, Tryz.results38, go_sem, *]) rfl ⟨rfl, Fp.refl _ _⟩
  have hne : (s.toList == ([] : List UInt8)) = false := by
    rw [beq_eq_false_iff_ne]
    intro e
    apply h0
    have h2 := congrArg List.length e
    rw [ByteArray.toList_eq] at h2
    exact h2
  by_cases h1 : s.size < 6
  · rw [getP_short h0 h1]
    have z : (s.size : Int) < 6 := by omega
    go_enter Tryz.func38, Tryz.ntmps38
    go_wp2_with (fail)
    refine bodyPost_ret (v := .tuple #[.string ⟨#[]⟩, .int .i64 0, .int .i64 10]) (by simp [results, Tryz.results38, go_sem, *]) rfl ⟨rfl, Fp.refl _ _⟩
  have z1 : ¬ (s.size : Int) < 6 := by omega
  have e0 := atB_get s 0 (by omega)
  have p0 : 0 < s.size := by omega
  have e1 := atB_get s 1 (by omega)
  have p1 : (1 : Int) < (s.size : Int) := by omega
  have e2 := atB_get s 2 (by omega)
  have p2 : (2 : Int) < (s.size : Int) := by omega
  have e3 := atB_get s 3 (by omega)
  have p3 : (3 : Int) < (s.size : Int) := by omega
  have e4 := atB_get s 4 (by omega)
  have p4 : (4 : Int) < (s.size : Int) := by omega
  have e5 := atB_get s 5 (by omega)
  have p5 : (5 : Int) < (s.size : Int) := by omega
  have hb0 := (atB s 0).toNat_lt
  have hb1 := (atB s 1).toNat_lt
  have hb2 := (atB s 2).toNat_lt
  have hb3 := (atB s 3).toNat_lt
  have hb4 := (atB s 4).toNat_lt
  have hb5 := (atB s 5).toNat_lt
  obtain ⟨x0, hx0⟩ : ∃ x, (atB s 0).toNat = x := ⟨_, rfl⟩
  obtain ⟨x1, hx1⟩ : ∃ x, (atB s 1).toNat = x := ⟨_, rfl⟩
  obtain ⟨x2, hx2⟩ : ∃ x, (atB s 2).toNat = x := ⟨_, rfl⟩
  obtain ⟨x3, hx3⟩ : ∃ x, (atB s 3).toNat = x := ⟨_, rfl⟩
  obtain ⟨x4, hx4⟩ : ∃ x, (atB s 4).toNat = x := ⟨_, rfl⟩
  obtain ⟨x5, hx5⟩ : ∃ x, (atB s 5).toNat = x := ⟨_, rfl⟩
  obtain ⟨en, hen⟩ : ∃ en, endN s = en := ⟨_, rfl⟩
  obtain ⟨q, hq⟩ : ∃ q, quadN (atB s 2) (atB s 3) (atB s 4) (atB s 5) = q := ⟨_, rfl⟩
  have hen2 : en = 6 + x0 + x1 * 256 := by rw [← hen, ← hx0, ← hx1]; rfl
  have hq2 : q = x2 + x3 * 256 + x4 * 65536 + x5 * 16777216 := by rw [← hq, ← hx2, ← hx3, ← hx4, ← hx5]; rfl
  have HCUT := Lib.hid (fun h => getP_cut h0 h1 h)
  have HSUM := Lib.hid (fun h2 h => getP_sum h0 h1 h2 h)
  have HOKG := Lib.hid (fun h2 h => getP_ok h0 h1 h2 h)
  rw [hen] at HCUT HSUM HOKG
  rw [hq] at HSUM HOKG
  rw [hx0] at hb0
  rw [hx1] at hb1
  rw [hx2] at hb2
  rw [hx3] at hb3
  rw [hx4] at hb4
  rw [hx5] at hb5
  have k0 : IntKind.i64.wrap (x0 : Int) = x0 := by rw [IntKind.wrap_i64]; omega
  have k1 : IntKind.i64.wrap (x1 : Int) = x1 := by rw [IntKind.wrap_i64]; omega
  have k2 : IntKind.i64.wrap (6 + (x0 : Int)) = 6 + x0 := by rw [IntKind.wrap_i64]; omega
  obtain ⟨y1, hy1⟩ : ∃ y, x1 * 256 = y := ⟨_, rfl⟩
  have k3 : IntKind.i64.wrap ((x1 : Int) * 256) = (y1 : Int) := by rw [IntKind.wrap_i64]; omega
  have k4 : IntKind.i64.wrap (6 + (x0 : Int) + (y1 : Int)) = (en : Int) := by rw [IntKind.wrap_i64]; omega
  have he6 : 6 ≤ en := by omega
  have heb : en ≤ 70000 := by omega
  have u2 : IntKind.u32.wrap (x2 : Int) = x2 := by rw [IntKind.wrap_u32]; omega
  have u3 : IntKind.u32.wrap (x3 : Int) = x3 := by rw [IntKind.wrap_u32]; omega
  have u4 : IntKind.u32.wrap (x4 : Int) = x4 := by rw [IntKind.wrap_u32]; omega
  have u5 : IntKind.u32.wrap (x5 : Int) = x5 := by rw [IntKind.wrap_u32]; omega
  obtain ⟨y3, hy3⟩ : ∃ y, x3 * 2 ^ 8 = y := ⟨_, rfl⟩
  obtain ⟨y4, hy4⟩ : ∃ y, x4 * 2 ^ 16 = y := ⟨_, rfl⟩
  obtain ⟨y5, hy5⟩ : ∃ y, x5 * 2 ^ 24 = y := ⟨_, rfl⟩
  have v3 : IntKind.u32.wrap ((x3 : Int) * 256) = (y3 : Int) := by rw [IntKind.wrap_u32]; omega
  have v4 : IntKind.u32.wrap ((x4 : Int) * 65536) = (y4 : Int) := by rw [IntKind.wrap_u32]; omega
  have v5 : IntKind.u32.wrap ((x5 : Int) * 16777216) = (y5 : Int) := by rw [IntKind.wrap_u32]; omega
  have o3 := or_u32 x2 x3 8 (by omega) (by omega)
  rw [hy3] at o3
  obtain ⟨r3, hr3⟩ : ∃ r, x2 + y3 = r := ⟨_, rfl⟩
  rw [hr3] at o3
  have o4 := or_u32 r3 x4 16 (by omega) (by omega)
  rw [hy4] at o4
  obtain ⟨r4, hr4⟩ : ∃ r, r3 + y4 = r := ⟨_, rfl⟩
  rw [hr4] at o4
  have o5 := or_u32 r4 x5 24 (by omega) (by omega)
  rw [hy5] at o5
  rw [show r4 + y5 = q from by omega] at o5
  have hql : q < 4294967296 := by omega
  clear hen hq hen2 hq2 hy1 hy3 hy4 hy5 hr3 hr4 h0
  have HT := Lib.hid ht
  clear ht
  by_cases hE : s.size < en
  · rw [HCUT.out hE]
    have z2 : (s.size : Int) < en := by omega
    go_enter Tryz.func38, Tryz.ntmps38
    go_wp2_with (fail)
    refine wp_region_calm (by kernel_rfl) (by kernel_rfl) ?_
    -- 0
    apply ex_plain rfl rfl rfl
    · intro a w hC hA K hK
      have h0 := hA.free 0 _ (by kernel_rfl) rfl
      simp only [Oper.wp, execOp]; go_simp
      exact hK _ hC (Fp.refl _ _)
    -- 1
    apply ex_plain rfl rfl rfl
    · intro a w hC hA K hK
      have h14 : a.tmps[14]?.getD undef = _ := hA.dep 0 14 _ (by kernel_rfl) rfl
      simp only [Oper.wp, execOp]; go_simp
      exact hK _ hC (Fp.refl _ _)
    -- 2
    apply ex_plain rfl rfl rfl
    · intro a w hC hA K hK
      have h15 : a.tmps[15]?.getD undef = _ := hA.dep 1 15 _ (by kernel_rfl) rfl
      simp only [Oper.wp, execOp]; go_simp
      exact hK _ hC (Fp.refl _ _)
    -- 3
    apply ex_plain rfl rfl rfl
    · intro a w hC hA K hK
      have h16 : a.tmps[16]?.getD undef = _ := hA.dep 2 16 _ (by kernel_rfl) rfl
      simp only [Oper.wp, execOp]; go_simp
      exact hK _ hC (Fp.refl _ _)
    -- 4
    apply ex_plain rfl rfl rfl
    · intro a w hC hA K hK
      have h0 := hA.free 0 _ (by kernel_rfl) rfl
      simp only [Oper.wp, execOp]; go_simp
      exact hK _ hC (Fp.refl _ _)
    -- 5
    apply ex_plain rfl rfl rfl
    · intro a w hC hA K hK
      have h18 : a.tmps[18]?.getD undef = _ := hA.dep 4 18 _ (by kernel_rfl) rfl
      simp only [Oper.wp, execOp]; go_simp
      exact hK _ hC (Fp.refl _ _)
    -- 6
    apply ex_plain rfl rfl rfl
    · intro a w hC hA K hK
      have h19 : a.tmps[19]?.getD undef = _ := hA.dep 5 19 _ (by kernel_rfl) rfl
      simp only [Oper.wp, execOp]; go_simp
      exact hK _ hC (Fp.refl _ _)
    -- 7
    apply ex_plain rfl rfl rfl
    · intro a w hC hA K hK
      have h20 : a.tmps[20]?.getD undef = _ := hA.dep 6 20 _ (by kernel_rfl) rfl
      simp only [Oper.wp, execOp]; go_simp
      exact hK _ hC (Fp.refl _ _)
    -- 8
    apply ex_plain rfl rfl rfl
    · intro a w hC hA K hK
      have h17 : a.tmps[17]?.getD undef = _ := hA.dep 3 17 _ (by kernel_rfl) rfl
      have h21 : a.tmps[21]?.getD undef = _ := hA.dep 7 21 _ (by kernel_rfl) rfl
      simp only [Oper.wp, execOp]; go_simp
      exact hK _ hC (Fp.refl _ _)
    -- 9
    apply ex_plain rfl rfl rfl
    · intro a w hC hA K hK
      have h22 : a.tmps[22]?.getD undef = _ := hA.dep 8 22 _ (by kernel_rfl) rfl
      simp only [Oper.wp, execOp]; go_simp
      exact hK _ hC (Fp.refl _ _)
    refine ⟨?_, ?_⟩
    · repeat (first | exact trivial | refine stab_val _ ?_ | refine ⟨fun w1 w2 v _ hf ⟨g, h1, h2⟩ => ⟨g, h1, (hf.block g (heap_lt h2) (by simp)).trans h2⟩, ?_⟩)
    · intro w' hC
      simp only [List.reverse_cons, List.reverse_nil, List.nil_append, List.cons_append]
      iterate 10 (refine all_val ?_)
      refine all_nil ?_
      simp only [putAll, Act.put, List.setIfInBounds_toArray, List.set_cons_succ, List.set_cons_zero]
      go_wp2_with (fail)
      refine bodyPost_ret (v := .tuple #[.string ⟨#[]⟩, .int .i64 0, .int .i64 10]) (by simp [results, Tryz.results38, go_sem, *]) rfl ⟨rfl, hC⟩
  have z2 : ¬ (s.size : Int) < en := by omega
  have hE2 : (en : Int) ≤ s.size := by omega
  have h2s : (2 : Int) ≤ s.size := by omega
  have h6e : (6 : Int) ≤ en := by omega
  obtain ⟨g, hg⟩ : ∃ g, crcN (s.extract 0 2) (s.extract 6 en) = g := ⟨_, rfl⟩
  rw [hg] at HSUM HOKG
  have zx1 : (s.extract 0 2).size ≤ 100000000 := by rw [ByteArray.size_extract]; omega
  have zx2 : (s.extract 6 en).size ≤ 100000000 := by rw [ByteArray.size_extract]; omega
  have HS := Lib.hid (fun w ht => sum_any (s.extract 0 2) w zx1 ht)
  have HX := Lib.hid (fun w ht => more_any (moreN 0 (s.extract 0 2)) (s.extract 6 en) w (moreN_lt _ _) zx2 ht)
  rw [show moreN (moreN 0 (s.extract 0 2)) (s.extract 6 en) = g from hg] at HX
  obtain ⟨m, hm⟩ : ∃ m, moreN 0 (s.extract 0 2) = m := ⟨_, rfl⟩
  rw [hm] at HS HX
  clear hg hm zx1 zx2
  by_cases hgq : g = q
  · rw [HOKG.out hE hgq]
    subst hgq
    go_enter Tryz.func38, Tryz.ntmps38
    go_wp2_with (fail)
    refine wp_region_calm (by kernel_rfl) (by kernel_rfl) ?_
    -- 0
    apply ex_plain rfl rfl rfl
    · intro a w hC hA K hK
      have h0 := hA.free 0 _ (by kernel_rfl) rfl
      simp only [Oper.wp, execOp]; go_simp
      exact hK _ hC (Fp.refl _ _)
    -- 1
    apply ex_plain rfl rfl rfl
    · intro a w hC hA K hK
      have h14 : a.tmps[14]?.getD undef = _ := hA.dep 0 14 _ (by kernel_rfl) rfl
      simp only [Oper.wp, execOp]; go_simp
      exact hK _ hC (Fp.refl _ _)
    -- 2
    apply ex_plain rfl rfl rfl
    · intro a w hC hA K hK
      have h15 : a.tmps[15]?.getD undef = _ := hA.dep 1 15 _ (by kernel_rfl) rfl
      simp only [Oper.wp, execOp]; go_simp
      exact hK _ hC (Fp.refl _ _)
    -- 3
    apply ex_plain rfl rfl rfl
    · intro a w hC hA K hK
      have h16 : a.tmps[16]?.getD undef = _ := hA.dep 2 16 _ (by kernel_rfl) rfl
      simp only [Oper.wp, execOp]; go_simp
      exact hK _ hC (Fp.refl _ _)
    -- 4
    apply ex_plain rfl rfl rfl
    · intro a w hC hA K hK
      have h0 := hA.free 0 _ (by kernel_rfl) rfl
      simp only [Oper.wp, execOp]; go_simp
      exact hK _ hC (Fp.refl _ _)
    -- 5
    apply ex_plain rfl rfl rfl
    · intro a w hC hA K hK
      have h18 : a.tmps[18]?.getD undef = _ := hA.dep 4 18 _ (by kernel_rfl) rfl
      simp only [Oper.wp, execOp]; go_simp
      exact hK _ hC (Fp.refl _ _)
    -- 6
    apply ex_plain rfl rfl rfl
    · intro a w hC hA K hK
      have h19 : a.tmps[19]?.getD undef = _ := hA.dep 5 19 _ (by kernel_rfl) rfl
      simp only [Oper.wp, execOp]; go_simp
      exact hK _ hC (Fp.refl _ _)
    -- 7
    apply ex_plain rfl rfl rfl
    · intro a w hC hA K hK
      have h20 : a.tmps[20]?.getD undef = _ := hA.dep 6 20 _ (by kernel_rfl) rfl
      simp only [Oper.wp, execOp]; go_simp
      exact hK _ hC (Fp.refl _ _)
    -- 8
    apply ex_plain rfl rfl rfl
    · intro a w hC hA K hK
      have h17 : a.tmps[17]?.getD undef = _ := hA.dep 3 17 _ (by kernel_rfl) rfl
      have h21 : a.tmps[21]?.getD undef = _ := hA.dep 7 21 _ (by kernel_rfl) rfl
      simp only [Oper.wp, execOp]; go_simp
      exact hK _ hC (Fp.refl _ _)
    -- 9
    apply ex_plain rfl rfl rfl
    · intro a w hC hA K hK
      have h22 : a.tmps[22]?.getD undef = _ := hA.dep 8 22 _ (by kernel_rfl) rfl
      simp only [Oper.wp, execOp]; go_simp
      exact hK _ hC (Fp.refl _ _)
    refine ⟨?_, ?_⟩
    · repeat (first | exact trivial | refine stab_val _ ?_ | refine ⟨fun w1 w2 v _ hf ⟨g, h1, h2⟩ => ⟨g, h1, (hf.block g (heap_lt h2) (by simp)).trans h2⟩, ?_⟩)
    · intro w' hC
      simp only [List.reverse_cons, List.reverse_nil, List.nil_append, List.cons_append]
      iterate 10 (refine all_val ?_)
      refine all_nil ?_
      simp only [putAll, Act.put, List.setIfInBounds_toArray, List.set_cons_succ, List.set_cons_zero]
      have HF1 := Lib.hid hC
      clear hC
      go_wp2_with (fail)
      refine wp_region_calm (by kernel_rfl) (by kernel_rfl) ?_
      -- 0
      apply ex_plain rfl rfl rfl
      · intro a w hC hA K hK
        have h0 := hA.free 0 _ (by kernel_rfl) rfl
        simp only [Oper.wp, execOp]; go_simp
        exact hK _ hC (Fp.refl _ _)
      -- 1
      apply ex_plain rfl rfl rfl
      · intro a w hC hA K hK
        have h27 : a.tmps[27]?.getD undef = _ := hA.dep 0 27 _ (by kernel_rfl) rfl
        simp only [Oper.wp, execOp]; go_simp
        exact hK _ hC (Fp.refl _ _)
      -- 2
      apply ex_plain rfl rfl rfl
      · intro a w hC hA K hK
        have h28 : a.tmps[28]?.getD undef = _ := hA.dep 1 28 _ (by kernel_rfl) rfl
        simp only [Oper.wp, execOp]; go_simp
        exact hK _ hC (Fp.refl _ _)
      -- 3
      apply ex_plain rfl rfl rfl
      · intro a w hC hA K hK
        have h0 := hA.free 0 _ (by kernel_rfl) rfl
        simp only [Oper.wp, execOp]; go_simp
        exact hK _ hC (Fp.refl _ _)
      -- 4
      apply ex_plain rfl rfl rfl
      · intro a w hC hA K hK
        have h30 : a.tmps[30]?.getD undef = _ := hA.dep 3 30 _ (by kernel_rfl) rfl
        simp only [Oper.wp, execOp]; go_simp
        exact hK _ hC (Fp.refl _ _)
      -- 5
      apply ex_plain rfl rfl rfl
      · intro a w hC hA K hK
        have h31 : a.tmps[31]?.getD undef = _ := hA.dep 4 31 _ (by kernel_rfl) rfl
        simp only [Oper.wp, execOp]; go_simp
        exact hK _ hC (Fp.refl _ _)
      -- 6
      apply ex_plain rfl rfl rfl
      · intro a w hC hA K hK
        have h32 : a.tmps[32]?.getD undef = _ := hA.dep 5 32 _ (by kernel_rfl) rfl
        simp only [Oper.wp, execOp]; go_simp
        exact hK _ hC (Fp.refl _ _)
      -- 7
      apply ex_plain rfl rfl rfl
      · intro a w hC hA K hK
        have h29 : a.tmps[29]?.getD undef = _ := hA.dep 2 29 _ (by kernel_rfl) rfl
        have h33 : a.tmps[33]?.getD undef = _ := hA.dep 6 33 _ (by kernel_rfl) rfl
        simp only [Oper.wp, execOp]; go_simp
        exact hK _ hC (Fp.refl _ _)
      -- 8
      apply ex_plain rfl rfl rfl
      · intro a w hC hA K hK
        have h0 := hA.free 0 _ (by kernel_rfl) rfl
        simp only [Oper.wp, execOp]; go_simp
        exact hK _ hC (Fp.refl _ _)
      -- 9
      apply ex_plain rfl rfl rfl
      · intro a w hC hA K hK
        have h35 : a.tmps[35]?.getD undef = _ := hA.dep 8 35 _ (by kernel_rfl) rfl
        simp only [Oper.wp, execOp]; go_simp
        exact hK _ hC (Fp.refl _ _)
      -- 10
      apply ex_plain rfl rfl rfl
      · intro a w hC hA K hK
        have h36 : a.tmps[36]?.getD undef = _ := hA.dep 9 36 _ (by kernel_rfl) rfl
        simp only [Oper.wp, execOp]; go_simp
        exact hK _ hC (Fp.refl _ _)
      -- 11
      apply ex_plain rfl rfl rfl
      · intro a w hC hA K hK
        have h37 : a.tmps[37]?.getD undef = _ := hA.dep 10 37 _ (by kernel_rfl) rfl
        simp only [Oper.wp, execOp]; go_simp
        exact hK _ hC (Fp.refl _ _)
      -- 12
      apply ex_plain rfl rfl rfl
      · intro a w hC hA K hK
        have h34 : a.tmps[34]?.getD undef = _ := hA.dep 7 34 _ (by kernel_rfl) rfl
        have h38 : a.tmps[38]?.getD undef = _ := hA.dep 11 38 _ (by kernel_rfl) rfl
        simp only [Oper.wp, execOp]; go_simp
        exact hK _ hC (Fp.refl _ _)
      -- 13
      apply ex_plain rfl rfl rfl
      · intro a w hC hA K hK
        have h0 := hA.free 0 _ (by kernel_rfl) rfl
        simp only [Oper.wp, execOp]; go_simp
        exact hK _ hC (Fp.refl _ _)
      -- 14
      apply ex_plain rfl rfl rfl
      · intro a w hC hA K hK
        have h40 : a.tmps[40]?.getD undef = _ := hA.dep 13 40 _ (by kernel_rfl) rfl
        simp only [Oper.wp, execOp]; go_simp
        exact hK _ hC (Fp.refl _ _)
      -- 15
      apply ex_plain rfl rfl rfl
      · intro a w hC hA K hK
        have h41 : a.tmps[41]?.getD undef = _ := hA.dep 14 41 _ (by kernel_rfl) rfl
        simp only [Oper.wp, execOp]; go_simp
        exact hK _ hC (Fp.refl _ _)
      -- 16
      apply ex_plain rfl rfl rfl
      · intro a w hC hA K hK
        have h42 : a.tmps[42]?.getD undef = _ := hA.dep 15 42 _ (by kernel_rfl) rfl
        simp only [Oper.wp, execOp]; go_simp
        exact hK _ hC (Fp.refl _ _)
      -- 17
      apply ex_plain rfl rfl rfl
      · intro a w hC hA K hK
        have h39 : a.tmps[39]?.getD undef = _ := hA.dep 12 39 _ (by kernel_rfl) rfl
        have h43 : a.tmps[43]?.getD undef = _ := hA.dep 16 43 _ (by kernel_rfl) rfl
        simp only [Oper.wp, execOp]; go_simp
        exact hK _ hC (Fp.refl _ _)
      -- 18
      apply ex_plain rfl rfl rfl
      · intro a w hC hA K hK
        have h44 : a.tmps[44]?.getD undef = _ := hA.dep 17 44 _ (by kernel_rfl) rfl
        simp only [Oper.wp, execOp]; go_simp
        exact hK _ hC (Fp.refl _ _)
      refine ⟨?_, ?_⟩
      · repeat (first | exact trivial | refine stab_val _ ?_ | refine ⟨fun w1 w2 v _ hf ⟨g, h1, h2⟩ => ⟨g, h1, (hf.block g (heap_lt h2) (by simp)).trans h2⟩, ?_⟩)
      · intro w' hC
        simp only [List.reverse_cons, List.reverse_nil, List.nil_append, List.cons_append]
        iterate 19 (refine all_val ?_)
        refine all_nil ?_
        simp only [putAll, Act.put, List.setIfInBounds_toArray, List.set_cons_succ, List.set_cons_zero]
        have HF2 := Lib.hid (HF1.out.trans hC (by simp))
        clear hC
        go_wp2_with (fail)
        refine wp_region_calm (by kernel_rfl) (by kernel_rfl) ?_
        -- 0
        apply ex_plain rfl rfl rfl
        · intro a w hC hA K hK
          have h0 := hA.free 0 _ (by kernel_rfl) rfl
          simp only [Oper.wp, execOp]; go_simp
          exact hK _ hC (Fp.refl _ _)
        -- 1
        apply ex_plain rfl rfl rfl
        · intro a w hC hA K hK
          have h45 : a.tmps[45]?.getD undef = _ := hA.dep 0 45 _ (by kernel_rfl) rfl
          simp only [Oper.wp, execOp]; go_simp
          exact hK _ hC (Fp.refl _ _)
        -- 2
        apply ex_plain rfl rfl rfl
        · intro a w hC hA K hK
          have h46 : a.tmps[46]?.getD undef = _ := hA.dep 1 46 _ (by kernel_rfl) rfl
          simp only [Oper.wp, execOp]; go_simp
          first
            | ((with_reducible refine (HS.out _ (HT.out.fp (HF2.out.trans hC (by simp)) (by simp))).mono ?_); rintro e w2 ⟨rfl, hf⟩; exact hK _ (hC.trans hf (by simp)) hf)
            | ((with_reducible refine (HX.out _ (HT.out.fp (HF2.out.trans hC (by simp)) (by simp))).mono ?_); rintro e w2 ⟨rfl, hf⟩; exact hK _ (hC.trans hf (by simp)) hf)
        -- 3
        apply ex_plain rfl rfl rfl
        · intro a w hC hA K hK
          have h0 := hA.free 0 _ (by kernel_rfl) rfl
          simp only [Oper.wp, execOp]; go_simp
          exact hK _ hC (Fp.refl _ _)
        -- 4
        apply ex_plain rfl rfl rfl
        · intro a w hC hA K hK
          have h5 := hA.free 5 _ (by kernel_rfl) rfl
          simp only [Oper.wp, execOp]; go_simp
          exact hK _ hC (Fp.refl _ _)
        -- 5
        apply ex_plain rfl rfl rfl
        · intro a w hC hA K hK
          have h48 : a.tmps[48]?.getD undef = _ := hA.dep 3 48 _ (by kernel_rfl) rfl
          have h49 : a.tmps[49]?.getD undef = _ := hA.dep 4 49 _ (by kernel_rfl) rfl
          simp only [Oper.wp, execOp]; go_simp
          exact hK _ hC (Fp.refl _ _)
        -- 6
        apply ex_plain rfl rfl rfl
        · intro a w hC hA K hK
          have h47 : a.tmps[47]?.getD undef = _ := hA.dep 2 47 _ (by kernel_rfl) rfl
          have h50 : a.tmps[50]?.getD undef = _ := hA.dep 5 50 _ (by kernel_rfl) rfl
          simp only [Oper.wp, execOp]; go_simp
          first
            | ((with_reducible refine (HS.out _ (HT.out.fp (HF2.out.trans hC (by simp)) (by simp))).mono ?_); rintro e w2 ⟨rfl, hf⟩; exact hK _ (hC.trans hf (by simp)) hf)
            | ((with_reducible refine (HX.out _ (HT.out.fp (HF2.out.trans hC (by simp)) (by simp))).mono ?_); rintro e w2 ⟨rfl, hf⟩; exact hK _ (hC.trans hf (by simp)) hf)
        -- 7
        apply ex_plain rfl rfl rfl
        · intro a w hC hA K hK
          have h6 := hA.free 6 _ (by kernel_rfl) rfl
          simp only [Oper.wp, execOp]; go_simp
          exact hK _ hC (Fp.refl _ _)
        -- 8
        apply ex_plain rfl rfl rfl
        · intro a w hC hA K hK
          have h51 : a.tmps[51]?.getD undef = _ := hA.dep 6 51 _ (by kernel_rfl) rfl
          have h52 : a.tmps[52]?.getD undef = _ := hA.dep 7 52 _ (by kernel_rfl) rfl
          simp only [Oper.wp, execOp]; go_simp
          exact hK _ hC (Fp.refl _ _)
        refine ⟨?_, ?_⟩
        · repeat (first | exact trivial | refine stab_val _ ?_ | refine ⟨fun w1 w2 v _ hf ⟨g, h1, h2⟩ => ⟨g, h1, (hf.block g (heap_lt h2) (by simp)).trans h2⟩, ?_⟩)
        · intro w' hC
          simp only [List.reverse_cons, List.reverse_nil, List.nil_append, List.cons_append]
          iterate 9 (refine all_val ?_)
          refine all_nil ?_
          simp only [putAll, Act.put, List.setIfInBounds_toArray, List.set_cons_succ, List.set_cons_zero]
          have HF3 := Lib.hid (HF2.out.trans hC (by simp))
          clear hC
          go_wp2_with (fail)
          refine bodyPost_ret (v := .tuple #[.string (s.extract 6 en), .int .i64 en, .int .i64 0]) (by simp [results, Tryz.results38, go_sem, *]) rfl ⟨rfl, HF3.out⟩
  · rw [HSUM.out hE hgq]
    have zq : ((g : Int) != (q : Int)) = true := by rw [bne_iff_ne]; omega
    go_enter Tryz.func38, Tryz.ntmps38
    go_wp2_with (fail)
    refine wp_region_calm (by kernel_rfl) (by kernel_rfl) ?_
    -- 0
    apply ex_plain rfl rfl rfl
    · intro a w hC hA K hK
      have h0 := hA.free 0 _ (by kernel_rfl) rfl
      simp only [Oper.wp, execOp]; go_simp
      exact hK _ hC (Fp.refl _ _)
    -- 1
    apply ex_plain rfl rfl rfl
    · intro a w hC hA K hK
      have h14 : a.tmps[14]?.getD undef = _ := hA.dep 0 14 _ (by kernel_rfl) rfl
      simp only [Oper.wp, execOp]; go_simp
      exact hK _ hC (Fp.refl _ _)
    -- 2
    apply ex_plain rfl rfl rfl
    · intro a w hC hA K hK
      have h15 : a.tmps[15]?.getD undef = _ := hA.dep 1 15 _ (by kernel_rfl) rfl
      simp only [Oper.wp, execOp]; go_simp
      exact hK _ hC (Fp.refl _ _)
    -- 3
    apply ex_plain rfl rfl rfl
    · intro a w hC hA K hK
      have h16 : a.tmps[16]?.getD undef = _ := hA.dep 2 16 _ (by kernel_rfl) rfl
      simp only [Oper.wp, execOp]; go_simp
      exact hK _ hC (Fp.refl _ _)
    -- 4
    apply ex_plain rfl rfl rfl
    · intro a w hC hA K hK
      have h0 := hA.free 0 _ (by kernel_rfl) rfl
      simp only [Oper.wp, execOp]; go_simp
      exact hK _ hC (Fp.refl _ _)
    -- 5
    apply ex_plain rfl rfl rfl
    · intro a w hC hA K hK
      have h18 : a.tmps[18]?.getD undef = _ := hA.dep 4 18 _ (by kernel_rfl) rfl
      simp only [Oper.wp, execOp]; go_simp
      exact hK _ hC (Fp.refl _ _)
    -- 6
    apply ex_plain rfl rfl rfl
    · intro a w hC hA K hK
      have h19 : a.tmps[19]?.getD undef = _ := hA.dep 5 19 _ (by kernel_rfl) rfl
      simp only [Oper.wp, execOp]; go_simp
      exact hK _ hC (Fp.refl _ _)
    -- 7
    apply ex_plain rfl rfl rfl
    · intro a w hC hA K hK
      have h20 : a.tmps[20]?.getD undef = _ := hA.dep 6 20 _ (by kernel_rfl) rfl
      simp only [Oper.wp, execOp]; go_simp
      exact hK _ hC (Fp.refl _ _)
    -- 8
    apply ex_plain rfl rfl rfl
    · intro a w hC hA K hK
      have h17 : a.tmps[17]?.getD undef = _ := hA.dep 3 17 _ (by kernel_rfl) rfl
      have h21 : a.tmps[21]?.getD undef = _ := hA.dep 7 21 _ (by kernel_rfl) rfl
      simp only [Oper.wp, execOp]; go_simp
      exact hK _ hC (Fp.refl _ _)
    -- 9
    apply ex_plain rfl rfl rfl
    · intro a w hC hA K hK
      have h22 : a.tmps[22]?.getD undef = _ := hA.dep 8 22 _ (by kernel_rfl) rfl
      simp only [Oper.wp, execOp]; go_simp
      exact hK _ hC (Fp.refl _ _)
    refine ⟨?_, ?_⟩
    · repeat (first | exact trivial | refine stab_val _ ?_ | refine ⟨fun w1 w2 v _ hf ⟨g, h1, h2⟩ => ⟨g, h1, (hf.block g (heap_lt h2) (by simp)).trans h2⟩, ?_⟩)
    · intro w' hC
      simp only [List.reverse_cons, List.reverse_nil, List.nil_append, List.cons_append]
      iterate 10 (refine all_val ?_)
      refine all_nil ?_
      simp only [putAll, Act.put, List.setIfInBounds_toArray, List.set_cons_succ, List.set_cons_zero]
      have HF1 := Lib.hid hC
      clear hC
      go_wp2_with (fail)
      refine wp_region_calm (by kernel_rfl) (by kernel_rfl) ?_
      -- 0
      apply ex_plain rfl rfl rfl
      · intro a w hC hA K hK
        have h0 := hA.free 0 _ (by kernel_rfl) rfl
        simp only [Oper.wp, execOp]; go_simp
        exact hK _ hC (Fp.refl _ _)
      -- 1
      apply ex_plain rfl rfl rfl
      · intro a w hC hA K hK
        have h27 : a.tmps[27]?.getD undef = _ := hA.dep 0 27 _ (by kernel_rfl) rfl
        simp only [Oper.wp, execOp]; go_simp
        exact hK _ hC (Fp.refl _ _)
      -- 2
      apply ex_plain rfl rfl rfl
      · intro a w hC hA K hK
        have h28 : a.tmps[28]?.getD undef = _ := hA.dep 1 28 _ (by kernel_rfl) rfl
        simp only [Oper.wp, execOp]; go_simp
        exact hK _ hC (Fp.refl _ _)
      -- 3
      apply ex_plain rfl rfl rfl
      · intro a w hC hA K hK
        have h0 := hA.free 0 _ (by kernel_rfl) rfl
        simp only [Oper.wp, execOp]; go_simp
        exact hK _ hC (Fp.refl _ _)
      -- 4
      apply ex_plain rfl rfl rfl
      · intro a w hC hA K hK
        have h30 : a.tmps[30]?.getD undef = _ := hA.dep 3 30 _ (by kernel_rfl) rfl
        simp only [Oper.wp, execOp]; go_simp
        exact hK _ hC (Fp.refl _ _)
      -- 5
      apply ex_plain rfl rfl rfl
      · intro a w hC hA K hK
        have h31 : a.tmps[31]?.getD undef = _ := hA.dep 4 31 _ (by kernel_rfl) rfl
        simp only [Oper.wp, execOp]; go_simp
        exact hK _ hC (Fp.refl _ _)
      -- 6
      apply ex_plain rfl rfl rfl
      · intro a w hC hA K hK
        have h32 : a.tmps[32]?.getD undef = _ := hA.dep 5 32 _ (by kernel_rfl) rfl
        simp only [Oper.wp, execOp]; go_simp
        exact hK _ hC (Fp.refl _ _)
      -- 7
      apply ex_plain rfl rfl rfl
      · intro a w hC hA K hK
        have h29 : a.tmps[29]?.getD undef = _ := hA.dep 2 29 _ (by kernel_rfl) rfl
        have h33 : a.tmps[33]?.getD undef = _ := hA.dep 6 33 _ (by kernel_rfl) rfl
        simp only [Oper.wp, execOp]; go_simp
        exact hK _ hC (Fp.refl _ _)
      -- 8
      apply ex_plain rfl rfl rfl
      · intro a w hC hA K hK
        have h0 := hA.free 0 _ (by kernel_rfl) rfl
        simp only [Oper.wp, execOp]; go_simp
        exact hK _ hC (Fp.refl _ _)
      -- 9
      apply ex_plain rfl rfl rfl
      · intro a w hC hA K hK
        have h35 : a.tmps[35]?.getD undef = _ := hA.dep 8 35 _ (by kernel_rfl) rfl
        simp only [Oper.wp, execOp]; go_simp
        exact hK _ hC (Fp.refl _ _)
      -- 10
      apply ex_plain rfl rfl rfl
      · intro a w hC hA K hK
        have h36 : a.tmps[36]?.getD undef = _ := hA.dep 9 36 _ (by kernel_rfl) rfl
        simp only [Oper.wp, execOp]; go_simp
        exact hK _ hC (Fp.refl _ _)
      -- 11
      apply ex_plain rfl rfl rfl
      · intro a w hC hA K hK
        have h37 : a.tmps[37]?.getD undef = _ := hA.dep 10 37 _ (by kernel_rfl) rfl
        simp only [Oper.wp, execOp]; go_simp
        exact hK _ hC (Fp.refl _ _)
      -- 12
      apply ex_plain rfl rfl rfl
      · intro a w hC hA K hK
        have h34 : a.tmps[34]?.getD undef = _ := hA.dep 7 34 _ (by kernel_rfl) rfl
        have h38 : a.tmps[38]?.getD undef = _ := hA.dep 11 38 _ (by kernel_rfl) rfl
        simp only [Oper.wp, execOp]; go_simp
        exact hK _ hC (Fp.refl _ _)
      -- 13
      apply ex_plain rfl rfl rfl
      · intro a w hC hA K hK
        have h0 := hA.free 0 _ (by kernel_rfl) rfl
        simp only [Oper.wp, execOp]; go_simp
        exact hK _ hC (Fp.refl _ _)
      -- 14
      apply ex_plain rfl rfl rfl
      · intro a w hC hA K hK
        have h40 : a.tmps[40]?.getD undef = _ := hA.dep 13 40 _ (by kernel_rfl) rfl
        simp only [Oper.wp, execOp]; go_simp
        exact hK _ hC (Fp.refl _ _)
      -- 15
      apply ex_plain rfl rfl rfl
      · intro a w hC hA K hK
        have h41 : a.tmps[41]?.getD undef = _ := hA.dep 14 41 _ (by kernel_rfl) rfl
        simp only [Oper.wp, execOp]; go_simp
        exact hK _ hC (Fp.refl _ _)
      -- 16
      apply ex_plain rfl rfl rfl
      · intro a w hC hA K hK
        have h42 : a.tmps[42]?.getD undef = _ := hA.dep 15 42 _ (by kernel_rfl) rfl
        simp only [Oper.wp, execOp]; go_simp
        exact hK _ hC (Fp.refl _ _)
      -- 17
      apply ex_plain rfl rfl rfl
      · intro a w hC hA K hK
        have h39 : a.tmps[39]?.getD undef = _ := hA.dep 12 39 _ (by kernel_rfl) rfl
        have h43 : a.tmps[43]?.getD undef = _ := hA.dep 16 43 _ (by kernel_rfl) rfl
        simp only [Oper.wp, execOp]; go_simp
        exact hK _ hC (Fp.refl _ _)
      -- 18
      apply ex_plain rfl rfl rfl
      · intro a w hC hA K hK
        have h44 : a.tmps[44]?.getD undef = _ := hA.dep 17 44 _ (by kernel_rfl) rfl
        simp only [Oper.wp, execOp]; go_simp
        exact hK _ hC (Fp.refl _ _)
      refine ⟨?_, ?_⟩
      · repeat (first | exact trivial | refine stab_val _ ?_ | refine ⟨fun w1 w2 v _ hf ⟨g, h1, h2⟩ => ⟨g, h1, (hf.block g (heap_lt h2) (by simp)).trans h2⟩, ?_⟩)
      · intro w' hC
        simp only [List.reverse_cons, List.reverse_nil, List.nil_append, List.cons_append]
        iterate 19 (refine all_val ?_)
        refine all_nil ?_
        simp only [putAll, Act.put, List.setIfInBounds_toArray, List.set_cons_succ, List.set_cons_zero]
        have HF2 := Lib.hid (HF1.out.trans hC (by simp))
        clear hC
        go_wp2_with (fail)
        refine wp_region_calm (by kernel_rfl) (by kernel_rfl) ?_
        -- 0
        apply ex_plain rfl rfl rfl
        · intro a w hC hA K hK
          have h0 := hA.free 0 _ (by kernel_rfl) rfl
          simp only [Oper.wp, execOp]; go_simp
          exact hK _ hC (Fp.refl _ _)
        -- 1
        apply ex_plain rfl rfl rfl
        · intro a w hC hA K hK
          have h45 : a.tmps[45]?.getD undef = _ := hA.dep 0 45 _ (by kernel_rfl) rfl
          simp only [Oper.wp, execOp]; go_simp
          exact hK _ hC (Fp.refl _ _)
        -- 2
        apply ex_plain rfl rfl rfl
        · intro a w hC hA K hK
          have h46 : a.tmps[46]?.getD undef = _ := hA.dep 1 46 _ (by kernel_rfl) rfl
          simp only [Oper.wp, execOp]; go_simp
          first
            | ((with_reducible refine (HS.out _ (HT.out.fp (HF2.out.trans hC (by simp)) (by simp))).mono ?_); rintro e w2 ⟨rfl, hf⟩; exact hK _ (hC.trans hf (by simp)) hf)
            | ((with_reducible refine (HX.out _ (HT.out.fp (HF2.out.trans hC (by simp)) (by simp))).mono ?_); rintro e w2 ⟨rfl, hf⟩; exact hK _ (hC.trans hf (by simp)) hf)
        -- 3
        apply ex_plain rfl rfl rfl
        · intro a w hC hA K hK
          have h0 := hA.free 0 _ (by kernel_rfl) rfl
          simp only [Oper.wp, execOp]; go_simp
          exact hK _ hC (Fp.refl _ _)
        -- 4
        apply ex_plain rfl rfl rfl
        · intro a w hC hA K hK
          have h5 := hA.free 5 _ (by kernel_rfl) rfl
          simp only [Oper.wp, execOp]; go_simp
          exact hK _ hC (Fp.refl _ _)
        -- 5
        apply ex_plain rfl rfl rfl
        · intro a w hC hA K hK
          have h48 : a.tmps[48]?.getD undef = _ := hA.dep 3 48 _ (by kernel_rfl) rfl
          have h49 : a.tmps[49]?.getD undef = _ := hA.dep 4 49 _ (by kernel_rfl) rfl
          simp only [Oper.wp, execOp]; go_simp
          exact hK _ hC (Fp.refl _ _)
        -- 6
        apply ex_plain rfl rfl rfl
        · intro a w hC hA K hK
          have h47 : a.tmps[47]?.getD undef = _ := hA.dep 2 47 _ (by kernel_rfl) rfl
          have h50 : a.tmps[50]?.getD undef = _ := hA.dep 5 50 _ (by kernel_rfl) rfl
          simp only [Oper.wp, execOp]; go_simp
          first
            | ((with_reducible refine (HS.out _ (HT.out.fp (HF2.out.trans hC (by simp)) (by simp))).mono ?_); rintro e w2 ⟨rfl, hf⟩; exact hK _ (hC.trans hf (by simp)) hf)
            | ((with_reducible refine (HX.out _ (HT.out.fp (HF2.out.trans hC (by simp)) (by simp))).mono ?_); rintro e w2 ⟨rfl, hf⟩; exact hK _ (hC.trans hf (by simp)) hf)
        -- 7
        apply ex_plain rfl rfl rfl
        · intro a w hC hA K hK
          have h6 := hA.free 6 _ (by kernel_rfl) rfl
          simp only [Oper.wp, execOp]; go_simp
          exact hK _ hC (Fp.refl _ _)
        -- 8
        apply ex_plain rfl rfl rfl
        · intro a w hC hA K hK
          have h51 : a.tmps[51]?.getD undef = _ := hA.dep 6 51 _ (by kernel_rfl) rfl
          have h52 : a.tmps[52]?.getD undef = _ := hA.dep 7 52 _ (by kernel_rfl) rfl
          simp only [Oper.wp, execOp]; go_simp
          exact hK _ hC (Fp.refl _ _)
        refine ⟨?_, ?_⟩
        · repeat (first | exact trivial | refine stab_val _ ?_ | refine ⟨fun w1 w2 v _ hf ⟨g, h1, h2⟩ => ⟨g, h1, (hf.block g (heap_lt h2) (by simp)).trans h2⟩, ?_⟩)
        · intro w' hC
          simp only [List.reverse_cons, List.reverse_nil, List.nil_append, List.cons_append]
          iterate 9 (refine all_val ?_)
          refine all_nil ?_
          simp only [putAll, Act.put, List.setIfInBounds_toArray, List.set_cons_succ, List.set_cons_zero]
          have HF3 := Lib.hid (HF2.out.trans hC (by simp))
          clear hC
          go_wp2_with (fail)
          refine bodyPost_ret (v := .tuple #[.string ⟨#[]⟩, .int .i64 0, .int .i64 20]) (by simp [results, Tryz.results38, go_sem, *]) rfl ⟨rfl, HF3.out⟩
end Go.Proofs.YtjnapcfclejknaaGreatDoor
