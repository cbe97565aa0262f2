/-
 Decode. Encode. Encode and Decode: plain laws. The small case of layer 1, and the bound. Cells stand as their keys' bytes do. The reference of layer 1: May, Number, value, short. The reference of layer 1: Number, Encode. The reference of layer 1: Encode.
-/
import Derived.Test.YtkagolpnaicdoaaGreatDoorSBytes
import Derived.Deep.RegionHeld3
import Derived.Outline
import Derived.IntWalk
import Derived.Laws.DeepStrings4
set_option maxRecDepth 100000
set_option maxHeartbeats 8000000
namespace Go.Proofs.YtkagolpnaicdoaaGreatDoor
section
section
open Go.RowKit
end
section
open Go.RowKit
def delN (d : Bool) : UInt8 := if d then 1 else 0
end
section
open Go.Lib
def bl (l : List UInt8) : ByteArray := ⟨l.toArray⟩
theorem bl_data (s : ByteArray) : bl s.data.toList = s := mk_data s
theorem bl_size (l : List UInt8) : (bl l).size = l.length := by show l.toArray.size = _; simp
theorem bl_toList (l : List UInt8) : (bl l).data.toList = l := by simp [bl]
theorem bl_extract (l : List UInt8) (a b : Nat) : (bl l).extract a b = bl ((l.drop a).take (b - a)) := by
 rw [← bl_data ((bl l).extract a b)]
 congr 1
 rw [extract_data, bl_toList]
theorem bl_at (l : List UInt8) (j : Nat) : atB (bl l) j = l.getD j 0 := by unfold atB; rw [bl_toList]
theorem leN_le8 (n : Nat) (y : List UInt8) : ∀ k, k ≤ 8 → leN (bl (le8 n ++ y)) k = n % 256 ^ k
 |0, _ => by simp [leN, Nat.mod_one]
 |k + 1, h => by
  show leN _ k + _ = _
  rw [leN_le8 n y k (by omega), bl_at, List.getD_eq_getElem?_getD, List.getElem?_append_left (by rw [le8_length]; omega)]
  have : (le8 n)[k]? = some (byteN n k) := by
   unfold le8
   rw [List.getElem?_map, List.getElem?_range (by omega)]
   rfl
  rw [this]
  show _ + (byteN n k).toNat * _ = _
  unfold byteN
  have h2 := Nat.mod_mul (x := n) (a := 256 ^ k) (b := 256)
  have h3 : (256 : Nat) ^ (k + 1) = 256 ^ k * 256 := Nat.pow_succ _ _
  rw [UInt8.toNat_ofNat', show (2 : Nat) ^ 8 = 256 from rfl, h3, h2, Nat.mul_comm (256 ^ k) (n / 256 ^ k % 256)]
end
section
open Go.RowKit
def cb : Cel := ⟨⟨#[114]⟩, ⟨#[99]⟩, 4, 0, false, ⟨#[]⟩⟩
end
section
open Go.Lib
def beK (n : Nat) : Nat → List UInt8
 |0 => []
 |k + 1 => byteN n k :: beK n k
theorem be8_beK (n : Nat) : be8 n = beK n 8 := rfl
theorem cmpN_self (n : Nat) : cmpN n n = 0 := cmpN_eq (Nat.lt_irrefl _) (Nat.lt_irrefl _)
theorem cb_beK (n m : Nat) (X Y : List UInt8) : ∀ k, compareBytes (beK n k ++ X) (beK m k ++ Y) = if n % 256 ^ k = m % 256 ^ k then compareBytes X Y else cmpN (n % 256 ^ k) (m % 256 ^ k)
 |0 => by simp [beK, Nat.mod_one]
 |k + 1 => by
  have ih := cb_beK n m X Y k
  have hn := Nat.mod_mul (x := n) (a := 256 ^ k) (b := 256)
  have hm := Nat.mod_mul (x := m) (a := 256 ^ k) (b := 256)
  have hp : (256 : Nat) ^ (k + 1) = 256 ^ k * 256 := Nat.pow_succ _ _
  have hpos : 0 < (256 : Nat) ^ k := Nat.pow_pos (by decide)
  have ln := Nat.mod_lt n hpos
  have lm := Nat.mod_lt m hpos
  have bn : (byteN n k).toNat = n / 256 ^ k % 256 := by unfold byteN; rw [UInt8.toNat_ofNat']
  have bm : (byteN m k).toNat = m / 256 ^ k % 256 := by unfold byteN; rw [UInt8.toNat_ofNat']
  rw [hp, hn, hm]
  show compareBytes (byteN n k :: (beK n k ++ X)) (byteN m k :: (beK m k ++ Y)) = _
  generalize n / 256 ^ k % 256 = a at *
  generalize m / 256 ^ k % 256 = b at *
  generalize n % 256 ^ k = r at *
  generalize m % 256 ^ k = s at *
  generalize (256 : Nat) ^ k = P at *
  rcases Nat.lt_trichotomy a b with h | h | h
  ·have h2 : P * (a + 1) ≤ P * b := Nat.mul_le_mul_left _ h
   rw [Nat.mul_add, Nat.mul_one] at h2
   rw [cb_cons_lt (UInt8.lt_iff_toNat_lt.2 (by omega)), if_neg (by omega), cmpN_lt (by omega)]
  ·subst h
   obtain e : byteN n k = byteN m k := UInt8.toNat_inj.1 (by omega)
   rw [e, cb_cons_same, ih]
   by_cases hrs : r = s
   ·rw [if_pos hrs, if_pos (by omega)]
   ·rw [if_neg hrs, if_neg (by omega)]
    rcases Nat.lt_or_gt_of_ne hrs with h | h
    ·rw [cmpN_lt h, cmpN_lt (by omega)]
    ·rw [cmpN_gt h, cmpN_gt (by omega)]
  ·have h2 : P * (b + 1) ≤ P * a := Nat.mul_le_mul_left _ h
   rw [Nat.mul_add, Nat.mul_one] at h2
   rw [cb_cons_gt (UInt8.lt_iff_toNat_lt.2 (by omega)), if_neg (by omega), cmpN_gt (by omega)]
theorem cb_be8 (n m : Nat) (hn : n < 18446744073709551616) (hm : m < 18446744073709551616) (X Y : List UInt8) : compareBytes (be8 n ++ X) (be8 m ++ Y) = if n = m then compareBytes X Y else cmpN n m := by
 have h := cb_beK n m X Y 8
 have e : (256 : Nat) ^ 8 = 18446744073709551616 := by decide
 rw [e, Nat.mod_eq_of_lt hn, Nat.mod_eq_of_lt hm] at h
 rw [be8_beK, be8_beK]
 exact h
theorem cmpN_zero {a b : Nat} (h : cmpN a b = 0) : a = b := by
 unfold cmpN at h
 by_cases h1 : a < b
 ·rw [if_pos h1] at h; exact absurd h (by decide)
 ·by_cases h2 : b < a
  ·rw [if_neg h1, if_pos h2] at h; exact absurd h (by decide)
  ·omega
theorem cmpN_turn (a b : Nat) (ha : a < 18446744073709551616) (hb : b < 18446744073709551616) : cmpN (M64 - a) (M64 - b) = cmpN b a := by
 unfold cmpN M64
 by_cases h1 : b < a
 ·rw [if_pos h1, if_pos (by omega)]
 ·by_cases h2 : a < b
  ·rw [if_neg h1, if_pos h2, if_neg (by omega), if_pos (by omega)]
  ·rw [if_neg h1, if_neg h2, if_neg (by omega), if_neg (by omega)]
theorem key_order (a b : Cel) (ha : CelOK a) (hb : CelOK b) : compareBytes (keyL a) (keyL b) = cmpC a b := by
 unfold keyL cmpC
 rw [cb_esc]
 unfold firstN
 by_cases h1 : a.row.data.toList = b.row.data.toList
 ·have z1 : cmpS a.row b.row = 0 := by unfold cmpS; rw [h1]; exact cb_refl _
  rw [if_pos h1, if_neg (by simp [z1]), cb_esc]
  unfold firstN
  by_cases h2 : a.col.data.toList = b.col.data.toList
  ·have z2 : cmpS a.col b.col = 0 := by unfold cmpS; rw [h2]; exact cb_refl _
   rw [if_pos h2, if_neg (by simp [z2]), cb_be8 _ _ (by unfold M64; omega) (by unfold M64; omega), cmpN_turn _ _ ha.ts hb.ts]
   unfold firstN
   have h5 := ha.ts
   have h6 := hb.ts
   by_cases h3 : M64 - a.ts = M64 - b.ts
   ·have z3 : cmpN b.ts a.ts = 0 := by rw [show a.ts = b.ts by unfold M64 at h3; omega]; exact cmpN_self _
    have := cb_be8 (M64 - a.seq) (M64 - b.seq) (by unfold M64; omega) (by unfold M64; omega) [] []
    rw [List.append_nil, List.append_nil] at this
    rw [if_pos h3, if_neg (by simp [z3]), this, cmpN_turn _ _ ha.seq hb.seq]
    unfold firstN
    have h7 := ha.seq
    have h8 := hb.seq
    by_cases h4 : M64 - a.seq = M64 - b.seq
    ·have z4 : cmpN b.seq a.seq = 0 := by rw [show a.seq = b.seq by unfold M64 at h4; omega]; exact cmpN_self _
     rw [if_pos h4, if_neg (by simp [z4])]
     rfl
    ·have z4 : cmpN b.seq a.seq ≠ 0 := fun e => h4 (by rw [cmpN_zero e])
     rw [if_neg h4, if_pos z4]
   ·have z3 : cmpN b.ts a.ts ≠ 0 := fun e => h3 (by rw [cmpN_zero e])
    rw [if_neg h3, if_pos z3]
  ·have z2 : cmpS a.col b.col ≠ 0 := fun e => h2 (cb_eq e)
   rw [if_neg h2, if_pos z2]
   rfl
 ·have z1 : cmpS a.row b.row ≠ 0 := fun e => h1 (cb_eq e)
  rw [if_neg h1, if_pos z1]
  rfl
theorem cmpC_self (a : Cel) (ha : CelOK a) : cmpC a a = 0 := by rw [← key_order a a ha ha]; exact cb_refl _
theorem cmpC_neg (a b : Cel) (ha : CelOK a) (hb : CelOK b) : cmpC b a = - cmpC a b := by rw [← key_order a b ha hb, ← key_order b a hb ha]; exact cb_neg _ _
theorem cmpC_trans (a b c : Cel) (ha : CelOK a) (hb : CelOK b) (hc : CelOK c) (h1 : cmpC a b ≤ 0) (h2 : cmpC b c ≤ 0) : cmpC a c ≤ 0 := by
 rw [← key_order a b ha hb] at h1
 rw [← key_order b c hb hc] at h2
 rw [← key_order a c ha hc]
 exact cb_trans h1 h2
theorem cmpC_range (a b : Cel) (ha : CelOK a) (hb : CelOK b) : cmpC a b = -1 ∨ cmpC a b = 0 ∨ cmpC a b = 1 := by
 rw [← key_order a b ha hb]; exact cb_range _ _
theorem less_cb : ∀ (x y : List UInt8), Op.bytesLess x y = decide (compareBytes x y = -1)
 |_, [] => by
  rename_i x
  cases x <;> simp [Op.bytesLess, compareBytes]
 |[], _ :: _ => by simp [Op.bytesLess, compareBytes]
 |a :: x, b :: y => by
  have ih := less_cb x y
  unfold Op.bytesLess
  rcases Nat.lt_trichotomy a.toNat b.toNat with k | k | k
  ·have h := UInt8.lt_iff_toNat_lt.2 k
   rw [cb_cons_lt h]; simp [h]
  ·obtain rfl : a = b := UInt8.toNat_inj.1 k
   rw [cb_cons_same, ih]; simp [UInt8.lt_irrefl]
  ·have h := UInt8.lt_iff_toNat_lt.2 k
   rw [cb_cons_gt h]
   have h2 : ¬ a < b := UInt8.lt_asymm h
   have h3 : ¬ a = b := fun e => by rw [e] at k; omega
   simp [h2, h3]
end
end
section
section
open Go.RowKit
end
section
open Go.RowKit
end
section
open Go.RowKit
theorem conv2 {w : World} {g n m : Nat} (hg : w.heap[g]? = some (.cells #[.int .u8 n, .int .u8 m] 5 (0, 0))) (h : n < 256) (h2 : m < 256) : (convert 113 9 (.slice (some ⟨g, 0, none⟩) 2 2)).run Tryz.prog w = .ok (.string (bl [UInt8.ofNat n, UInt8.ofNat m])) w := by
 refine str_of_brow (cap := 2) (n := 2) (f := fun j => if j = 0 then UInt8.ofNat n else UInt8.ofNat m) ⟨heap_lt hg, fun j hj => ?_, fun j _ => frozen_of_block hg j⟩
 have h3 : j = 0 ∨ j = 1 := by omega
 rcases h3 with rfl | rfl
 ·rw [cell_of_block hg, if_pos rfl, byteV_ofNat h]; rfl
 ·rw [cell_of_block hg, if_neg (by decide), byteV_ofNat h2]; rfl
theorem bl_append (a b : List UInt8) : bl a ++ bl b = bl (a ++ b) := by
 rw [← Lib.mk_data (bl a ++ bl b)]
 unfold bl
 simp
end
end
end Go.Proofs.YtkagolpnaicdoaaGreatDoor
