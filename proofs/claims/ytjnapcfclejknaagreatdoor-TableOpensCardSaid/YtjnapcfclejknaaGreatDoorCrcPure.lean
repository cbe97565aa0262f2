/-
  The checksum: by a table of four bits, and by bits: the same.
-/
import Derived.Test.YtjnapcfclejknaaGreatDoorMem
namespace Go.Proofs.YtjnapcfclejknaaGreatDoor

def polyN : Nat := 3988292384
def bitN (n : Nat) : Nat := (n / 2) ^^^ (if n % 2 = 1 then polyN else 0)
def fourL : List Nat := [0, 498536548, 997073096, 651767980, 1994146192, 1802195444, 1303535960, 1342533948, 3988292384, 4027552580, 3604390888, 3412177804, 2607071920, 2262029012, 2685067896, 3183342108]
def nibN (n : Nat) : Nat := (n / 16) ^^^ fourL.getD (n % 16) 0

theorem xor_div2 (a b : Nat) : (a ^^^ b) / 2 = (a / 2) ^^^ (b / 2) := by
  have := Nat.shiftRight_xor_distrib (a := a) (b := b) (i := 1)
  simpa [Nat.shiftRight_eq_div_pow] using this
theorem xor_mod2 (a b : Nat) : (a ^^^ b) % 2 = (a % 2 + b % 2) % 2 := by
  have h := Nat.xor_mod_two_pow (a := a) (b := b) (n := 1)
  rw [Nat.pow_one] at h
  rw [h]
  rcases Nat.mod_two_eq_zero_or_one a with ha | ha <;> rcases Nat.mod_two_eq_zero_or_one b with hb | hb <;> rw [ha, hb] <;> rfl
theorem bit_xor (a b : Nat) : bitN (a ^^^ b) = bitN a ^^^ bitN b := by
  unfold bitN
  rw [xor_div2, xor_mod2]
  rcases Nat.mod_two_eq_zero_or_one a with ha | ha <;> rcases Nat.mod_two_eq_zero_or_one b with hb | hb <;> rw [ha, hb]
  · simp
  · simp [Nat.xor_assoc]
  · simp [Nat.xor_assoc, Nat.xor_comm (b / 2)]
  · simp only [Nat.reduceAdd, Nat.reduceMod, Nat.reduceEqDiff, if_false, if_true, Nat.xor_zero]
    rw [Nat.xor_assoc, Nat.xor_comm polyN, Nat.xor_assoc, Nat.xor_self, Nat.xor_zero]
theorem bit_even (m : Nat) : bitN (2 * m) = m := by
  unfold bitN
  rw [Nat.mul_div_cancel_left m (by decide), Nat.mul_mod_right, if_neg (by decide), Nat.xor_zero]
theorem split16 (n : Nat) : n = (16 * (n / 16)) ^^^ (n % 16) := by
  have h := Nat.two_pow_add_eq_or_of_lt (i := 4) (b := n % 16) (Nat.mod_lt _ (by decide)) (n / 16)
  have h2 : (16 * (n / 16)) ^^^ (n % 16) = 2 ^ 4 * (n / 16) + n % 16 := by
    apply Nat.eq_of_testBit_eq
    intro i
    rw [Nat.testBit_two_pow_mul_add _ (Nat.mod_lt _ (by decide)), Nat.testBit_xor, show (16 : Nat) = 2 ^ 4 from rfl, Nat.testBit_two_pow_mul, Nat.testBit_mod_two_pow]
    by_cases hi : i < 4
    · have : ¬ 4 ≤ i := by omega
      simp [hi, this]
    · simp [hi]; omega
  omega
theorem nib_bits (n : Nat) : nibN n = bitN (bitN (bitN (bitN n))) := by
  conv => rhs; rw [split16 n]
  rw [bit_xor, show 16 * (n / 16) = 2 * (8 * (n / 16)) by omega, bit_even, bit_xor, show 8 * (n / 16) = 2 * (4 * (n / 16)) by omega, bit_even, bit_xor, show 4 * (n / 16) = 2 * (2 * (n / 16)) by omega, bit_even, bit_xor, bit_even]
  unfold nibN
  congr 1
  have h : n % 16 < 16 := Nat.mod_lt _ (by decide)
  generalize n % 16 = r at h
  have key : ∀ r, r < 16 → fourL.getD r 0 = bitN (bitN (bitN (bitN r))) := by decide
  exact key r h
/-- one byte in -/
def nibsN (n : Nat) (b : UInt8) : Nat := nibN (nibN (n ^^^ b.toNat))
def byteR (n : Nat) (b : UInt8) : Nat := bitN (bitN (bitN (bitN (bitN (bitN (bitN (bitN (n ^^^ b.toNat))))))))
theorem byte_same (n : Nat) (b : UInt8) : nibsN n b = byteR n b := by unfold nibsN byteR; rw [nib_bits, nib_bits]
def sumN (n : Nat) (l : List UInt8) : Nat := l.foldl byteR n
theorem bit_lt {n : Nat} (h : n < 4294967296) : bitN n < 4294967296 := by
  unfold bitN
  refine Nat.xor_lt_two_pow (n := 32) (by omega) ?_
  split <;> decide
theorem byteR_lt {n : Nat} {b : UInt8} (h : n < 4294967296) : byteR n b < 4294967296 := by
  have hb := b.toNat_lt
  unfold byteR
  exact bit_lt (bit_lt (bit_lt (bit_lt (bit_lt (bit_lt (bit_lt (bit_lt (Nat.xor_lt_two_pow (n := 32) h (by omega)))))))))
end Go.Proofs.YtjnapcfclejknaaGreatDoor
