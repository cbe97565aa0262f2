/-
  A number of eight bytes, the lowest one first.
-/
import Derived.Test.YtepffknhkpppcaaDoorBytes2
import Derived.Laws.Bits64b
namespace Go.Proofs.YtepffknhkpppcaaDoor
open Go.RowKit

/-- the number of the first k bytes of s -/
def leN (s : ByteArray) : Nat → Nat
  | 0 => 0
  | k + 1 => leN s k + (atB s k).toNat * 256 ^ k

theorem leN_lt (s : ByteArray) : ∀ k, leN s k < 256 ^ k
  | 0 => Nat.one_pos
  | k + 1 => by
    have h1 := leN_lt s k
    have h2 := (atB s k).toNat_lt
    show leN s k + (atB s k).toNat * 256 ^ k < 256 ^ (k + 1)
    have h3 : (atB s k).toNat * 256 ^ k ≤ 255 * 256 ^ k := Nat.mul_le_mul_right _ (by omega)
    rw [Nat.pow_succ]
    omega

theorem leN_or (s : ByteArray) (k : Nat) : leN s k ||| ((atB s k).toNat * 256 ^ k) = leN s (k + 1) := by
  have h1 := leN_lt s k
  have h2 : (256 : Nat) ^ k = 2 ^ (8 * k) := by rw [Nat.pow_mul]
  rw [h2] at h1 ⊢
  have h3 := Nat.two_pow_add_eq_or_of_lt h1 (atB s k).toNat
  show _ = leN s k + (atB s k).toNat * 256 ^ k
  rw [h2, Nat.or_comm, Nat.mul_comm, ← h3]
  omega

theorem index_at {s : ByteArray} {k : Nat} (h : k < s.size) : s.data.toList[k]? = some (atB s k) := by
  unfold atB
  have hlen : s.data.toList.length = s.size := rfl
  rw [List.getD_eq_getElem?_getD, List.getElem?_eq_getElem (by omega)]
  rfl

theorem or_step {s : ByteArray} {k : Nat} (hks : k < s.size) (hk : k < 8) :
    bits .or .u64 (leN s k : Int) (IntKind.u64.wrap (IntKind.u64.wrap (s[k].toNat : Int) * 2 ^ (8 * k))) = (leN s (k + 1) : Int) := by
  have h0 : s[k].toNat < 256 := s[k].toNat_lt
  have e1 : atB s k = s[k] := by
    unfold atB
    rw [List.getD_eq_getElem?_getD, List.getElem?_eq_getElem (by simpa using hks)]
    simp
    rfl
  have h1 := leN_lt s k
  have h2 := leN_lt s (k + 1)
  have h3 := leN_or s k
  rw [e1] at h3
  have h4 : (256 : Nat) ^ k = 2 ^ (8 * k) := by rw [Nat.pow_mul]
  have h5 : (256 : Nat) ^ (k + 1) ≤ 256 ^ 8 := Nat.pow_le_pow_right (by decide) (by omega)
  have h6 : (256 : Nat) ^ 8 = 18446744073709551616 := by decide
  have h7 : s[k].toNat * 256 ^ k < 18446744073709551616 := by
    have : leN s (k + 1) = leN s k + s[k].toNat * 256 ^ k := by rw [← e1]; rfl
    omega
  have w1 : IntKind.u64.wrap (s[k].toNat : Int) = (s[k].toNat : Int) := by rw [IntKind.wrap_u64]; omega
  have w2 : ((s[k].toNat : Int) * 2 ^ (8 * k)) = ((s[k].toNat * 256 ^ k : Nat) : Int) := by
    rw [h4]; push_cast; rfl
  rw [w1, w2, IntKind.wrap_u64, show ((s[k].toNat * 256 ^ k : Nat) : Int) % 18446744073709551616 = ((s[k].toNat * 256 ^ k : Nat) : Int) by omega]
  have h8 : (256 : Nat) ^ k ≤ 256 ^ 8 := Nat.pow_le_pow_right (by decide) (by omega)
  rw [bits_or_u64_nat _ _ (by omega) h7, h3]

set_option maxRecDepth 100000 in
set_option maxHeartbeats 1000000 in
theorem number_any (w : World) (s : ByteArray) (hs : 8 ≤ s.size) (hs2 : s.size ≤ 9223372036854775807) :
    Calls Tryd.prog 51 #[.string s] w fun e w' => e = .returned (.int .u64 (leN s 8)) ∧ Fp [] w w' := by
  go_enter Tryd.func51, Tryd.ntmps51
  go_wp2
  go_loopg [2, 4] 8 (fun g n i wr => ∃ k : Nat, g + k = 8 ∧ n = .int .u64 (leN s k) ∧ i = .int .i64 k ∧ Fp [] w wr)
  case atStart => exact ⟨0, rfl, rfl, rfl, Fp.refl _ _⟩
  case round =>
    obtain ⟨k, hg, rfl, rfl, hf⟩ := hrel
    have HF := Lib.hid hf
    clear hf
    by_cases hk : k < 8
    · have hks : k < s.size := by omega
      go_wp2_with (fail)
      go_roundg (gk - 1)
      case measure => omega
      case rel => exact ⟨k + 1, by omega, by rw [or_step hks hk], by go_num, HF.out⟩
    · obtain rfl : k = 8 := by omega
      go_wp2_with (fail)
      go_ret
      exact ⟨rfl, HF.out⟩
end Go.Proofs.YtepffknhkpppcaaDoor
