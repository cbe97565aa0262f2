/-
  The reference of layer 7: digits.
-/
import Derived.Test.YtfhjdfimkeogaaaDoorParRefA
import Derived.IntWalk
namespace Go.Proofs.YtfhjdfimkeogaaaDoor
open Go.RowKit Go.Lib

def digB (b : UInt8) : Bool := decide (48 ≤ b.toNat ∧ b.toNat ≤ 57)
def decN (acc : Nat) (l : List UInt8) : Nat := l.foldl (fun a b => a * 10 + (b.toNat - 48)) acc
theorem pu_ok : ∀ (l : List UInt8) (acc j : Nat), acc < 10 ^ j → j + l.length ≤ 18 → (∀ b ∈ l, digB b = true) → parseUintM (2 ^ 64 - 1) acc l = .ok (decN acc l)
  | [], _, _, _, _, _ => rfl
  | c :: r, acc, j, ha, hj, h => by
    have hc : 48 ≤ c.toNat ∧ c.toNat ≤ 57 := of_decide_eq_true (h c (by simp))
    rw [List.length_cons] at hj
    have hp : 10 ^ (j + 1) ≤ 10 ^ 18 := Nat.pow_le_pow_right (by decide) (by omega)
    have hp2 : 10 ^ (j + 1) = 10 ^ j * 10 := Nat.pow_succ ..
    have h18 : (10 : Nat) ^ 18 = 1000000000000000000 := by decide
    have hn : acc * 10 + (c.toNat - 48) < 10 ^ (j + 1) := by omega
    unfold parseUintM
    rw [if_pos hc, if_neg (by omega), if_neg (by omega)]
    exact pu_ok r _ (j + 1) hn (by omega) (fun b hb => h b (by simp [hb]))
theorem pu_bad (M : Nat) : ∀ (l : List UInt8) (acc : Nat), (∃ b ∈ l, digB b = false) → ∀ n, parseUintM M acc l ≠ .ok n
  | [], _, h, _ => by obtain ⟨b, hb, _⟩ := h; simp at hb
  | c :: r, acc, h, n => by
    unfold parseUintM
    by_cases hc : 48 ≤ c.toNat ∧ c.toNat ≤ 57
    · rw [if_pos hc]
      split
      · intro e; cases e
      · split
        · intro e; cases e
        · refine pu_bad M r _ ?_ n
          obtain ⟨b, hb, hd⟩ := h
          rcases List.mem_cons.1 hb with rfl | hb
          · exact absurd hc (of_decide_eq_false hd)
          · exact ⟨b, hb, hd⟩
    · rw [if_neg hc]; intro e; cases e
theorem num_bad (s : ByteArray) (k : Nat) (hk : k < s.size) (h : digB s[k] = false) : numB s = none := by
  have hb := pu_bad (2 ^ 64 - 1) s.data.toList 0 ⟨_, List.mem_of_getElem? (get_data hk), h⟩
  unfold numB parseUintB
  have hne : s.data.toList ≠ [] := fun e => by have := get_data hk; rw [e] at this; simp at this
  rw [if_neg hne]
  split
  · rename_i u hu; exact absurd hu (hb u)
  · rfl
theorem num_long (s : ByteArray) (h : ¬ s.size ≤ 18) : numB s = none := by
  unfold numB
  split
  · rw [if_neg h]
  · rfl
theorem num_zero (s : ByteArray) (h : s.size = 0) : numB s = none := by
  have : s.data.toList = [] := by rw [size_eq] at h; exact List.eq_nil_of_length_eq_zero h
  unfold numB parseUintB
  rw [this]; rfl
theorem num_is (s : ByteArray) (h0 : s.size ≠ 0) (h : s.size ≤ 18) (hd : ∀ j (hj : j < s.size), digB s[j] = true) : numB s = some (decN 0 s.data.toList) := by
  have hne : s.data.toList ≠ [] := fun e => h0 (by rw [size_eq, e]; rfl)
  have hall : ∀ b ∈ s.data.toList, digB b = true := by
    intro x hx
    obtain ⟨j, hj, rfl⟩ := List.getElem_of_mem hx
    have hj2 : j < s.size := by rw [size_eq]; exact hj
    have e := get_data hj2
    rw [List.getElem?_eq_getElem hj] at e
    rw [Option.some.inj e]
    exact hd j hj2
  unfold numB parseUintB
  rw [if_neg hne, pu_ok s.data.toList 0 0 (by decide) (by rw [← size_eq]; omega) hall]
  exact if_pos h
/-- what the first k digits spell -/
def decK (s : ByteArray) (k : Nat) : Nat := decN 0 (s.data.toList.take k)
theorem decK_succ (s : ByteArray) (k : Nat) (hk : k < s.size) : decK s (k + 1) = decK s k * 10 + (s[k].toNat - 48) := by
  have hl : k < s.data.toList.length := by rw [← size_eq]; exact hk
  have e := get_data hk
  rw [List.getElem?_eq_getElem hl] at e
  unfold decK decN
  rw [List.take_succ_eq_append_getElem hl, List.foldl_append, Option.some.inj e]
  rfl
theorem decK_lt (s : ByteArray) : ∀ (k : Nat), k ≤ s.size → (∀ j (hj : j < s.size), j < k → digB s[j] = true) → decK s k < 10 ^ k
  | 0, _, _ => by unfold decK; rw [List.take_zero]; decide
  | k + 1, hk, hd => by
    have ih := decK_lt s k (by omega) (fun j hj hjk => hd j hj (by omega))
    have hc : 48 ≤ s[k].toNat ∧ s[k].toNat ≤ 57 := of_decide_eq_true (hd k hk (by omega))
    rw [decK_succ s k hk, Nat.pow_succ]
    omega

set_option maxRecDepth 100000 in
set_option maxHeartbeats 4000000 in
theorem digits_any (s : ByteArray) (w : World) (hs : s.size ≤ 100000000) :
    Calls Tryd.prog 39 #[.string s] w fun e w' => (∃ u : Nat, e = .returned (.tuple #[.int .u64 u, .bool (numB s).isSome]) ∧ (numB s = none ∨ numB s = some u)) ∧ Fp [] w w' := by
  go_enter Tryd.func39, Tryd.ntmps39
  go_wp2_with (fail)
  go_loopg [4, 5] s.size (fun g vn vi wr => ∃ k u : Nat, g + k = s.size ∧ vi = .int .i64 k ∧ vn = .int .u64 u ∧ Fp [] w wr ∧ (∀ j (hj : j < s.size), j < k → digB s[j] = true) ∧ (s.size ≤ 18 → u = decK s k) ∧ u < 1000000000000000000)
  case atStart => exact ⟨0, 0, by simp, rfl, rfl, Fp.refl _ _, (by intro j _ h; omega), (fun _ => rfl), by decide⟩
  case round =>
    obtain ⟨k, u, hg, rfl, rfl, hf, hall, hu, hlt⟩ := hrel
    have HF := Lib.hid hf
    have HALL := Lib.hid hall
    have HU := Lib.hid hu
    clear hf hall hu
    by_cases hk : k < s.size
    · by_cases h1 : s[k].toNat < 48
      · have HN := Lib.hid (num_bad s k hk (decide_eq_false (by omega)))
        have z1 : (s[k].toNat : Int) < 48 := by omega
        go_wp2_with (fail)
        go_ret2
        refine ⟨⟨0, ?_, Or.inl HN.out⟩, HF.out⟩
        rw [HN.out]; rfl
      · have z1 : ¬ (s[k].toNat : Int) < 48 := by omega
        by_cases h2 : 57 < s[k].toNat
        · have HN := Lib.hid (num_bad s k hk (decide_eq_false (by omega)))
          have z2 : (s[k].toNat : Int) > 57 := by omega
          go_wp2_with (fail)
          go_ret2
          refine ⟨⟨0, ?_, Or.inl HN.out⟩, HF.out⟩
          rw [HN.out]; rfl
        · have z2 : ¬ (s[k].toNat : Int) > 57 := by omega
          have hd : digB s[k] = true := decide_eq_true (by omega)
          have HN : Hid (∀ j (hj : j < s.size), j < k + 1 → digB s[j] = true) := fun j hj hjk => by
            by_cases e : j = k
            · subst e; exact hd
            · exact HALL.out j hj (by omega)
          by_cases h18 : s.size ≤ 18
          · have hl := decK_lt s (k + 1) (by omega) HN.out
            have hp : 10 ^ (k + 1) ≤ 10 ^ 18 := Nat.pow_le_pow_right (by decide) (by omega)
            have HS := Lib.hid (decK_succ s k hk)
            have hlt2 : u * 10 + (s[k].toNat - 48) < 1000000000000000000 := by
              have := HU.out h18
              have := HS.out
              have : (10 : Nat) ^ 18 = 1000000000000000000 := by decide
              omega
            go_wp2_with (fail)
            go_roundg (gk - 1)
            case measure => omega
            case rel => exact ⟨k + 1, u * 10 + (s[k].toNat - 48), by omega, by simp, congrArg (Value.int .u64) (by omega), HF.out, HN.out, (fun h => by rw [HS.out, ← HU.out h]), hlt2⟩
          · go_wp2_with (fail)
            go_roundg (gk - 1)
            case measure => omega
            case rel => exact ⟨k + 1, u, by omega, by simp, rfl, HF.out, HN.out, (fun h => absurd h h18), hlt⟩
    · by_cases h0 : s.size = 0
      · have HN := Lib.hid (num_zero s h0)
        go_wp2_with (fail)
        go_ret2
        refine ⟨⟨u, ?_, Or.inl HN.out⟩, HF.out⟩
        rw [HN.out]; rfl
      · by_cases h18 : s.size ≤ 18
        · have HN := Lib.hid (num_is s h0 h18 (fun j hj => HALL.out j hj (by omega)))
          have HK : Hid (u = decN 0 s.data.toList) := by
            have h1 := HU.out h18
            unfold decK at h1
            rw [List.take_of_length_le (by rw [← size_eq]; omega)] at h1
            exact h1
          go_wp2_with (fail)
          go_ret2
          refine ⟨⟨u, ?_, Or.inr (by rw [HN.out, HK.out])⟩, HF.out⟩
          rw [HN.out]
          simp
          omega
        · have HN := Lib.hid (num_long s h18)
          go_wp2_with (fail)
          go_ret2
          refine ⟨⟨u, ?_, Or.inl HN.out⟩, HF.out⟩
          rw [HN.out]
          simp
          omega
end Go.Proofs.YtfhjdfimkeogaaaDoor
