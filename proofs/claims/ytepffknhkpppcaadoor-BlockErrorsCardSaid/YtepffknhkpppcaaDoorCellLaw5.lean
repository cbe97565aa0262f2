/-
  The reference decodes as the program does.
-/
import Derived.Test.YtepffknhkpppcaaDoorRefD
namespace Go.Proofs.YtepffknhkpppcaaDoor
open Go.Lib

theorem take_ok (s : ByteArray) (n : Nat) (h : n ≤ s.size) : (⟨s, 0⟩ : Rd).take n = (s.extract 0 n, ⟨s.extract n s.size, 0⟩) := by
  unfold Rd.take
  rw [if_pos rfl, if_pos h]
theorem take_lack (s : ByteArray) (n : Nat) (h : s.size < n) : ((⟨s, 0⟩ : Rd).take n).2 = ⟨s, 10⟩ := by
  unfold Rd.take
  rw [if_pos rfl, if_neg (by simp; omega)]
theorem atB_extract (s : ByteArray) (a b j : Nat) (h : a + j < b) (_hb : b ≤ s.size) : atB (s.extract a b) j = atB s (a + j) := by
  unfold atB
  rw [extract_data, List.getD_eq_getElem?_getD, List.getD_eq_getElem?_getD, List.getElem?_take, if_pos (by omega), List.getElem?_drop]
theorem extract_extract' (s : ByteArray) (a b c d : Nat) (_hb : b ≤ s.size) (hd : a + d ≤ b) : (s.extract a b).extract c d = s.extract (a + c) (a + d) := by
  rw [← mk_data ((s.extract a b).extract c d), ← mk_data (s.extract (a + c) (a + d))]
  congr 2
  rw [extract_data, extract_data, extract_data, List.drop_take, List.drop_drop, List.take_take]
  congr 1
  omega

theorem text_short (s : ByteArray) : ((shortR s).2.2 = true ∧ (⟨s, 0⟩ : Rd).text = ((shortR s).1, ⟨(shortR s).2.1, 0⟩)) ∨ ((shortR s).2.2 = false ∧ (⟨s, 0⟩ : Rd).text.2.e = 10) := by
  unfold shortR
  by_cases h : s.size = 0 ∨ s.size < 1 + (atB s 0).toNat
  · right
    rw [if_pos h]
    refine ⟨rfl, ?_⟩
    unfold Rd.text
    by_cases h0 : s.size = 0
    · rw [take_lack s 1 (by omega), take_err _ _ (by show (10 : Int) ≠ 0; decide)]
    · have h1 : s.size < 1 + (atB s 0).toNat := h.resolve_left h0
      rw [take_ok s 1 (by omega)]
      rw [atB_extract s 0 1 0 (by omega) (by omega), Nat.add_zero, take_lack _ _ (by simp; omega)]
  · left
    rw [if_neg h]
    refine ⟨rfl, ?_⟩
    have h0 : 1 + (atB s 0).toNat ≤ s.size := by omega
    unfold Rd.text
    rw [take_ok s 1 (by omega)]
    rw [atB_extract s 0 1 0 (by omega) (by omega), Nat.add_zero, take_ok _ _ (by simp; omega)]
    rw [extract_extract' _ _ _ _ _ (Nat.le_refl _) (by omega)]
    congr 2
    rw [extract_extract' _ _ _ _ _ (Nat.le_refl _) (by simp; omega)]
    simp
    congr 1
    omega

theorem number_ok (s : ByteArray) (h : 8 ≤ s.size) : (⟨s, 0⟩ : Rd).number = (valV s false 8, ⟨s.extract 8 s.size, 0⟩) := by
  unfold Rd.number
  rw [take_ok s 8 h]
  congr 1
  show _ = loV s 8
  rw [loV_leN]
  refine leN_congr 8 fun j hj => ?_
  rw [atB_extract s 0 8 j (by omega) h, Nat.zero_add]
theorem number_lack (s : ByteArray) (h : s.size < 8) : (⟨s, 0⟩ : Rd).number.2.e = 10 := by
  unfold Rd.number
  rw [take_lack s 8 h]
theorem flag_lack (s : ByteArray) (h : s.size < 1) : (⟨s, 0⟩ : Rd).flag.2.e = 10 := by
  unfold Rd.flag
  show (if _ then _ else _ : Rd).e = 10
  rw [take_lack s 1 h, if_neg (fun h => absurd h.1 (by show ¬ (10 : Int) = 0; decide))]
theorem flag_ok (s : ByteArray) (h : 1 ≤ s.size) : (⟨s, 0⟩ : Rd).flag = (atB s 0 == 1, if 1 < (atB s 0).toNat then ⟨s.extract 1 s.size, 1⟩ else ⟨s.extract 1 s.size, 0⟩) := by
  unfold Rd.flag
  rw [take_ok s 1 h]
  rw [atB_extract s 0 1 0 (by omega) h, Nat.add_zero]
  congr 1
  by_cases e : 1 < (atB s 0).toNat
  · rw [if_pos ⟨rfl, e⟩, if_pos e]
  · rw [if_neg (fun h => e h.2), if_neg e]

theorem decO_bad {c : Cel} {r : Rd} (k : Int) (hk : k ≠ 0) (h : r.e = k) : decO c r = (zeroC, ⟨#[]⟩, k) := by
  unfold decO
  rw [if_neg (by rw [h]; exact hk), h]

theorem dec_ref (s : ByteArray) : decR s = decP s := by
  have ten : ∀ {r : Rd}, r.e = 10 → r.e ≠ 0 := fun h => by rw [h]; decide
  unfold decR decP
  rcases text_short s with ⟨h1, t1⟩ | ⟨h1, e1⟩
  case inr =>
    rw [if_neg (by rw [h1]; decide), text_err _ (ten e1), number_err _ (ten e1), number_err _ (ten e1), flag_err _ (ten e1), text_err _ (ten e1)]
    exact (decO_bad 10 (by decide) e1).symm
  rw [if_pos h1, t1]
  unfold decR2
  generalize (shortR s).1 = row
  generalize (shortR s).2.1 = s1
  simp only
  rcases text_short s1 with ⟨h2, t2⟩ | ⟨h2, e1⟩
  case inr =>
    rw [if_neg (by rw [h2]; simp), number_err _ (ten e1), number_err _ (ten e1), flag_err _ (ten e1), text_err _ (ten e1)]
    exact (decO_bad 10 (by decide) e1).symm
  rw [t2]
  generalize (shortR s1).1 = col
  generalize (shortR s1).2.1 = s2
  simp only
  by_cases h8 : s2.size < 8
  · have e1 := number_lack s2 h8
    rw [if_neg (by omega), number_err _ (ten e1), flag_err _ (ten e1), text_err _ (ten e1)]
    exact (decO_bad 10 (by decide) e1).symm
  rw [number_ok s2 (by omega)]
  simp only
  by_cases h16 : s2.size < 16
  · have e1 := number_lack (s2.extract 8 s2.size) (by simp; omega)
    rw [if_neg (by omega), flag_err _ (ten e1), text_err _ (ten e1)]
    exact (decO_bad 10 (by decide) e1).symm
  rw [number_ok (s2.extract 8 s2.size) (by simp; omega)]
  simp only
  rw [extract_extract' _ _ _ _ _ (Nat.le_refl _) (by simp; omega), show (s2.extract 8 s2.size).size = s2.size - 8 by simp, show 8 + (s2.size - 8) = s2.size by omega]
  show _ = decO ⟨row, col, _, _, (⟨s2.extract 16 s2.size, 0⟩ : Rd).flag.1, (⟨s2.extract 16 s2.size, 0⟩ : Rd).flag.2.text.1⟩ (⟨s2.extract 16 s2.size, 0⟩ : Rd).flag.2.text.2
  by_cases h17 : s2.size < 17
  · have e1 := flag_lack (s2.extract 16 s2.size) (by simp; omega)
    rw [if_neg (by omega), text_err _ (ten e1)]
    exact (decO_bad 10 (by decide) e1).symm
  rw [if_pos ⟨h2, by omega⟩, flag_ok _ (by simp; omega), atB_extract _ _ _ _ (by omega) (Nat.le_refl _)]
  unfold decR3
  simp only [Nat.add_zero]
  by_cases hb : 1 < (atB s2 16).toNat
  · rw [if_pos hb, if_pos hb, text_err _ (by show (1 : Int) ≠ 0; decide)]
    exact (decO_bad 1 (by decide) rfl).symm
  rw [if_neg hb, if_neg hb, extract_extract' _ _ _ _ _ (Nat.le_refl _) (by simp; omega), show (s2.extract 16 s2.size).size = s2.size - 16 by simp, show 16 + (s2.size - 16) = s2.size by omega]
  show _ = decO ⟨row, col, _, _, _, (⟨s2.extract 17 s2.size, 0⟩ : Rd).text.1⟩ (⟨s2.extract 17 s2.size, 0⟩ : Rd).text.2
  rcases text_short (s2.extract 17 s2.size) with ⟨h3, t3⟩ | ⟨h3, e1⟩
  case inr =>
    rw [if_neg (by rw [h3]; decide)]
    exact (decO_bad 10 (by decide) e1).symm
  rw [if_pos h3, t3]
  unfold decO
  rw [if_pos rfl]
end Go.Proofs.YtepffknhkpppcaaDoor
