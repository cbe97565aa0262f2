/-
  Keys come back; the reference's FromKey is the program's.
-/
import Derived.Test.YtepffknhkpppcaaDoorCellFK
import Derived.Test.YtepffknhkpppcaaDoorCellLaw5
namespace Go.Proofs.YtepffknhkpppcaaDoor
open Go.Lib

theorem bl_nil : bl [] = ⟨#[]⟩ := rfl
theorem may_coord {c : Cel} (h : mayB c = true) : mayB (coordC c.row c.col c.ts c.seq) = true := by
  obtain ⟨h1, h2, _, _⟩ := mayB_true h
  unfold mayB coordC nmB
  simp only [Bool.and_eq_true, decide_eq_true_eq, Bool.or_eq_true, Bool.not_false]
  exact ⟨⟨⟨h1, h2⟩, Nat.zero_le _⟩, Or.inl trivial⟩
theorem keyB_coord {c : Cel} (h : mayB c = true) : keyB (coordC c.row c.col c.ts c.seq) = bl (keyL c) := by
  unfold keyB
  rw [if_pos (may_coord h)]
  rfl
theorem be8_length (n : Nat) : (be8 n).length = 8 := by unfold be8; rw [List.length_reverse, le8_length]
theorem rev_be8 (n : Nat) : revB (bl (be8 n)) = bl (le8 n) := by
  unfold revB
  rw [bl_toList]
  unfold be8
  rw [List.reverse_reverse]
  rfl
theorem leN_le8_all (n : Nat) (h : n < 18446744073709551616) : leN (bl (le8 n)) 8 = n := by
  have h2 := leN_le8 n [] 8 (Nat.le_refl _)
  rw [List.append_nil] at h2
  rw [h2, Nat.mod_eq_of_lt (by have : (256 : Nat) ^ 8 = 18446744073709551616 := by decide
                               omega)]

theorem endK_coord (row col : ByteArray) (ts seq : Nat) (h : mayB (coordC row col ts seq) = true) : endK (bl (keyL (coordC row col ts seq))) (coordC row col ts seq) = (coordC row col ts seq, 0) := by
  unfold endK
  rw [if_pos]
  unfold keyB
  rw [if_pos h]
  rfl

theorem fkP_key (row col : ByteArray) (ts seq : Nat) (ht : ts ≤ M64) (hq : seq ≤ M64) (h : mayB (coordC row col ts seq) = true) : fkP (bl (keyL (coordC row col ts seq))) = (coordC row col ts seq, 0) := by
  have k1 : cutP (bl (keyL (coordC row col ts seq))) = (esc row.data.toList, esc col.data.toList ++ 0 :: 1 :: (be8 (M64 - ts) ++ be8 (M64 - seq)), true) := by
    unfold cutP
    rw [bl_toList]
    exact cut_esc _ _
  have k2 : cutP (bl (esc col.data.toList ++ 0 :: 1 :: (be8 (M64 - ts) ++ be8 (M64 - seq)))) = (esc col.data.toList, be8 (M64 - ts) ++ be8 (M64 - seq), true) := by
    unfold cutP
    rw [bl_toList]
    exact cut_esc _ _
  have u1 : ∀ r : ByteArray, unP (esc r.data.toList) = r := fun r => by unfold unP; rw [repl_unesc, bl_data]
  unfold fkP fkP1
  rw [k1]
  simp only [if_true]
  unfold fkP2
  rw [k2]
  simp only [if_true]
  unfold fkP3
  rw [u1, u1]
  have z : (bl (be8 (M64 - ts) ++ be8 (M64 - seq))).size = 16 := by rw [bl_size, List.length_append, be8_length, be8_length]
  rw [if_pos z, bl_extract, bl_extract, z]
  have e1 : ((be8 (M64 - ts) ++ be8 (M64 - seq)).drop 0).take (8 - 0) = be8 (M64 - ts) := by
    rw [List.drop_zero, List.take_append_of_le_length (by rw [be8_length]; omega), List.take_of_length_le (by rw [be8_length]; omega)]
  have e2 : ((be8 (M64 - ts) ++ be8 (M64 - seq)).drop 8).take (16 - 8) = be8 (M64 - seq) := by
    rw [List.drop_append, List.drop_eq_nil_of_le (by rw [be8_length]; omega), be8_length, List.nil_append, List.drop_zero, List.take_of_length_le (by rw [be8_length]; omega)]
  rw [e1, e2, rev_be8, rev_be8, leN_le8_all _ (by unfold M64; omega), leN_le8_all _ (by unfold M64; omega)]
  rw [show M64 - (M64 - ts) = ts by omega, show M64 - (M64 - seq) = seq by omega]
  exact endK_coord row col ts seq h

theorem partL_esc (r X : List UInt8) : ∀ acc i, partL (esc r ++ 0 :: 1 :: X) acc i = (acc ++ r, i + (esc r).length + 2) := by
  induction r with
  | nil => intro acc i; show partL (0 :: 1 :: X) acc i = _; rw [partL_zero, if_pos rfl]; simp [esc]
  | cons b r ih =>
    intro acc i
    by_cases h : b = 0
    · subst h
      rw [esc_zero]
      show partL (0 :: 255 :: (esc r ++ _)) acc i = _
      rw [partL_zero, if_neg (by decide), if_pos rfl, ih]
      simp only [List.append_assoc, List.cons_append, List.nil_append, List.length_cons, Prod.mk.injEq, true_and]
      omega
    · rw [esc_one h]
      show partL (b :: (esc r ++ _)) acc i = _
      rw [partL_step h, ih]
      simp only [List.append_assoc, List.cons_append, List.nil_append, List.length_cons, Prod.mk.injEq, true_and]
      omega
theorem be8_at (n j : Nat) (h : j < 8) : (be8 n).getD j 0 = byteN n (7 - j) := by
  unfold be8 le8
  rw [List.getD_eq_getElem?_getD, List.getElem?_reverse (by simpa using h)]
  simp only [List.length_map, List.length_range]
  rw [List.getElem?_map, List.getElem?_range (by omega)]
  simp only [Option.map_some, Option.getD_some]
theorem hiV_be8 (n : Nat) (h : n < 18446744073709551616) (y : List UInt8) : hiV (bl (be8 n ++ y)) 8 = n := by
  have ha : ∀ j, j < 8 → atB (bl (be8 n ++ y)) j = atB (bl (le8 n)) (7 - j) := by
    intro j hj
    rw [bl_at, bl_at, List.getD_eq_getElem?_getD, List.getElem?_append_left (by rw [be8_length]; exact hj), ← List.getD_eq_getElem?_getD, be8_at n j hj]
    unfold le8
    rw [List.getD_eq_getElem?_getD, List.getElem?_map, List.getElem?_range (by omega)]
    rfl
  have e := leN_le8_all n h
  conv => rhs; rw [← e]
  simp only [hiV, leN]
  rw [ha 0 (by decide), ha 1 (by decide), ha 2 (by decide), ha 3 (by decide), ha 4 (by decide), ha 5 (by decide), ha 6 (by decide), ha 7 (by decide)]
  simp only [Nat.sub_zero, Nat.reduceSub]
  omega

theorem bl_drop (l : List UInt8) (a : Nat) : (bl l).extract a (bl l).size = bl (l.drop a) := by
  rw [bl_extract, bl_size, List.take_of_length_le (by rw [List.length_drop]; exact Nat.le_refl _)]

theorem fkR_key (row col : ByteArray) (ts seq : Nat) (ht : ts ≤ M64) (hq : seq ≤ M64) (h : mayB (coordC row col ts seq) = true) : fkR (bl (keyL (coordC row col ts seq))) = (coordC row col ts seq, 0) := by
  have hk : keyL (coordC row col ts seq) = esc row.data.toList ++ 0 :: 1 :: (esc col.data.toList ++ 0 :: 1 :: (be8 (M64 - ts) ++ be8 (M64 - seq))) := rfl
  have k1 : partL (bl (keyL (coordC row col ts seq))).data.toList [] 0 = (row.data.toList, (esc row.data.toList).length + 2) := by
    rw [bl_toList, hk, partL_esc]; simp
  have d1 : (keyL (coordC row col ts seq)).drop ((esc row.data.toList).length + 2) = esc col.data.toList ++ 0 :: 1 :: (be8 (M64 - ts) ++ be8 (M64 - seq)) := by
    rw [hk, List.drop_append, List.drop_eq_nil_of_le (by omega), List.nil_append, show (esc row.data.toList).length + 2 - (esc row.data.toList).length = 2 by omega]
    rfl
  have d2 : (keyL (coordC row col ts seq)).drop ((esc row.data.toList).length + 2 + ((esc col.data.toList).length + 2)) = be8 (M64 - ts) ++ be8 (M64 - seq) := by
    rw [← List.drop_drop, d1, List.drop_append, List.drop_eq_nil_of_le (by omega), List.nil_append, show (esc col.data.toList).length + 2 - (esc col.data.toList).length = 2 by omega]
    rfl
  have d3 : (keyL (coordC row col ts seq)).drop ((esc row.data.toList).length + 2 + ((esc col.data.toList).length + 2) + 8) = be8 (M64 - seq) := by
    rw [← List.drop_drop, d2, List.drop_append, List.drop_eq_nil_of_le (by rw [be8_length]; omega), List.nil_append, be8_length]
    rfl
  have z : (bl (keyL (coordC row col ts seq))).size = (esc row.data.toList).length + 2 + ((esc col.data.toList).length + 2) + 16 := by
    rw [bl_size, hk]
    simp only [List.length_append, List.length_cons, be8_length]
    omega
  unfold fkR
  rw [k1]
  unfold fkR1
  rw [if_neg (by simp only; omega)]
  simp only
  rw [bl_drop, d1, bl_toList, partL_esc]
  unfold fkR2
  simp only [List.nil_append, Nat.zero_add]
  rw [if_neg (by rw [z]; omega), bl_drop, bl_drop, d2, d3, bl_data, bl_data]
  have v1 : valV (bl (be8 (M64 - ts) ++ be8 (M64 - seq))) true 8 = M64 - ts := hiV_be8 _ (by unfold M64; omega) _
  have v2 : valV (bl (be8 (M64 - seq))) true 8 = M64 - seq := by
    have := hiV_be8 (M64 - seq) (by unfold M64; omega) []
    rw [List.append_nil] at this
    exact this
  rw [v1, v2, show M64 - (M64 - ts) = ts by omega, show M64 - (M64 - seq) = seq by omega]
  exact endK_coord row col ts seq h

/-- what either answers: none, or a cell whose key it is -/
def Told (s : ByteArray) (x : Cel × Int) : Prop := x = (zeroC, 1) ∨ ∃ row col ts seq, ts ≤ M64 ∧ seq ≤ M64 ∧ x = (coordC row col ts seq, 0) ∧ keyB (coordC row col ts seq) = s
theorem endK_told (s row col : ByteArray) (a b : Nat) : Told s (endK s (coordC row col (M64 - a) (M64 - b))) := by
  unfold endK
  split
  · rename_i h
    exact Or.inr ⟨row, col, M64 - a, M64 - b, Nat.sub_le _ _, Nat.sub_le _ _, rfl, h⟩
  · exact Or.inl rfl
theorem fkP_told (s : ByteArray) : Told s (fkP s) := by
  unfold fkP fkP1 fkP2 fkP3
  split
  · split
    · split
      · exact endK_told _ _ _ _ _
      · exact Or.inl rfl
    · exact Or.inl rfl
  · exact Or.inl rfl
theorem fkR_told (s : ByteArray) : Told s (fkR s) := by
  unfold fkR fkR1 fkR2
  split
  · exact Or.inl rfl
  · split
    · exact Or.inl rfl
    · exact endK_told _ _ _ _ _
theorem fkP_empty : fkP ⟨#[]⟩ = (zeroC, 1) := by
  unfold fkP fkP1
  rw [if_neg (by decide)]
theorem fkR_empty : fkR ⟨#[]⟩ = (zeroC, 1) := by
  unfold fkR fkR1
  rw [if_pos (by decide)]

theorem fk_same (s : ByteArray) : fkP s = fkR s := by
  rcases fkP_told s with h1 | ⟨row, col, ts, seq, ht, hq, h1, hk⟩
  · rcases fkR_told s with h2 | ⟨row, col, ts, seq, ht, hq, h2, hk⟩
    · rw [h1, h2]
    · cases hm : mayB (coordC row col ts seq) with
      | false =>
        have : s = ⟨#[]⟩ := by rw [← hk]; unfold keyB; rw [hm]; rfl
        rw [this, fkP_empty, fkR_empty]
      | true =>
        have : s = bl (keyL (coordC row col ts seq)) := by rw [← hk]; unfold keyB; rw [hm]; rfl
        rw [this, fkP_key row col ts seq ht hq hm, fkR_key row col ts seq ht hq hm]
  · cases hm : mayB (coordC row col ts seq) with
    | false =>
      have : s = ⟨#[]⟩ := by rw [← hk]; unfold keyB; rw [hm]; rfl
      rw [this, fkP_empty, fkR_empty]
    | true =>
      have : s = bl (keyL (coordC row col ts seq)) := by rw [← hk]; unfold keyB; rw [hm]; rfl
      rw [this, fkP_key row col ts seq ht hq hm, fkR_key row col ts seq ht hq hm]
end Go.Proofs.YtepffknhkpppcaaDoor
