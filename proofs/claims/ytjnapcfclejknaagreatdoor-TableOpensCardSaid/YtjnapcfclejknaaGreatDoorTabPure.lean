/-
  Files, pure: unlike cells have unlike files; a part of a file is none; the rows of a file, one by one.
-/
import Derived.Test.YtjnapcfclejknaaGreatDoorTabR
namespace Go.Proofs.YtjnapcfclejknaaGreatDoor
open Go.RowKit

/-! unlike -/
theorem file_apart {a b : List Cel} {x y : Nat} (ha : ∀ c ∈ a, CelOK c) (hb : ∀ c ∈ b, CelOK c) (ga : GoodT a) (gb : GoodT b) (hx : x < 18446744073709551616) (hy : y < 18446744073709551616) : fileB a x = fileB b y ↔ x = y ∧ a = b := by
  constructor
  · intro h
    have h1 := open_built ha ga hx
    have h2 := open_built hb gb hy
    rw [h, h2] at h1
    have h3 : openedP b y = openedP a x := Option.some.inj (Prod.mk.inj h1).1
    have h4 : b = a := congrArg FileP.l h3
    have h5 : y = x := congrArg (fun F => F.f.seq) h3
    exact ⟨h5.symm, h4.symm⟩
  · rintro ⟨rfl, rfl⟩; rfl

/-! what is opened was built -/
theorem opened_built {s : ByteArray} (h : (openP s).2 = 0) : ∃ l q, GoodT l ∧ q < 18446744073709551616 ∧ s = fileB l q := by
  unfold openP at h
  split at h
  · cases h
  · split at h
    · cases h
    · obtain ⟨t, ht⟩ : ∃ t, (getP (s.extract (s.size - 26) s.size)).1 = t := ⟨_, rfl⟩
      rw [ht] at h
      unfold openF at h
      split at h
      · cases h
      · split at h
        · cases h
        · split at h
          · rename_i hb
            have hg : GoodT _ := good_build (congrArg Prod.snd hb)
            have he := (build_good (footP t).seq hg).symm.trans hb
            exact ⟨_, _, hg, leN_lt _ 8, (congrArg Prod.fst he).symm⟩
          · cases h

def head3 (l : List Cel) : List UInt8 := blkL l (manyP l) ++ (recL (idxB l (manyP l)) ++ recL (bloomP (rowsP l)))
theorem fileL_head3 (l : List Cel) (seq : Nat) : fileL l seq = head3 l ++ recL (footOf l seq).text := by unfold fileL head3; simp only [List.append_assoc]
theorem head3_length (l : List Cel) : (head3 l).length = (blkL l (manyP l)).length + (6 + (idxB l (manyP l)).size) + (6 + (bloomP (rowsP l)).size) := by
  unfold head3
  simp only [List.length_append, recL_length]
  omega
theorem foot_lens {l : List Cel} {q : Nat} (h : GoodT l) (hq : q < 18446744073709551616) : footP (footOf l q).text = footOf l q := by
  have hl := h.len
  have hi := idx_small hl
  have hb := bloom_small hl
  have hbl := blk_len h
  have hfo := foot_of q hl
  exact foot_back (by rw [hfo]; show (blkL l (manyP l)).length < _; omega) (by rw [hfo]; show 6 + (idxB l (manyP l)).size < _; omega) (by rw [hfo]; show 6 + (bloomP (rowsP l)).size < _; omega) hq
/-- a file with more ahead of it is none -/
theorem file_more {l l' : List Cel} {q q' : Nat} {m : List UInt8} (g : GoodT l) (g' : GoodT l') (hq : q < 18446744073709551616) (hq' : q' < 18446744073709551616) (e : m ++ fileL l q = fileL l' q') : m = [] := by
  rw [fileL_head3, fileL_head3, ← List.append_assoc] at e
  have hf := foot_size (footOf l q)
  have hf' := foot_size (footOf l' q')
  obtain ⟨e1, e2⟩ := List.append_inj' e (by rw [recL_length, recL_length, hf, hf'])
  have k1 := get_rec (footOf l q).text [] (by omega)
  have k2 := get_rec (footOf l' q').text [] (by omega)
  rw [e2, k2] at k1
  have k3 : (footOf l' q').text = (footOf l q).text := congrArg Prod.fst k1
  have k4 : footOf l' q' = footOf l q := by rw [← foot_lens g hq, ← foot_lens g' hq', k3]
  rw [foot_of q g.len, foot_of q' g'.len] at k4
  have e3 := congrArg List.length e1
  rw [List.length_append, head3_length, head3_length] at e3
  have f1 := congrArg Foot.blocks k4
  have f2 := congrArg Foot.index k4
  have f3 := congrArg Foot.filter k4
  simp only at f1 f2 f3
  exact List.eq_nil_of_length_eq_zero (by omega)

/-! records, one behind the other, of which the first ones are others -/
theorem recs_front : ∀ (xs ys : List ByteArray) (z : List UInt8), (∀ x ∈ xs, x.size ≤ 65535) → (∀ y ∈ ys, y.size ≤ 65535) → xs.flatMap recL ++ z = ys.flatMap recL → ∃ ws, ys = xs ++ ws ∧ z = ws.flatMap recL
  | [], ys, z, _, _, e => ⟨ys, rfl, e⟩
  | x :: xs, [], z, _, _, e => by
    have := congrArg List.length e
    rw [List.flatMap_cons, List.length_append, List.length_append, recL_length, List.flatMap_nil, List.length_nil] at this
    omega
  | x :: xs, y :: ys, z, hx, hy, e => by
    rw [List.flatMap_cons, List.flatMap_cons, List.append_assoc] at e
    have k1 := get_rec x (xs.flatMap recL ++ z) (hx x (by simp))
    have k2 := get_rec y (ys.flatMap recL) (hy y (by simp))
    rw [e, k2] at k1
    obtain rfl : y = x := congrArg Prod.fst k1
    obtain ⟨ws, h1, h2⟩ := recs_front xs ys z (fun a h => hx a (by simp [h])) (fun a h => hy a (by simp [h])) (List.append_cancel_left e)
    exact ⟨ws, by rw [h1]; rfl, h2⟩
theorem body_six : ∀ (l : List Cel) (i : Nat) (last : List UInt8), 6 * l.length ≤ (bodyL i last l).length
  | [], _, _ => Nat.zero_le _
  | c :: r, i, last => by
    unfold bodyL
    have h1 := body_six r (i + 1) (keyL c)
    have h2 : 6 ≤ (entL (lastAt i last) c).length := by
      unfold entL
      simp only [List.length_append, List.length_cons, List.length_nil, two]
      omega
    rw [List.length_append, List.length_cons]
    omega
theorem idx_first (l : List Cel) : ∀ k, (idxB l k).data.toList.head? = some (byteN (manyP l) 0)
  | 0 => rfl
  | k + 1 => by
    show (idxB l k ++ leB (recK l k).size 4).data.toList.head? = _
    rw [ByteArray.data_append, Array.toList_append, List.head?_append, idx_first l k]
    rfl
theorem piece_first {l : List Cel} (h : errK l (manyP l) = 0) {k : Nat} (hk : k < manyP l) : (pieceB l k).data.toList.head? = some (UInt8.ofNat (pieceL l k).length) := by
  have h1 := build_ok (errK_all h k hk)
  unfold pieceB
  rw [h1.2.2.2]
  rfl
theorem piece_six {l : List Cel} (h : errK l (manyP l) = 0) {k : Nat} (hk : k < manyP l) : 1 + 6 * (pieceL l k).length ≤ (pieceB l k).size := by
  have h1 := build_ok (errK_all h k hk)
  have h2 := body_six (pieceL l k) 0 []
  unfold pieceB
  rw [h1.2.2.2, bl_size, List.length_cons]
  omega
def recsOf (l : List Cel) (q : Nat) : List ByteArray := pieces l ++ [idxB l (manyP l), bloomP (rowsP l), (footOf l q).text]
theorem fileL_recs {l : List Cel} (q : Nat) (g : GoodT l) : fileL l q = (recsOf l q).flatMap recL := by
  unfold fileL recsOf
  rw [blk_recs g.err, List.flatMap_append]
  simp only [List.flatMap_cons, List.flatMap_nil, List.append_nil]
theorem recsOf_small {l : List Cel} (q : Nat) (g : GoodT l) : ∀ x ∈ recsOf l q, x.size ≤ 65535 := by
  intro x hx
  have hi := idx_small g.len
  have hb := bloom_small g.len
  have hf := foot_size (footOf l q)
  rcases List.mem_append.1 hx with h | h
  · exact pieces_small g.err x h
  · simp only [List.mem_cons, List.not_mem_nil, or_false] at h
    rcases h with rfl | rfl | rfl <;> omega
theorem pieces_length (l : List Cel) : (pieces l).length = manyP l := by unfold pieces; rw [List.length_map, List.length_range]
/-- a file that lost its end is none -/
theorem file_short {l l' : List Cel} {q q' : Nat} {z : List UInt8} (g : GoodT l) (g' : GoodT l') (e : fileL l' q' ++ z = fileL l q) : z = [] := by
  rw [fileL_recs q g, fileL_recs q' g'] at e
  obtain ⟨ws, h1, h2⟩ := recs_front _ _ _ (recsOf_small q' g') (recsOf_small q g) e
  cases ws with
  | nil => exact h2
  | cons u us =>
    exfalso
    have hlen := congrArg List.length h1
    unfold recsOf at hlen h1
    simp only [List.length_append, List.length_cons, List.length_nil, pieces_length] at hlen
    have hlt : manyP l' < manyP l := by omega
    have hat := congrArg (fun x : List ByteArray => x[manyP l']?) h1
    rw [List.getElem?_append_left (by rw [pieces_length]; exact hlt), List.append_assoc, List.getElem?_append_right (by rw [pieces_length]; exact Nat.le_refl _), pieces_length, Nat.sub_self] at hat
    have hp : (pieces l)[manyP l']? = some (pieceB l (manyP l')) := by
      unfold pieces
      rw [List.getElem?_map, List.getElem?_range hlt]
      rfl
    rw [hp] at hat
    have hpe : pieceB l (manyP l') = idxB l' (manyP l') := Option.some.inj hat
    have a1 := piece_first g.err hlt
    have a2 := piece_six g.err hlt
    have a3 := idx_first l' (manyP l')
    have a4 := idxB_size l' (manyP l')
    rw [hpe] at a1 a2
    rw [a3] at a1
    have a5 := Option.some.inj a1
    have hpl := pieceL_len l (manyP l')
    have hm' : manyP l' ≤ 250 := by have := g'.len; unfold manyP; omega
    have hm0 : 8 * manyP l' < l.length := by unfold manyP at hlt ⊢; omega
    have hb0 : (byteN (manyP l') 0) = UInt8.ofNat (manyP l') := by unfold byteN; simp
    rw [hb0] at a5
    have a6 := congrArg UInt8.toNat a5
    rw [UInt8.toNat_ofNat', UInt8.toNat_ofNat'] at a6
    omega

/-! the rows, one by one -/
theorem cmp_anti {a b : ByteArray} (h1 : cmpS a b ≤ 0) (h2 : cmpS b a ≤ 0) : a = b := by
  unfold cmpS at h1 h2
  rw [cb_neg] at h2
  exact data_inj (cb_eq (by omega))
theorem rowL_not {l : List Cel} {r : ByteArray} (h : ∀ c ∈ l, c.row ≠ r) : rowL l r = [] := by
  unfold rowL
  rw [List.filter_eq_nil_iff]
  intro c hc e
  exact h c hc (of_decide_eq_true e)
theorem rowL_one (c : Cel) (r : ByteArray) : rowL [c] r = if c.row = r then [c] else [] := by
  unfold rowL
  by_cases h : c.row = r <;> simp [h]
theorem flat_same {rs : List ByteArray} {l : List Cel} {c : Cel} (h : ∀ r ∈ rs, r ≠ c.row) : rs.flatMap (rowL (l ++ [c])) = rs.flatMap (rowL l) := by
  induction rs with
  | nil => rfl
  | cons r rs ih =>
    rw [List.flatMap_cons, List.flatMap_cons, ih fun x hx => h x (by simp [hx]), rowL_append, rowL_one, if_neg (fun e => h r (by simp) e.symm), List.append_nil]
structure RowsI (l : List Cel) (m : Nat) : Prop where
  flat : (rowsUpTo l m).flatMap (rowL (l.take m)) = l.take m
  last : 0 < m → ∃ init, rowsUpTo l m = init ++ [rowAt l (m - 1)] ∧ ∀ r ∈ init, ∀ j, m - 1 ≤ j → j < l.length → r ≠ rowAt l j
theorem rows_flatI {l : List Cel} (h : risC l = true) : ∀ m, m ≤ l.length → RowsI l m
  | 0, _ => ⟨rfl, fun h => absurd h (Nat.lt_irrefl 0)⟩
  | m + 1, hm => by
    obtain ⟨h1, h2⟩ := rows_flatI h m (by omega)
    have ht : l.take (m + 1) = l.take m ++ [l[m]] := by rw [List.take_succ_eq_append_getElem hm]
    have hrow : l[m].row = rowAt l m := by
      unfold rowAt
      rw [List.getD_eq_getElem?_getD, List.getElem?_eq_getElem (by omega)]
      rfl
    cases hk : rowKeep l m
    · have h0 : m ≠ 0 ∧ rowAt l m = rowAt l (m - 1) := by
        unfold rowKeep at hk
        have := of_decide_eq_false hk
        simp only [not_or, Classical.not_not] at this
        exact this
      obtain ⟨init, hi, hd⟩ := h2 (by omega)
      have hr : rowsUpTo l (m + 1) = rowsUpTo l m := by rw [rowsUpTo_succ, hk, if_neg (by decide), List.append_nil]
      refine ⟨?_, fun _ => ⟨init, by rw [hr, hi, Nat.add_sub_cancel, h0.2], fun r hr' j hj hl => hd r hr' j (by omega) hl⟩⟩
      rw [hr, ht]
      conv => rhs; rw [← h1]
      rw [hi, List.flatMap_append, List.flatMap_append, flat_same (fun r hr' => by rw [hrow]; exact hd r hr' m (by omega) (by omega))]
      simp only [List.flatMap_cons, List.flatMap_nil, List.append_nil]
      rw [rowL_append, rowL_one, if_pos (by rw [hrow, h0.2]), List.append_assoc]
    · have hr : rowsUpTo l (m + 1) = rowsUpTo l m ++ [rowAt l m] := by rw [rowsUpTo_succ, hk, if_pos rfl]; rfl
      have hall : ∀ r ∈ rowsUpTo l m, ∀ j, m ≤ j → j < l.length → r ≠ rowAt l j := by
        intro r hr' j hj hl
        by_cases hm0 : m = 0
        · subst hm0; cases hr'
        obtain ⟨init, hi, hd⟩ := h2 (by omega)
        rw [hi] at hr'
        rcases List.mem_append.1 hr' with hr' | hr'
        · exact hd r hr' j (by omega) hl
        · have hr2 : r = rowAt l (m - 1) := by simpa using hr'
          subst hr2
          intro e
          have g1 := rows_rise h m (m - 1) (by omega) (by omega)
          have g2 := rows_rise h j m hj hl
          rw [← e] at g2
          have := cmp_anti g1 g2
          have hkk := of_decide_eq_true (show decide (m = 0 ∨ rowAt l m ≠ rowAt l (m - 1)) = true from hk)
          rcases hkk with h0 | h0
          · exact hm0 h0
          · exact h0 this.symm
      refine ⟨?_, fun _ => ⟨rowsUpTo l m, by rw [hr, Nat.add_sub_cancel], fun r hr' j hj hl => hall r hr' j (by omega) hl⟩⟩
      rw [hr, ht, List.flatMap_append, flat_same (fun r hr' => by rw [hrow]; exact hall r hr' m (Nat.le_refl _) (by omega)), h1]
      simp only [List.flatMap_cons, List.flatMap_nil, List.append_nil]
      rw [rowL_append, rowL_one, if_pos hrow]
      rw [rowL_not, List.nil_append]
      intro c hc e
      obtain ⟨i, hi, rfl⟩ := List.getElem_of_mem hc
      rw [List.length_take] at hi
      rw [List.getElem_take] at e
      have hci : l[i].row = rowAt l i := by
        unfold rowAt
        rw [List.getD_eq_getElem?_getD, List.getElem?_eq_getElem (by omega)]
        rfl
      rw [hci] at e
      exact hall _ (rows_has m (by omega) i (by omega)) m (Nat.le_refl _) (by omega) e
theorem rows_flat {l : List Cel} (h : risC l = true) : (rowsP l).flatMap (rowL l) = l := by
  have := (rows_flatI h l.length (Nat.le_refl _)).flat
  rw [List.take_length] at this
  exact this
/-- a row that is there is looked for -/
theorem near_some {l : List Cel} (h : risC l = true) {r : ByteArray} (hr : r ∈ rowsP l) : 0 < (nearI l (bloomP (rowsP l)) r).length := by
  obtain ⟨c, hc, hcr⟩ := rows_mem hr
  rcases Nat.eq_zero_or_pos (nearI l (bloomP (rowsP l)) r).length with h0 | h0
  · have h1 := row_file h r
    unfold nearL at h1
    rw [List.eq_nil_of_length_eq_zero h0] at h1
    have h2 : c ∈ rowL l r := List.mem_filter.2 ⟨hc, decide_eq_true hcr⟩
    rw [← h1] at h2
    cases h2
  · exact h0
end Go.Proofs.YtjnapcfclejknaaGreatDoor
