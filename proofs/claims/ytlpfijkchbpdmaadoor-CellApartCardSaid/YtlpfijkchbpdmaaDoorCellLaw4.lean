/-
  Unlike cells have unlike bytes, and unlike keys.
-/
import Derived.Test.YtlpfijkchbpdmaaDoorCellLaw3
import Derived.Test.YtlpfijkchbpdmaaDoorCellSame
namespace Go.Proofs.YtlpfijkchbpdmaaDoor
open Go.Lib

/-- the same cell? -/
def eqC (a b : Cel) : Bool := (a.row.toList == b.row.toList) && ((a.col.toList == b.col.toList) && (((a.ts : Int) == (b.ts : Int)) && (((a.seq : Int) == (b.seq : Int)) && ((a.del == b.del) && (a.val.toList == b.val.toList)))))
theorem toList_inj {a b : ByteArray} (h : a.toList = b.toList) : a = b := by
  rw [ByteArray.toList_eq, ByteArray.toList_eq] at h
  rw [← mk_data a, ← mk_data b, h]
theorem eqC_iff (a b : Cel) : eqC a b = true ↔ a = b := by
  unfold eqC
  constructor
  · intro h
    simp only [Bool.and_eq_true, beq_iff_eq] at h
    obtain ⟨h1, h2, h3, h4, h5, h6⟩ := h
    obtain ⟨r, c, t, s, d, v⟩ := a
    obtain ⟨r', c', t', s', d', v'⟩ := b
    simp only at h1 h2 h3 h4 h5 h6
    rw [toList_inj h1, toList_inj h2, toList_inj h6, h5, Int.ofNat_inj.1 h3, Int.ofNat_inj.1 h4]
  · intro h; subst h; simp
/-- the comparison of two cells, as the walk leaves it -/
theorem eqC_ifs (a b : Cel) (w : World) : (if a.row.toList = b.row.toList then
      if a.col.toList = b.col.toList then
        if (a.ts : Int) = (b.ts : Int) then
          if (a.seq : Int) = (b.seq : Int) then
            if a.del = b.del then
              if a.val.toList = b.val.toList then Result.ok (Next.value (Value.bool true)) w
              else Result.ok (Next.value (Value.bool false)) w
            else Result.ok (Next.value (Value.bool false)) w
          else Result.ok (Next.value (Value.bool false)) w
        else Result.ok (Next.value (Value.bool false)) w
      else Result.ok (Next.value (Value.bool false)) w
    else Result.ok (Next.value (Value.bool false)) w : Result Next) = Result.ok (Next.value (Value.bool (eqC a b))) w := by
  unfold eqC
  by_cases h1 : a.row.toList = b.row.toList
  · by_cases h2 : a.col.toList = b.col.toList
    · by_cases h3 : (a.ts : Int) = (b.ts : Int)
      · by_cases h4 : (a.seq : Int) = (b.seq : Int)
        · by_cases h5 : a.del = b.del
          · by_cases h6 : a.val.toList = b.val.toList
            · simp [h1, h2, h3, h4, h5, h6]
            · simp [h1, h2, h3, h4, h5, h6]
          · simp [h1, h2, h3, h4, h5]
        · rw [if_pos h1, if_pos h2, if_pos h3, if_neg h4, beq_eq_false_iff_ne.2 h4]; simp
      · rw [if_pos h1, if_pos h2, if_neg h3, beq_eq_false_iff_ne.2 h3]; simp
    · rw [if_pos h1, if_neg h2, beq_eq_false_iff_ne.2 h2]; simp
  · rw [if_neg h1, beq_eq_false_iff_ne.2 h1]; simp
theorem enc_inj {a b : Cel} (oa : CelOK a) (ob : CelOK b) (ha : mayB a = true) (hb : mayB b = true) (h : encL a = encL b) : a = b := by
  have h1 := dec_enc a oa ha []
  have h2 := dec_enc b ob hb []
  rw [h, h2] at h1
  exact (congrArg Prod.fst h1).symm
theorem enc_apart (a b : Cel) (oa : CelOK a) (ob : CelOK b) (ha : mayB a = true) (hb : mayB b = true) : ((bl (encL a)).toList == (bl (encL b)).toList) = eqC a b := by
  by_cases h : a = b
  · rw [(eqC_iff a b).2 h, h]; simp
  · have h2 : eqC a b = false := by
      cases e : eqC a b with
      | false => rfl
      | true => exact absurd ((eqC_iff a b).1 e) h
    rw [h2, beq_eq_false_iff_ne]
    intro e
    exact h (enc_inj oa ob ha hb (bl_inj (toList_inj e)))
theorem firstN_zero {l : List Int} (h : firstN l = 0) : ∀ x ∈ l, x = 0 := by
  induction l with
  | nil => simp
  | cons y r ih =>
    unfold firstN at h
    by_cases e : y = 0
    · rw [if_neg (by simp [e])] at h
      intro x hx
      rcases List.mem_cons.1 hx with hx | hx
      · rw [hx, e]
      · exact ih h x hx
    · rw [if_pos e] at h; exact absurd h e
theorem key_apart (a b : Cel) (oa : CelOK a) (ob : CelOK b) : ((bl (keyL a)).toList == (bl (keyL b)).toList) = (sameC a b && ((a.seq : Int) == (b.seq : Int))) := by
  have hk := key_order a b oa ob
  by_cases h : cmpC a b = 0
  · have hz := firstN_zero h
    have z1 := cb_eq (hz _ (by simp) : cmpS a.row b.row = 0)
    have z2 := cb_eq (hz (cmpS a.col b.col) (by simp))
    have z3 := cmpN_zero (hz (cmpN b.ts a.ts) (by simp))
    have z4 := cmpN_zero (hz (cmpN b.seq a.seq) (by simp))
    rw [h] at hk
    rw [cb_eq hk]
    unfold sameC
    simp only [ByteArray.toList_eq, z1, z2, z3, z4]
    simp
  · have h1 : ((bl (keyL a)).toList == (bl (keyL b)).toList) = false := by
      rw [beq_eq_false_iff_ne]
      intro e
      have := bl_inj (toList_inj e)
      rw [this, cb_refl] at hk
      exact h hk.symm
    rw [h1]
    symm
    cases e : (sameC a b && ((a.seq : Int) == (b.seq : Int))) with
    | false => rfl
    | true =>
      exfalso
      unfold sameC at e
      simp only [Bool.and_eq_true, beq_iff_eq] at e
      obtain ⟨⟨e1, e2, e3⟩, e4⟩ := e
      have e4 := Int.ofNat_inj.1 e4
      apply h
      unfold cmpC cmpS
      simp only [← ByteArray.toList_eq, e1, e2, e3, e4, cb_refl, cmpN_self]
      rfl
end Go.Proofs.YtlpfijkchbpdmaaDoor
