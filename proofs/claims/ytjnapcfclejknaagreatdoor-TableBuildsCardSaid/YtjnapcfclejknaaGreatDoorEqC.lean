/-
  The same cell?
-/
import Derived.Test.YtjnapcfclejknaaGreatDoorCels
namespace Go.Proofs.YtjnapcfclejknaaGreatDoor
open Go.Lib

/-- the same cell? -/
def eqC (a b : Cel) : Bool := (a.row.toList == b.row.toList) && ((a.col.toList == b.col.toList) && (((a.ts : Int) == (b.ts : Int)) && (((a.seq : Int) == (b.seq : Int)) && ((a.del == b.del) && (a.val.toList == b.val.toList)))))
theorem toList_inj {a b : ByteArray} (h : a.toList = b.toList) : a = b := by
  rw [ByteArray.toList_eq, ByteArray.toList_eq] at h
  obtain ⟨⟨a⟩⟩ := a
  obtain ⟨⟨b⟩⟩ := b
  simpa using h
theorem eqC_iff (a b : Cel) : eqC a b = true ↔ a = b := by
  unfold eqC
  constructor
  · intro h
    simp only [Bool.and_eq_true, beq_iff_eq] at h
    obtain ⟨h1, h2, h3, h4, h5, h6⟩ := h
    obtain ⟨r, c, t, s, d, v⟩ := a
    obtain ⟨r', c', t', s', d', v'⟩ := b
    simp only at h1 h2 h3 h4 h5 h6
    rw [toList_inj h1, toList_inj h2, toList_inj h6, h5, Int.ofNat_inj.1 h3, Int.ofNat_inj.1 h4]
  · intro h; subst h; simp
/-- the comparison of two cells, as the walk leaves it -/
theorem eqC_ifs (a b : Cel) (w : World) : (if a.row.toList = b.row.toList then
      if a.col.toList = b.col.toList then
        if (a.ts : Int) = (b.ts : Int) then
          if (a.seq : Int) = (b.seq : Int) then
            if a.del = b.del then
              if a.val.toList = b.val.toList then Result.ok (Next.value (Value.bool true)) w
              else Result.ok (Next.value (Value.bool false)) w
            else Result.ok (Next.value (Value.bool false)) w
          else Result.ok (Next.value (Value.bool false)) w
        else Result.ok (Next.value (Value.bool false)) w
      else Result.ok (Next.value (Value.bool false)) w
    else Result.ok (Next.value (Value.bool false)) w : Result Next) = Result.ok (Next.value (Value.bool (eqC a b))) w := by
  unfold eqC
  by_cases h1 : a.row.toList = b.row.toList
  · by_cases h2 : a.col.toList = b.col.toList
    · by_cases h3 : (a.ts : Int) = (b.ts : Int)
      · by_cases h4 : (a.seq : Int) = (b.seq : Int)
        · by_cases h5 : a.del = b.del
          · by_cases h6 : a.val.toList = b.val.toList
            · simp [h1, h2, h3, h4, h5, h6]
            · simp [h1, h2, h3, h4, h5, h6]
          · simp [h1, h2, h3, h4, h5]
        · rw [if_pos h1, if_pos h2, if_pos h3, if_neg h4, beq_eq_false_iff_ne.2 h4]; simp
      · rw [if_pos h1, if_pos h2, if_neg h3, beq_eq_false_iff_ne.2 h3]; simp
    · rw [if_pos h1, if_neg h2, beq_eq_false_iff_ne.2 h2]; simp
  · rw [if_neg h1, beq_eq_false_iff_ne.2 h1]; simp
/-- the first field in which two cells part -/
theorem cel_parts (a b : Cel) (h : eqC a b = false) :
    (a.row.toList == b.row.toList) = false ∨ (a.row = b.row ∧ ((a.col.toList == b.col.toList) = false ∨ (a.col = b.col ∧ ((a.ts == b.ts) = false ∨ (a.ts = b.ts ∧ ((a.seq == b.seq) = false ∨ (a.seq = b.seq ∧ ((a.del == b.del) = false ∨ (a.del = b.del ∧ (a.val.toList == b.val.toList) = false))))))))) := by
  by_cases h1 : a.row.toList = b.row.toList
  · refine Or.inr ⟨toList_inj h1, ?_⟩
    by_cases h2 : a.col.toList = b.col.toList
    · refine Or.inr ⟨toList_inj h2, ?_⟩
      by_cases h3 : a.ts = b.ts
      · refine Or.inr ⟨h3, ?_⟩
        by_cases h4 : a.seq = b.seq
        · refine Or.inr ⟨h4, ?_⟩
          by_cases h5 : a.del = b.del
          · refine Or.inr ⟨h5, ?_⟩
            rw [beq_eq_false_iff_ne]
            intro h6
            unfold eqC at h
            rw [h1, h2, h3, h4, h5, h6] at h
            simp at h
          · exact Or.inl (beq_eq_false_iff_ne.2 h5)
        · exact Or.inl (beq_eq_false_iff_ne.2 h4)
      · exact Or.inl (beq_eq_false_iff_ne.2 h3)
    · exact Or.inl (beq_eq_false_iff_ne.2 h2)
  · exact Or.inl (beq_eq_false_iff_ne.2 h1)
end Go.Proofs.YtjnapcfclejknaaGreatDoor
