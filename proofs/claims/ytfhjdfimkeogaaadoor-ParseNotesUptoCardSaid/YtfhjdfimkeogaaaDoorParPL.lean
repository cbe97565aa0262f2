/-
  What is printed is told (plain).
-/
import Derived.Test.YtfhjdfimkeogaaaDoorParPP
import Derived.Test.YtfhjdfimkeogaaaDoorParLinesPure
import Derived.Test.YtfhjdfimkeogaaaDoorParRefB
namespace Go.Proofs.YtfhjdfimkeogaaaDoor
open Go.RowKit Go.Lib

theorem splitL_mem (c : UInt8) : ∀ (l : List UInt8) (b : UInt8), b ∈ l → b = c ∨ ∃ p ∈ splitL c l, b ∈ p
  | [], b, h => by cases h
  | x :: l, b, h => by
    unfold splitL
    by_cases hx : x = c
    · rw [if_pos hx]
      rcases List.mem_cons.1 h with rfl | h
      · exact Or.inl hx
      · rcases splitL_mem c l b h with h | ⟨p, hp, hb⟩
        · exact Or.inl h
        · exact Or.inr ⟨p, List.mem_cons_of_mem _ hp, hb⟩
    · rw [if_neg hx]
      obtain ⟨h1, t1, e⟩ := splitL_cons c l
      rcases List.mem_cons.1 h with rfl | h
      · right; rw [e]; exact ⟨_, List.mem_cons_self .., List.mem_cons_self ..⟩
      · rcases splitL_mem c l b h with h | ⟨p, hp, hb⟩
        · exact Or.inl h
        · right
          rw [e] at hp ⊢
          rcases List.mem_cons.1 hp with rfl | hp
          · exact ⟨_, List.mem_cons_self .., List.mem_cons_of_mem _ hb⟩
          · exact ⟨p, List.mem_cons_of_mem _ hp, hb⟩
theorem word_no10 {s : ByteArray} (h : wordB s = true) : ∀ b ∈ s.data.toList, b ≠ 10 := by
  unfold wordB at h
  rw [Bool.and_eq_true] at h
  intro b hb e
  have := List.all_eq_true.1 h.2 b hb
  subst e
  exact absurd this (by decide)
theorem num_no10 {s : ByteArray} {u : Nat} (h : numB s = some u) : ∀ b ∈ s.data.toList, b ≠ 10 := by
  intro b hb e
  subst e
  unfold numB parseUintB at h
  by_cases h0 : s.data.toList = []
  · rw [h0] at hb; cases hb
  · rw [if_neg h0] at h
    split at h
    · rename_i v hv
      exact absurd hv (pu_bad _ _ _ ⟨_, hb, by decide⟩ v)
    · cases h
theorem gone_is {d : ByteArray} (h : goneB d = true) : d = ⟨#[45]⟩ := by
  have e : d.toList = [45] := by simpa [goneB] using h
  rw [ByteArray.toList_eq] at e
  exact data_inj e
theorem last_no10 {d : ByteArray} (h : (goneB d || valB d) = true) : ∀ b ∈ d.data.toList, b ≠ 10 := by
  rcases Bool.or_eq_true_iff.1 h with h | h
  · rw [gone_is h]; intro b hb; simp at hb; rw [hb]; decide
  · unfold valB at h
    simp only [Bool.and_eq_true] at h
    exact word_no10 h.2.1
theorem line_no10 {t : ByteArray} {c : Cel} (h : lineP t = some c) : ∀ b ∈ t.data.toList, b ≠ 10 := by
  intro b hb
  unfold lineP at h
  split at h
  · rename_i x y z d e
    unfold fourB at h
    split at h
    · rename_i hh
      obtain ⟨u, hu, _⟩ := Option.map_eq_some_iff.1 h
      have hL := pieces_L 32 t
      rw [e] at hL
      rcases splitL_mem 32 t.data.toList b hb with h1 | ⟨p, hp, hb2⟩
      · rw [h1]; decide
      · rw [← hL] at hp
        have w1 : wordB x = true := by have := hh.1; unfold nameB at this; rw [Bool.and_eq_true] at this; exact this.1
        have w2 : wordB y = true := by have := hh.2.1; unfold nameB at this; rw [Bool.and_eq_true] at this; exact this.1
        simp only [List.map_cons, List.map_nil, List.mem_cons, List.not_mem_nil, or_false] at hp
        rcases hp with rfl | rfl | rfl | rfl
        · exact word_no10 w1 b hb2
        · exact word_no10 w2 b hb2
        · exact num_no10 hu b hb2
        · exact last_no10 hh.2.2 b hb2
    · cases h
  · cases h
theorem line_row {t : ByteArray} {c : Cel} (h : lineP t = some c) : 0 < c.row.size := by
  unfold lineP at h
  split at h
  · unfold fourB at h
    split at h
    · rename_i hh
      obtain ⟨u, _, e⟩ := Option.map_eq_some_iff.1 h
      have h1 := hh.1
      unfold nameB wordB at h1
      simp only [Bool.and_eq_true, decide_eq_true_eq] at h1
      have h3 := h1.1.1
      have h2 := congrArg Cel.row e
      rw [← h2]
      exact Nat.pos_of_ne_zero h3
    · cases h
  · cases h
theorem okP_is {c : Cel} (h : okP c = true) : lineP (textOf c) = some c ∧ skipB (textOf c) = false := by
  unfold okP at h
  split at h
  · cases h
  · rename_i x hx
    rw [Bool.and_eq_true] at h
    obtain rfl := (eqC_iff _ _).1 h.1
    refine ⟨hx, ?_⟩
    have hr := line_row hx
    have h0 : (textOf x).data.toList.head? = x.row.data.toList.head? := by
      unfold textOf
      simp only [append_data]
      have : x.row.data.toList ≠ [] := fun e => by rw [size_eq, e] at hr; exact absurd hr (by decide)
      obtain ⟨y, r, e⟩ := List.exists_cons_of_ne_nil this
      rw [e]; rfl
    have h1 : ((textOf x).size == 0) = false := by
      rw [beq_eq_false_iff_ne]
      unfold textOf
      simp only [ByteArray.size_append]
      omega
    unfold skipB
    rw [h1, h0, Bool.false_or]
    simpa using h.2
theorem splitL_join2 : ∀ (l : List ByteArray), (∀ t ∈ l, ∀ b ∈ t.data.toList, b ≠ 10) → splitL 10 (joinB l).data.toList = l.map (fun t => t.data.toList) ++ [[]]
  | [], _ => rfl
  | t :: r, h => by
    unfold joinB
    rw [append_data, append_data, List.append_assoc]
    show splitL 10 (t.data.toList ++ 10 :: (joinB r).data.toList) = _
    rw [splitL_at 10 _ _ (h t (by simp)), splitL_join2 r (fun x hx => h x (by simp [hx]))]
    rfl
theorem pieces_join2 (l : List ByteArray) (h : ∀ t ∈ l, ∀ b ∈ t.data.toList, b ≠ 10) : pieces 10 (joinB l) = l ++ [⟨#[]⟩] := by
  apply map_data_inj
  rw [pieces_L, splitL_join2 l h, List.map_append]
  rfl
theorem joinB_append : ∀ (a b : List ByteArray), joinB (a ++ b) = joinB a ++ joinB b
  | [], b => by
    apply data_inj
    simp [joinB]
  | x :: a, b => by
    apply data_inj
    show (x ++ ⟨#[10]⟩ ++ joinB (a ++ b)).data.toList = (x ++ ⟨#[10]⟩ ++ joinB a ++ joinB b).data.toList
    rw [joinB_append a b]
    simp only [append_data, List.append_assoc]
/-- what Print comes to -/
theorem print_is : ∀ (l : List Cel) (acc : ByteArray), (printGo acc l = (acc ++ joinB (l.map textOf), 0) ∧ ∀ c ∈ l, okP c = true) ∨ printGo acc l = (⟨#[]⟩, 1)
  | [], acc => Or.inl ⟨by show (acc, 0) = (acc ++ joinB [], 0); congr 1; apply data_inj; simp [joinB], by simp⟩
  | c :: r, acc => by
    cases h : okP c
    · exact Or.inr (print_stop h)
    · rw [print_step h]
      rcases print_is r (acc ++ (textOf c ++ ⟨#[10]⟩)) with ⟨h1, h2⟩ | h1
      · refine Or.inl ⟨?_, ?_⟩
        · rw [h1, List.map_cons]
          congr 1
          apply data_inj
          conv => rhs; unfold joinB
          simp only [append_data, List.append_assoc]
        · intro x hx
          rcases List.mem_cons.1 hx with rfl | hx
          · exact h
          · exact h2 x hx
      · exact Or.inr h1
theorem cells_of_lines : ∀ (l : List Cel) (i : Nat) (acc : List Cel), (∀ c ∈ l, okP c = true) → cellsGo i acc (l.map textOf ++ [⟨#[]⟩]) = (acc ++ l, 0, 0)
  | [], i, acc, _ => by
    show cellsGo i acc [⟨#[]⟩] = _
    rw [skip_step (skip_zero rfl), List.append_nil]; rfl
  | c :: r, i, acc, h => by
    obtain ⟨h1, h2⟩ := okP_is (h c (by simp))
    rw [List.map_cons, List.cons_append, good_step h2 h1, cells_of_lines r _ _ (fun x hx => h x (by simp [hx]))]
    simp
theorem ok_no10 {l : List Cel} (h : ∀ c ∈ l, okP c = true) : ∀ t ∈ l.map textOf, ∀ b ∈ t.data.toList, b ≠ 10 := by
  intro t ht
  obtain ⟨c, hc, rfl⟩ := List.mem_map.1 ht
  exact line_no10 (okP_is (h c hc)).1
theorem printP_is (l : List Cel) : (printP l = (joinB (l.map textOf), 0) ∧ ∀ c ∈ l, okP c = true) ∨ printP l = (⟨#[]⟩, 1) := by
  have e : ∀ x : ByteArray, (⟨#[]⟩ : ByteArray) ++ x = x := fun x => by apply data_inj; simp
  have := print_is l ⟨#[]⟩
  rw [e] at this
  exact this
theorem cells_print {l : List Cel} (h : ∀ c ∈ l, okP c = true) (hs : (joinB (l.map textOf)).size ≤ 4000) : cellsP (joinB (l.map textOf)) = (l, 0, 0) := by
  unfold cellsP
  rw [if_neg (by omega), pieces_join2 _ (ok_no10 h), cells_of_lines l 0 [] h, List.nil_append]
theorem cells_wide {s : ByteArray} (hs : ¬ s.size ≤ 4000) : cellsP s = ([], 0, 71) := by
  unfold cellsP; rw [if_pos (by omega)]
theorem joinB_le : ∀ (l : List Cel) (M : Nat), (∀ c ∈ l, (textOf c).size ≤ M) → (joinB (l.map textOf)).size ≤ l.length * (M + 1)
  | [], _, _ => Nat.zero_le _
  | c :: r, M, h => by
    rw [List.map_cons]
    unfold joinB
    have h1 := joinB_le r M (fun x hx => h x (by simp [hx]))
    have h2 := h c (by simp)
    have e : (⟨#[10]⟩ : ByteArray).size = 1 := rfl
    rw [ByteArray.size_append, ByteArray.size_append, e, List.length_cons, Nat.succ_mul]
    omega
end Go.Proofs.YtfhjdfimkeogaaaDoor
