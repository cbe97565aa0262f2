/-
  Lines that say nothing (plain).
-/
import Derived.Test.YtfhjdfimkeogaaaDoorParPL
namespace Go.Proofs.YtfhjdfimkeogaaaDoor
open Go.RowKit Go.Lib

/-- lines told together, none of them wrong: the cells of all of them -/
structure NRel (s : ByteArray) (L : List ByteArray) (acc : List Cel) : Prop where
  text : s = joinB L
  no : ∀ t ∈ L, ∀ b ∈ t.data.toList, b ≠ 10
  run : ∀ (i : Nat) (a : List Cel) (r : List ByteArray), cellsGo i a (L ++ r) = cellsGo (i + L.length) (a ++ acc) r
  few : acc.length ≤ L.length
theorem NRel.nil : NRel ⟨#[]⟩ [] [] := ⟨rfl, by simp, fun i a r => by simp, Nat.le_refl _⟩
theorem joinB_one (L : List ByteArray) (t : ByteArray) : joinB (L ++ [t]) = joinB L ++ (t ++ ⟨#[10]⟩) := by
  rw [joinB_append]
  apply data_inj
  simp [joinB]
theorem NRel.note {s : ByteArray} {L : List ByteArray} {acc : List Cel} (h : NRel s L acc) (t : ByteArray) (hn : ∀ b ∈ t.data.toList, b ≠ 10) (hs : skipB t = true) : NRel (s ++ (t ++ ⟨#[10]⟩)) (L ++ [t]) acc := by
  refine ⟨by rw [joinB_one, ← h.text], ?_, fun i a r => ?_, ?_⟩
  · intro x hx
    rcases List.mem_append.1 hx with hx | hx
    · exact h.no x hx
    · rw [List.mem_singleton.1 hx]; exact hn
  · rw [List.append_assoc, h.run, List.cons_append, List.nil_append, skip_step hs, List.length_append]; rfl
  · rw [List.length_append]; exact Nat.le_trans h.few (Nat.le_add_right _ _)
theorem NRel.cell {s : ByteArray} {L : List ByteArray} {acc : List Cel} (h : NRel s L acc) (c : Cel) (hc : okP c = true) : NRel (s ++ (textOf c ++ ⟨#[10]⟩)) (L ++ [textOf c]) (acc ++ [c]) := by
  obtain ⟨h1, h2⟩ := okP_is hc
  refine ⟨by rw [joinB_one, ← h.text], ?_, fun i a r => ?_, ?_⟩
  · intro x hx
    rcases List.mem_append.1 hx with hx | hx
    · exact h.no x hx
    · rw [List.mem_singleton.1 hx]; exact line_no10 h1
  · rw [List.append_assoc, h.run, List.cons_append, List.nil_append, good_step h2 h1, List.length_append, List.append_assoc]; rfl
  · rw [List.length_append, List.length_append]; exact Nat.add_le_add_right h.few 1
theorem splitL_join3 : ∀ (l : List ByteArray) (r : List UInt8), (∀ t ∈ l, ∀ b ∈ t.data.toList, b ≠ 10) → splitL 10 ((joinB l).data.toList ++ r) = l.map (fun t => t.data.toList) ++ splitL 10 r
  | [], r, _ => rfl
  | t :: l, r, h => by
    unfold joinB
    rw [append_data, append_data, List.append_assoc, List.append_assoc]
    show splitL 10 (t.data.toList ++ 10 :: ((joinB l).data.toList ++ r)) = _
    rw [splitL_at 10 _ _ (h t (by simp)), splitL_join3 l r (fun x hx => h x (by simp [hx]))]
    rfl
def wrongB : ByteArray := ⟨#[119, 114, 111, 110, 103]⟩
theorem wrong_skip : skipB wrongB = false := by kernel_rfl
theorem wrong_line : lineP wrongB = none := by kernel_rfl
theorem NRel.good {s : ByteArray} {L : List ByteArray} {acc : List Cel} (h : NRel s L acc) (hs : s.size ≤ 4000) : cellsP s = (acc, 0, 0) := by
  have hp : pieces 10 s = L ++ [⟨#[]⟩] := by rw [h.text]; exact pieces_join2 L h.no
  unfold cellsP
  rw [if_neg (by omega), hp, h.run, skip_step (skip_zero rfl), List.nil_append]; rfl
theorem NRel.bad {s : ByteArray} {L : List ByteArray} {acc : List Cel} (h : NRel s L acc) (hs : s.size ≤ 3000) : cellsP (s ++ wrongB) = ([], L.length + 1, 70) := by
  have hp : pieces 10 (s ++ wrongB) = L ++ [wrongB] := by
    apply map_data_inj
    rw [pieces_L, append_data, h.text, splitL_join3 L _ h.no, List.map_append]; rfl
  have hz : wrongB.size = 5 := rfl
  unfold cellsP
  rw [if_neg (by rw [ByteArray.size_append]; omega), hp, h.run, bad_step wrong_skip wrong_line, Nat.zero_add]
theorem print_one (c : Cel) : (okP c = true ∧ printP [c] = (textOf c ++ ⟨#[10]⟩, 0)) ∨ (okP c = false ∧ printP [c] = (⟨#[]⟩, 1)) := by
  cases h : okP c
  · exact Or.inr ⟨rfl, print_stop h⟩
  · refine Or.inl ⟨rfl, ?_⟩
    show printGo _ [c] = _
    rw [print_step h]
    show (_, 0) = _
    congr 1
end Go.Proofs.YtfhjdfimkeogaaaDoor
