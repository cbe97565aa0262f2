/-
  The cells of an input are those of its lines, one by one.
-/
import Derived.Test.YtfhjdfimkeogaaaDoorParCells
namespace Go.Proofs.YtfhjdfimkeogaaaDoor
open Go.Lib

def linesGo (i : Nat) (acc : List Cel) (bad : Nat) : List ByteArray → List Cel × Nat
  | [] => (acc, bad)
  | t :: r => if skipB t = true then linesGo (i + 1) acc bad r else match lineP t with
    | none => linesGo (i + 1) acc (if bad = 0 then i + 1 else bad) r
    | some c => linesGo (i + 1) (acc ++ [c]) bad r
theorem lines_skip {i : Nat} {acc : List Cel} {bad : Nat} {t : ByteArray} {r : List ByteArray} (h : skipB t = true) : linesGo i acc bad (t :: r) = linesGo (i + 1) acc bad r := by
  conv => lhs; unfold linesGo
  rw [if_pos h]
theorem lines_bad {i : Nat} {acc : List Cel} {bad : Nat} {t : ByteArray} {r : List ByteArray} (h : skipB t = false) (hl : lineP t = none) : linesGo i acc bad (t :: r) = linesGo (i + 1) acc (if bad = 0 then i + 1 else bad) r := by
  conv => lhs; unfold linesGo
  rw [if_neg (by simp [h]), hl]
theorem lines_good {i : Nat} {acc : List Cel} {bad : Nat} {t : ByteArray} {r : List ByteArray} {c : Cel} (h : skipB t = false) (hl : lineP t = some c) : linesGo i acc bad (t :: r) = linesGo (i + 1) (acc ++ [c]) bad r := by
  conv => lhs; unfold linesGo
  rw [if_neg (by simp [h]), hl]
theorem lines_stay : ∀ (l : List ByteArray) (i : Nat) (acc : List Cel) (bad : Nat), bad ≠ 0 → (linesGo i acc bad l).2 = bad
  | [], _, _, _, _ => rfl
  | t :: r, i, acc, bad, h => by
    cases hs : skipB t
    · cases hl : lineP t with
      | none => rw [lines_bad hs hl, if_neg h]; exact lines_stay r _ _ _ h
      | some c => rw [lines_good hs hl]; exact lines_stay r _ _ _ h
    · rw [lines_skip hs]; exact lines_stay r _ _ _ h
/-- the whole input's cells, by its lines' -/
theorem lines_all (e : ByteArray) (he : e.size = 0) : ∀ (l : List ByteArray) (i : Nat) (acc : List Cel),
    cellsGo i acc (l ++ [e]) = if (linesGo i acc 0 l).2 = 0 then ((linesGo i acc 0 l).1, 0, 0) else ([], (linesGo i acc 0 l).2, 70)
  | [], i, acc => by
    rw [List.nil_append, skip_step (skip_zero he)]
    rfl
  | t :: r, i, acc => by
    rw [List.cons_append]
    cases hs : skipB t
    · cases hl : lineP t with
      | none =>
        rw [lines_bad hs hl, bad_step hs hl, if_pos rfl, lines_stay r _ _ _ (by omega), if_neg (by omega)]
      | some c => rw [lines_good hs hl, good_step hs hl]; exact lines_all e he r _ _
    · rw [lines_skip hs, skip_step hs]; exact lines_all e he r _ _

/-- lines told together -/
def joinB : List ByteArray → ByteArray
  | [] => ⟨#[]⟩
  | t :: r => t ++ ⟨#[10]⟩ ++ joinB r
def plainLine (t : ByteArray) : Prop := t.size ≤ 150 ∧ ∀ b ∈ t.data.toList, b ≠ 10
theorem splitL_join : ∀ (l : List ByteArray), (∀ t ∈ l, plainLine t) → splitL 10 (joinB l).data.toList = l.map (fun t => t.data.toList) ++ [[]]
  | [], _ => rfl
  | t :: r, h => by
    unfold joinB
    rw [append_data, append_data, List.append_assoc]
    show splitL 10 (t.data.toList ++ 10 :: (joinB r).data.toList) = _
    rw [splitL_at 10 _ _ (h t (by simp)).2, splitL_join r (fun x hx => h x (by simp [hx]))]
    rfl
theorem pieces_join (l : List ByteArray) (h : ∀ t ∈ l, plainLine t) : pieces 10 (joinB l) = l ++ [⟨#[]⟩] := by
  apply map_data_inj
  rw [pieces_L, splitL_join l h, List.map_append]
  rfl
theorem pieces_one (t : ByteArray) (h : plainLine t) : pieces 10 t = [t] := by
  apply map_data_inj
  rw [pieces_L, splitL_none 10 _ h.2]
  rfl
theorem joinB_size : ∀ (l : List ByteArray), (∀ t ∈ l, plainLine t) → (joinB l).size ≤ l.length * 151
  | [], _ => Nat.le_refl _
  | t :: r, h => by
    have h1 := joinB_size r (fun x hx => h x (by simp [hx]))
    have h2 := (h t (by simp)).1
    unfold joinB
    rw [ByteArray.size_append, ByteArray.size_append, List.length_cons]
    show t.size + 1 + _ ≤ _
    omega
theorem joinB_snoc : ∀ (l : List ByteArray) (t : ByteArray), joinB (l ++ [t]) = joinB l ++ t ++ ⟨#[10]⟩
  | [], t => by
    apply data_inj
    simp [joinB]
  | x :: l, t => by
    apply data_inj
    rw [List.cons_append]
    unfold joinB
    rw [joinB_snoc l t]
    simp [List.append_assoc]
/-- one line's cells -/
def oneP (t : ByteArray) : List Cel × Nat × Nat := if skipB t = true then ([], 0, 0) else match lineP t with
  | none => ([], 1, 70)
  | some c => ([c], 0, 0)
theorem oneP_er (t : ByteArray) : ((oneP t).2.2 = 0 ∨ (oneP t).2.2 = 70) ∧ (oneP t).1.length ≤ 1 := by
  unfold oneP
  split
  · exact ⟨Or.inl rfl, Nat.zero_le _⟩
  · split
    · exact ⟨Or.inr rfl, Nat.zero_le _⟩
    · exact ⟨Or.inl rfl, Nat.le_refl _⟩
theorem oneP_ok {t : ByteArray} (h : t.size ≤ 100000000) : ∀ c ∈ (oneP t).1, CelOK c := by
  unfold oneP
  split
  · simp
  · split
    · simp
    · rename_i c hc
      intro x hx
      obtain rfl : x = c := by simpa using hx
      exact lineP_ok h hc
theorem lines_step (i : Nat) (acc : List Cel) (bad : Nat) (t : ByteArray) (r : List ByteArray) :
    linesGo i acc bad (t :: r) = linesGo (i + 1) (acc ++ (oneP t).1) (if (oneP t).2.2 = 0 then bad else if bad = 0 then i + 1 else bad) r := by
  unfold oneP
  cases hs : skipB t
  · cases hl : lineP t with
    | none => rw [lines_bad hs hl]; simp
    | some c => rw [lines_good hs hl]; simp
  · rw [lines_skip hs]; simp
theorem cellsP_one (t : ByteArray) (h : plainLine t) : cellsP t = oneP t := by
  unfold cellsP
  rw [if_neg (by have := h.1; omega), pieces_one t h]
  unfold oneP
  cases hs : skipB t
  · rw [if_neg (by decide)]
    cases hl : lineP t with
    | none => rw [bad_step hs hl]
    | some c => rw [good_step hs hl]; rfl
  · rw [if_pos rfl, skip_step hs]; rfl
theorem cellsP_join (l : List ByteArray) (h : ∀ t ∈ l, plainLine t) (hn : l.length ≤ 20) :
    cellsP (joinB l) = if (linesGo 0 [] 0 l).2 = 0 then ((linesGo 0 [] 0 l).1, 0, 0) else ([], (linesGo 0 [] 0 l).2, 70) := by
  have := joinB_size l h
  unfold cellsP
  rw [if_neg (by omega), pieces_join l h]
  exact lines_all _ rfl l 0 []
end Go.Proofs.YtfhjdfimkeogaaaDoor
