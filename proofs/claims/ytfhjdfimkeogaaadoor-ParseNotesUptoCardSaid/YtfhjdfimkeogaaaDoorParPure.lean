/-
  Lines of input: words, pieces between a byte.
-/
import Derived.Test.YtfhjdfimkeogaaaDoorCellPure
import Derived.Shelf.GgClosure.StringsIndexFunc
import Derived.Laws.RangeAny
import Derived.Lib.Split
namespace Go.Proofs.YtfhjdfimkeogaaaDoor
open Go.Lib

/-- a sign that no word has -/
def oddN (r : Nat) : Bool := decide (r ≤ 32 ∨ 126 < r)
def okB (b : UInt8) : Bool := !oddN b.toNat
def wordB (s : ByteArray) : Bool := decide (s.size ≠ 0) && s.data.toList.all okB

theorem get_data {s : ByteArray} {i : Nat} (h : i < s.size) : s.data.toList[i]? = some s[i] := Lib.data_getElem? s i h

theorem idx_none (s : ByteArray) : ∀ (f pos : Nat), s.size ≤ pos + f → (idxFuncFrom oddN true s f pos = -1 ↔ ∀ j (h : j < s.size), pos ≤ j → okB s[j] = true)
  | 0, pos, hf => by
    constructor
    · intro _ j h hj; omega
    · intro _; rfl
  | f + 1, pos, hf => by
    by_cases hp : pos < s.size
    · unfold idxFuncFrom
      rw [if_pos hp]
      by_cases hb : (s[pos]'hp).toNat < 128
      · rw [decode_ascii s pos hp hb]
        by_cases ho : oddN (s[pos]'hp).toNat = true
        · rw [if_pos ho]
          constructor
          · intro h; omega
          · intro h
            have := h pos hp (Nat.le_refl _)
            unfold okB at this
            rw [ho] at this
            cases this
        · rw [if_neg ho]
          have ih := idx_none s f (pos + 1) (by omega)
          rw [ih]
          constructor
          · intro h j hj hpj
            by_cases e : j = pos
            · subst e; unfold okB; simpa using ho
            · exact h j hj (by omega)
          · intro h j hj hpj
            exact h j hj (by omega)
      · have hh := decode_high s pos hp (by omega)
        have ho : oddN (Utf8.decode s pos).1 = true := by unfold oddN; exact decide_eq_true (by omega)
        rw [if_pos ho]
        constructor
        · intro h; omega
        · intro h
          have := h pos hp (Nat.le_refl _)
          have h2 : oddN (s[pos]'hp).toNat = true := by unfold oddN; exact decide_eq_true (by omega)
          unfold okB at this
          rw [h2] at this
          cases this
    · rw [idxFuncFrom_end _ _ _ _ _ hp]
      constructor
      · intro _ j h hj; omega
      · intro _; rfl

theorem word_idx (s : ByteArray) : decide (idxFunc oddN true s < 0) = s.data.toList.all okB := by
  have h := idx_none s s.size 0 (by omega)
  have hr := idxFuncFrom_range oddN true s s.size 0
  unfold idxFunc
  rw [Bool.eq_iff_iff, decide_eq_true_eq, List.all_eq_true]
  constructor
  · intro h0 b hb
    have h1 : idxFuncFrom oddN true s s.size 0 = -1 := by omega
    obtain ⟨j, hj, rfl⟩ := List.getElem_of_mem hb
    have hj2 : j < s.size := by rw [size_eq]; exact hj
    have := h.1 h1 j hj2 (Nat.zero_le _)
    have e := get_data hj2
    rw [List.getElem?_eq_getElem hj] at e
    rw [Option.some.inj e]
    exact this
  · intro ha
    have : idxFuncFrom oddN true s s.size 0 = -1 := h.2 (fun j hj _ => ha _ (List.mem_of_getElem? (get_data hj)))
    omega

/-- the pieces between a byte -/
def splitL (c : UInt8) : List UInt8 → List (List UInt8)
  | [] => [[]]
  | b :: l => if b = c then [] :: splitL c l else match splitL c l with
    | [] => [[b]]
    | h :: t => (b :: h) :: t
theorem splitL_cons (c : UInt8) (l : List UInt8) : ∃ h t, splitL c l = h :: t := by
  induction l with
  | nil => exact ⟨[], [], rfl⟩
  | cons b l ih =>
    obtain ⟨h, t, e⟩ := ih
    unfold splitL
    by_cases hb : b = c
    · rw [if_pos hb]; exact ⟨_, _, rfl⟩
    · rw [if_neg hb, e]; exact ⟨_, _, rfl⟩
/-- a piece without the byte ahead of one, or alone -/
theorem splitL_none (c : UInt8) (l : List UInt8) (h : ∀ b ∈ l, b ≠ c) : splitL c l = [l] := by
  induction l with
  | nil => rfl
  | cons b l ih =>
    unfold splitL
    rw [if_neg (h b (by simp)), ih (fun x hx => h x (by simp [hx]))]
theorem splitL_at (c : UInt8) (a l : List UInt8) (h : ∀ b ∈ a, b ≠ c) : splitL c (a ++ c :: l) = a :: splitL c l := by
  induction a with
  | nil => show splitL c (c :: l) = _; conv => lhs; unfold splitL
           rw [if_pos rfl]
  | cons b a ih =>
    show splitL c (b :: (a ++ c :: l)) = _
    conv => lhs; unfold splitL
    rw [if_neg (h b (by simp)), ih (fun x hx => h x (by simp [hx]))]

theorem index_one (c : UInt8) : ∀ l : List UInt8, (index l [c] = -1 ∧ (∀ b ∈ l, b ≠ c)) ∨ ∃ a r, l = a ++ c :: r ∧ index l [c] = (a.length : Nat) ∧ ∀ b ∈ a, b ≠ c
  | [] => Or.inl ⟨by simp [index], by simp⟩
  | b :: l => by
    by_cases h : b = c
    · subst h
      exact Or.inr ⟨[], l, rfl, by simp [index, List.isPrefixOf], by simp⟩
    · have hp : ([c] : List UInt8).isPrefixOf (b :: l) = false := by simp [List.isPrefixOf, Ne.symm h]
      have hix : index (b :: l) [c] = if index l [c] == -1 then -1 else index l [c] + 1 := by rw [index, hp]; simp
      rcases index_one c l with ⟨h1, h2⟩ | ⟨a, r, h1, h2, h3⟩
      · left
        refine ⟨by rw [hix, h1]; rfl, ?_⟩
        intro x hx
        rcases List.mem_cons.1 hx with hx | hx
        · rw [hx]; exact h
        · exact h2 x hx
      · right
        refine ⟨b :: a, r, by rw [h1]; rfl, ?_, ?_⟩
        · rw [hix, h2]
          have : (((a.length : Nat) : Int) == -1) = false := by rw [beq_eq_false_iff_ne]; omega
          rw [this]
          simp
        · intro x hx
          rcases List.mem_cons.1 hx with hx | hx
          · rw [hx]; exact h
          · exact h3 x hx
/-- Split's pieces are just these -/
theorem splitB_L (c : UInt8) : ∀ (k : Nat) (s : ByteArray), countB s ⟨#[c]⟩ = k → (splitB ⟨#[c]⟩ 0 k s).map (fun x => x.data.toList) = splitL c s.data.toList
  | 0, s, hk => by
    rcases index_one c s.data.toList with ⟨h1, h2⟩ | ⟨a, r, h1, h2, h3⟩
    · rw [splitL_none c _ h2]; rfl
    · have := count_hit (s := s.data.toList) (sub := [c]) (by simp) h2
      have hk' : count s.data.toList [c] = 0 := hk
      omega
  | k + 1, s, hk => by
    have hk' : count s.data.toList [c] = k + 1 := hk
    rcases index_one c s.data.toList with ⟨h1, h2⟩ | ⟨a, r, h1, h2, h3⟩
    · rw [count_miss h1] at hk'; omega
    · have hc := count_hit (s := s.data.toList) (sub := [c]) (by simp) h2
      have hib : indexB s ⟨#[c]⟩ = (a.length : Nat) := h2
      have hd : s.data.toList.drop (a.length + [c].length) = r := by
        rw [h1, List.drop_append, List.drop_eq_nil_of_le (by simp)]
        simp
      have hsz : (⟨#[c]⟩ : ByteArray).size = 1 := rfl
      rw [hd] at hc
      have he : (s.extract (a.length + 1) s.size).data.toList = r := by
        rw [extract_to_end]; exact hd
      have ih := splitB_L c k (s.extract (a.length + 1) s.size) (by show count _ _ = k; rw [he]; show count r [c] = k; omega)
      unfold splitB
      rw [hib, if_neg (by simp)]
      simp only [List.map_cons, Nat.add_zero, Int.toNat_natCast, hsz]
      rw [ih, he, h1, splitL_at c a r h3, extract_data, h1]
      simp

theorem splitB_len (c : UInt8) : ∀ (k : Nat) (s : ByteArray), countB s ⟨#[c]⟩ = k → (splitB ⟨#[c]⟩ 0 k s).length = k + 1
  | 0, s, hk => rfl
  | k + 1, s, hk => by
    have hk' : count s.data.toList [c] = k + 1 := hk
    rcases index_one c s.data.toList with ⟨h1, h2⟩ | ⟨a, r, h1, h2, h3⟩
    · rw [count_miss h1] at hk'; omega
    · have hc := count_hit (s := s.data.toList) (sub := [c]) (by simp) h2
      have hib : indexB s ⟨#[c]⟩ = (a.length : Nat) := h2
      have hsz : (⟨#[c]⟩ : ByteArray).size = 1 := rfl
      have hd : s.data.toList.drop (a.length + [c].length) = r := by
        rw [h1, List.drop_append, List.drop_eq_nil_of_le (by simp)]
        simp
      rw [hd] at hc
      have he : (s.extract (a.length + 1) s.size).data.toList = r := by
        rw [extract_to_end]; exact hd
      have ih := splitB_len c k (s.extract (a.length + 1) s.size) (by show count _ _ = k; rw [he]; show count r [c] = k; omega)
      rw [splitB_hit _ _ _ _ a.length hib, List.length_cons, hsz, ih]
theorem splitB_small (sep : ByteArray) : ∀ (k : Nat) (s : ByteArray), ∀ x ∈ splitB sep 0 k s, x.size ≤ s.size
  | 0, s => by intro x hx; rw [splitB_zero] at hx; simp at hx; rw [hx]; exact Nat.le_refl _
  | k + 1, s => by
    by_cases h : indexB s sep = -1
    · rw [splitB_miss _ _ _ _ h]; intro x hx; simp at hx; rw [hx]; exact Nat.le_refl _
    · unfold splitB
      rw [if_neg (by simpa using h)]
      intro x hx
      rcases List.mem_cons.1 hx with hx | hx
      · rw [hx, ByteArray.size_extract]; omega
      · have := splitB_small sep k _ x hx
        rw [ByteArray.size_extract] at this
        omega

/-- the pieces of a text at a byte -/
def pieces (c : UInt8) (s : ByteArray) : List ByteArray := splitB ⟨#[c]⟩ 0 (countB s ⟨#[c]⟩) s
theorem pieces_len (c : UInt8) (s : ByteArray) : (pieces c s).length = countB s ⟨#[c]⟩ + 1 := splitB_len c _ s rfl
theorem pieces_small {c : UInt8} {s : ByteArray} {x : ByteArray} (h : x ∈ pieces c s) : x.size ≤ s.size := splitB_small _ _ _ x h
theorem splitL_le (c : UInt8) (l : List UInt8) : (splitL c l).length ≤ l.length + 1 := by
  induction l with
  | nil => exact Nat.le_refl _
  | cons b l ih =>
    unfold splitL
    obtain ⟨h, t, e⟩ := splitL_cons c l
    rw [e] at ih ⊢
    split <;> simp at ih ⊢ <;> omega
theorem pieces_L (c : UInt8) (s : ByteArray) : (pieces c s).map (fun x => x.data.toList) = splitL c s.data.toList := splitB_L c _ s rfl
theorem pieces_le (c : UInt8) (s : ByteArray) : (pieces c s).length ≤ s.size + 1 := by
  have h := splitL_le c s.data.toList
  rw [← pieces_L, List.length_map, ← size_eq] at h
  exact h
theorem append_data (a b : ByteArray) : (a ++ b).data.toList = a.data.toList ++ b.data.toList := by simp
theorem data_inj {a b : ByteArray} (h : a.data.toList = b.data.toList) : a = b := by
  obtain ⟨⟨a⟩⟩ := a
  obtain ⟨⟨b⟩⟩ := b
  simpa using h
theorem map_data_inj : ∀ (l m : List ByteArray), l.map (fun t => t.data.toList) = m.map (fun t => t.data.toList) → l = m
  | [], [], _ => rfl
  | [], _ :: _, h => by cases h
  | _ :: _, [], h => by cases h
  | a :: l, b :: m, h => by
    simp only [List.map_cons, List.cons.injEq] at h
    rw [data_inj h.1, map_data_inj l m h.2]
end Go.Proofs.YtfhjdfimkeogaaaDoor
