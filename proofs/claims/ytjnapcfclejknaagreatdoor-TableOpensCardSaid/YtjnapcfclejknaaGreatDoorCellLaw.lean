/-
  The bytes of cells' keys: plain laws.
-/
import Derived.Test.YtjnapcfclejknaaGreatDoorCellPure
import Derived.Lib.ReplaceLaws
namespace Go.Proofs.YtjnapcfclejknaaGreatDoor
open Go.Lib

/-! ### ReplaceAll, step by step -/
theorem repl_all (s old new : List UInt8) (h : old ≠ new) : replaceAll s old new = replaceK old new (count s old) s := by
  unfold replaceAll replace replaceNum
  rw [if_neg (by simpa using h), if_pos (Or.inl (by decide))]
theorem repl_nil (old new : List UInt8) (hne : old ≠ []) (h : old ≠ new) : replaceAll [] old new = [] := by
  rw [repl_all _ _ _ h]
  have : index [] old = -1 := by
    unfold index
    cases old with
    | nil => exact absurd rfl hne
    | cons a l => rfl
  rw [count_miss this]
  rfl
theorem repl_hit (s old new : List UInt8) (hne : old ≠ []) (h : old ≠ new) (hp : index s old = ((0 : Nat) : Int)) : replaceAll s old new = new ++ replaceAll (s.drop old.length) old new := by
  rw [repl_all _ _ _ h, repl_all _ _ _ h, count_hit hne hp, Nat.add_comm 1, replaceK_hit _ _ _ _ 0 hp]
  simp
theorem repl_skip (b : UInt8) (l old new : List UInt8) (hne : old ≠ []) (h : old ≠ new) (hp : old.isPrefixOf (b :: l) = false) : replaceAll (b :: l) old new = b :: replaceAll l old new := by
  have hix : index (b :: l) old = if index l old == -1 then -1 else index l old + 1 := by
    conv => lhs; unfold index
    rw [hp]; simp
  rw [repl_all _ _ _ h, repl_all _ _ _ h]
  have hge := index_ge l old
  by_cases hm : index l old = -1
  · rw [hm] at hix
    rw [count_miss hm, count_miss (by rw [hix]; rfl)]
    rfl
  · obtain ⟨i, hi⟩ : ∃ i : Nat, index l old = i := ⟨(index l old).toNat, by omega⟩
    have hix2 : index (b :: l) old = ((i + 1 : Nat) : Int) := by
      rw [hix, hi, if_neg (by simp)]; omega
    have e : (b :: l).drop (i + 1 + old.length) = l.drop (i + old.length) := by
      rw [show i + 1 + old.length = (i + old.length) + 1 by omega]; rfl
    rw [count_hit hne hix2, count_hit hne hi, e, Nat.add_comm 1, replaceK_hit _ _ _ _ _ hix2, replaceK_hit _ _ _ _ _ hi, e]
    rfl
theorem index_pre {s sub : List UInt8} (h : sub.isPrefixOf s = true) : index s sub = ((0 : Nat) : Int) := by
  cases s with
  | nil =>
    cases sub with
    | nil => rfl
    | cons a l => cases h
  | cons b l => unfold index; rw [if_pos h]; rfl

/-- a name's bytes in a key -/
def esc : List UInt8 → List UInt8
  | [] => []
  | b :: l => if b = 0 then 0 :: 255 :: esc l else b :: esc l
theorem esc_zero (l : List UInt8) : esc (0 :: l) = 0 :: 255 :: esc l := rfl
theorem esc_one {b : UInt8} (h : b ≠ 0) (l : List UInt8) : esc (b :: l) = b :: esc l := if_neg h
theorem esc_length (l : List UInt8) : (esc l).length ≤ 2 * l.length := by
  induction l with
  | nil => exact Nat.le_refl _
  | cons b l ih =>
    by_cases h : b = 0
    · subst h; rw [esc_zero]; simp only [List.length_cons]; omega
    · rw [esc_one h]; simp only [List.length_cons]; omega

theorem repl_esc (l : List UInt8) : replaceAll l [0] [0, 255] = esc l := by
  induction l with
  | nil => exact repl_nil _ _ (by simp) (by simp)
  | cons b l ih =>
    by_cases h : b = 0
    · subst h
      rw [repl_hit _ _ _ (by simp) (by simp) (index_pre (by simp [List.isPrefixOf])), esc_zero]
      simp [ih]
    · rw [repl_skip _ _ _ _ (by simp) (by simp) (by simpa [List.isPrefixOf] using Ne.symm h), esc_one h, ih]

theorem repl_unesc (l : List UInt8) : replaceAll (esc l) [0, 255] [0] = l := by
  induction l with
  | nil => exact repl_nil _ _ (by simp) (by simp)
  | cons b l ih =>
    by_cases h : b = 0
    · subst h
      rw [esc_zero, repl_hit _ _ _ (by simp) (by simp) (index_pre (by simp [List.isPrefixOf]))]
      simp [ih]
    · rw [esc_one h, repl_skip _ _ _ _ (by simp) (by simp) (by simp [List.isPrefixOf, Ne.symm h]), ih]

theorem replK_length (old new : List UInt8) (hn : new.length ≤ old.length) : ∀ k s, (replaceK old new k s).length ≤ s.length
  | 0, _ => Nat.le_refl _
  | k + 1, s => by
    unfold replaceK
    split
    · exact Nat.le_refl _
    · rename_i h
      have h1 : index s old ≠ -1 := by simpa using h
      have hge := index_ge s old
      have hr := index_room s old (by omega)
      have ih := replK_length old new hn k (s.drop ((index s old).toNat + old.length))
      simp only [List.length_append, List.length_take, List.length_drop] at ih ⊢
      omega
/-- nothing grows where what is put in is no longer -/
theorem repl_length (s old new : List UInt8) (hn : new.length ≤ old.length) : (replaceAll s old new).length ≤ s.length := by
  unfold replaceAll replace
  split
  · exact Nat.le_refl _
  · exact replK_length _ _ hn _ _

theorem index_esc (r X : List UInt8) : index (esc r ++ 0 :: 1 :: X) [0, 1] = (esc r).length := by
  have step : ∀ (b : UInt8) (l : List UInt8) (n : Nat), ([0, 1] : List UInt8).isPrefixOf (b :: l) = false → index l [0, 1] = n → index (b :: l) [0, 1] = (n + 1 : Nat) := by
    intro b l n hp h
    unfold index
    rw [hp, h]
    have : ¬ ((n : Int) == -1) = true := by simp
    simp [this]
  induction r with
  | nil => exact index_pre (by simp [esc, List.isPrefixOf])
  | cons b l ih =>
    by_cases h : b = 0
    · subst h
      rw [esc_zero]
      exact step _ _ _ (by simp [List.isPrefixOf]) (step _ _ _ (by simp [List.isPrefixOf]) ih)
    · rw [esc_one h]
      exact step _ _ _ (by simp [List.isPrefixOf, Ne.symm h]) ih
theorem cut_esc (r X : List UInt8) : cut (esc r ++ 0 :: 1 :: X) [0, 1] = (esc r, X, true) := by
  have h := index_esc r X
  unfold cut
  rw [h, if_pos (by omega)]
  simp only [Int.toNat_natCast]
  rw [List.take_left, List.drop_append]
  simp

/-! ### the order of bytes -/
theorem cb_refl (l : List UInt8) : compareBytes l l = 0 := by
  induction l with
  | nil => rfl
  | cons b l ih => unfold compareBytes; rw [if_neg (UInt8.lt_irrefl _), if_neg (UInt8.lt_irrefl _), ih]
theorem cb_eq {a b : List UInt8} (h : compareBytes a b = 0) : a = b := by
  induction a generalizing b with
  | nil => cases b with
    | nil => rfl
    | cons y b => simp [compareBytes] at h
  | cons x a ih => cases b with
    | nil => simp [compareBytes] at h
    | cons y b =>
      unfold compareBytes at h
      by_cases h1 : x < y
      · rw [if_pos h1] at h; simp at h
      · by_cases h2 : y < x
        · rw [if_neg h1, if_pos h2] at h; simp at h
        · rw [if_neg h1, if_neg h2] at h
          have : x = y := UInt8.le_antisymm (UInt8.not_lt.1 h2) (UInt8.not_lt.1 h1)
          rw [this, ih h]
theorem cb_neg (a b : List UInt8) : compareBytes b a = - compareBytes a b := by
  induction a generalizing b with
  | nil => cases b <;> simp [compareBytes]
  | cons x a ih => cases b with
    | nil => simp [compareBytes]
    | cons y b =>
      unfold compareBytes
      by_cases h1 : x < y
      · rw [if_pos h1, if_neg (UInt8.lt_asymm h1), if_pos h1]; rfl
      · by_cases h2 : y < x
        · rw [if_pos h2, if_neg h1, if_pos h2]
        · rw [if_neg h1, if_neg h2, if_neg h2, if_neg h1]; exact ih b
theorem cb_range (a b : List UInt8) : compareBytes a b = -1 ∨ compareBytes a b = 0 ∨ compareBytes a b = 1 := by
  induction a generalizing b with
  | nil => cases b <;> simp [compareBytes]
  | cons x a ih => cases b with
    | nil => simp [compareBytes]
    | cons y b =>
      unfold compareBytes
      by_cases h1 : x < y
      · rw [if_pos h1]; simp
      · by_cases h2 : y < x
        · rw [if_neg h1, if_pos h2]; simp
        · rw [if_neg h1, if_neg h2]; exact ih b
theorem cb_cons_same (x : UInt8) (a b : List UInt8) : compareBytes (x :: a) (x :: b) = compareBytes a b := by
  conv => lhs; unfold compareBytes
  rw [if_neg (UInt8.lt_irrefl _), if_neg (UInt8.lt_irrefl _)]
theorem cb_cons_lt {x y : UInt8} (h : x < y) (a b : List UInt8) : compareBytes (x :: a) (y :: b) = -1 := by
  unfold compareBytes; rw [if_pos h]
theorem cb_cons_gt {x y : UInt8} (h : y < x) (a b : List UInt8) : compareBytes (x :: a) (y :: b) = 1 := by
  unfold compareBytes; rw [if_neg (UInt8.lt_asymm h), if_pos h]
theorem cb_trans {a b c : List UInt8} (h1 : compareBytes a b ≤ 0) (h2 : compareBytes b c ≤ 0) : compareBytes a c ≤ 0 := by
  induction a generalizing b c with
  | nil => cases c <;> simp [compareBytes]
  | cons x a ih =>
    cases b with
    | nil => simp [compareBytes] at h1
    | cons y b =>
      cases c with
      | nil => simp [compareBytes] at h2
      | cons z c =>
        rcases Nat.lt_trichotomy x.toNat y.toNat with h | h | h
        · have hxy : x < y := UInt8.lt_iff_toNat_lt.2 h
          rcases Nat.lt_trichotomy y.toNat z.toNat with k | k | k
          · rw [cb_cons_lt (UInt8.lt_iff_toNat_lt.2 (by omega))]; decide
          · rw [cb_cons_lt (UInt8.lt_iff_toNat_lt.2 (by omega))]; decide
          · rw [cb_cons_gt (UInt8.lt_iff_toNat_lt.2 k)] at h2; exact absurd h2 (by decide)
        · obtain rfl : x = y := UInt8.toNat_inj.1 h
          rw [cb_cons_same] at h1
          rcases Nat.lt_trichotomy x.toNat z.toNat with k | k | k
          · rw [cb_cons_lt (UInt8.lt_iff_toNat_lt.2 k)]; decide
          · obtain rfl : x = z := UInt8.toNat_inj.1 k
            rw [cb_cons_same] at h2 ⊢
            exact ih h1 h2
          · rw [cb_cons_gt (UInt8.lt_iff_toNat_lt.2 k)] at h2; exact absurd h2 (by decide)
        · rw [cb_cons_gt (UInt8.lt_iff_toNat_lt.2 h)] at h1; exact absurd h1 (by decide)

theorem u8_pos {b : UInt8} (h : b ≠ 0) : (0 : UInt8) < b := by
  rw [UInt8.lt_iff_toNat_lt]
  have : b.toNat ≠ 0 := fun e => h (UInt8.toNat_inj.1 e)
  show 0 < b.toNat
  omega

/-- names stand in keys as they stand by themselves -/
theorem cb_esc (a b X Y : List UInt8) : compareBytes (esc a ++ 0 :: 1 :: X) (esc b ++ 0 :: 1 :: Y) = if a = b then compareBytes X Y else compareBytes a b := by
  induction a generalizing b with
  | nil =>
    cases b with
    | nil => rw [if_pos rfl]; show compareBytes (0 :: 1 :: X) (0 :: 1 :: Y) = _; rw [cb_cons_same, cb_cons_same]
    | cons y b =>
      rw [if_neg (by simp)]
      by_cases h : y = 0
      · subst h; rw [esc_zero]
        show compareBytes (0 :: 1 :: X) (0 :: 255 :: _) = _
        rw [cb_cons_same, cb_cons_lt (by decide)]; rfl
      · rw [esc_one h]
        show compareBytes (0 :: 1 :: X) (y :: _) = _
        rw [cb_cons_lt (u8_pos h)]; rfl
  | cons x a ih =>
    cases b with
    | nil =>
      rw [if_neg (by simp)]
      by_cases h : x = 0
      · subst h; rw [esc_zero]
        show compareBytes (0 :: 255 :: _) (0 :: 1 :: Y) = _
        rw [cb_cons_same, cb_cons_gt (by decide)]; rfl
      · rw [esc_one h]
        show compareBytes (x :: _) (0 :: 1 :: Y) = _
        rw [cb_cons_gt (u8_pos h)]; rfl
    | cons y b =>
      by_cases hx : x = 0
      · subst hx
        rw [esc_zero]
        by_cases hy : y = 0
        · subst hy
          rw [esc_zero]
          show compareBytes (0 :: 255 :: (esc a ++ _)) (0 :: 255 :: (esc b ++ _)) = _
          rw [cb_cons_same, cb_cons_same, ih, cb_cons_same]
          by_cases e : a = b
          · rw [if_pos e, if_pos (by rw [e])]
          · rw [if_neg e, if_neg (by simpa using e)]
        · rw [esc_one hy, if_neg (by simp [Ne.symm hy])]
          show compareBytes (0 :: _) (y :: _) = _
          rw [cb_cons_lt (u8_pos hy), cb_cons_lt (u8_pos hy)]
      · rw [esc_one hx]
        by_cases hy : y = 0
        · subst hy
          rw [esc_zero, if_neg (by simp [hx])]
          show compareBytes (x :: _) (0 :: _) = _
          rw [cb_cons_gt (u8_pos hx), cb_cons_gt (u8_pos hx)]
        · rw [esc_one hy]
          show compareBytes (x :: (esc a ++ _)) (y :: (esc b ++ _)) = _
          by_cases e : x = y
          · subst e
            rw [cb_cons_same, cb_cons_same, ih]
            by_cases e2 : a = b
            · rw [if_pos e2, if_pos (by rw [e2])]
            · rw [if_neg e2, if_neg (by simpa using e2)]
          · rw [if_neg (by simp [e])]
            rcases Nat.lt_trichotomy x.toNat y.toNat with k | k | k
            · rw [cb_cons_lt (UInt8.lt_iff_toNat_lt.2 k), cb_cons_lt (UInt8.lt_iff_toNat_lt.2 k)]
            · exact absurd (UInt8.toNat_inj.1 k) e
            · rw [cb_cons_gt (UInt8.lt_iff_toNat_lt.2 k), cb_cons_gt (UInt8.lt_iff_toNat_lt.2 k)]
end Go.Proofs.YtjnapcfclejknaaGreatDoor
