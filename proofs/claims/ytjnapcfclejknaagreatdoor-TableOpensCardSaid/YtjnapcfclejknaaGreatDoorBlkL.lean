/-
  Seek: the program's, and the reference's. bounded, shown of layer 4's laws.
-/
import Derived.Test.YtjnapcfclejknaaGreatDoorBlkG
import Derived.Test.YtjnapcfclejknaaGreatDoorSame
import Derived.Test.YtjnapcfclejknaaGreatDoorCellFrame
namespace Go.Proofs.YtjnapcfclejknaaGreatDoor
section
open Go.RowKit Go.Lib

theorem cb_lt_trans {a b c : List UInt8} (h1 : compareBytes a b = -1) (h2 : compareBytes b c = -1) : compareBytes a c = -1 := by
  have h3 := cb_trans (a := a) (b := b) (c := c) (by omega) (by omega)
  rcases cb_range a c with h | h | h
  · exact h
  · have := cb_eq h
    subst this
    have := cb_neg a b
    omega
  · omega
theorem sorted_at {l : List Cel} (hok : ∀ c ∈ l, CelOK c) (hr : risC l = true) : ∀ j (hj : j < l.length) i (hi : i < j), compareBytes (keyL (l[i]'(Nat.lt_trans hi hj))) (keyL l[j]) = -1
  | 0, _, i, hi => absurd hi (Nat.not_lt_zero _)
  | j + 1, hj, i, hi => by
    have hb : badAt l (j + 1) = false := by
      unfold risC at hr
      have : (List.range l.length).any (badAt l) = false := by simpa using hr
      have h2 := List.any_eq_false.1 this (j + 1) (List.mem_range.2 hj)
      simpa using h2
    rw [badAt_at hj rfl _ _ rfl rfl] at hb
    have hs : compareBytes (keyL (l[j]'(by omega))) (keyL l[j + 1]) = -1 := by
      have h1 := key_order (l[j]'(by omega)) l[j + 1] (hok _ (List.getElem_mem _)) (hok _ (List.getElem_mem _))
      have h2 : ¬ 0 ≤ cmpC (l[j]'(by omega)) l[j + 1] := by simpa using hb
      rcases cb_range (keyL (l[j]'(by omega))) (keyL l[j + 1]) with h | h | h
      · exact h
      · omega
      · omega
    by_cases e : i = j
    · subst e; exact hs
    · exact cb_lt_trans (sorted_at hok hr j (by omega) i (by omega)) hs
def lessK (l : List Cel) (key : ByteArray) (i : Nat) : Bool := match l[i]? with
  | some c => Op.bytesLess (keyB c).toList key.toList
  | none => false

def countK (l : List Cel) (key : ByteArray) : Nat := (l.filter (fun c => Op.bytesLess (keyB c).toList key.toList)).length
theorem less_at {l : List Cel} {key : ByteArray} {i : Nat} (hi : i < l.length) (hm : mayB l[i] = true) : lessK l key i = decide (compareBytes (keyL l[i]) key.toList = -1) := by
  unfold lessK
  rw [List.getElem?_eq_getElem hi]
  simp only
  unfold keyB
  rw [if_pos hm, ByteArray.toList_eq, less_cb]
theorem count_is {l : List Cel} {key : ByteArray} {h : Nat} (hok : ∀ c ∈ l, CelOK c) (hm : l.all mayB = true) (hr : risC l = true) (h1 : h ≤ l.length) (h2 : h < l.length → (!lessK l key h) = true) (h3 : 0 < h → (!lessK l key (h - 1)) = false) : h = countK l key := by
  have may : ∀ i (hi : i < l.length), mayB l[i] = true := fun i hi => List.all_eq_true.1 hm _ (List.getElem_mem hi)
  have mono : ∀ j (hj : j < l.length) i (hi : i < j), lessK l key j = true → lessK l key i = true := fun j hj i hi e => by
    rw [less_at hj (may j hj)] at e
    rw [less_at (Nat.lt_trans hi hj) (may i (Nat.lt_trans hi hj))]
    exact decide_eq_true (cb_lt_trans (sorted_at hok hr j hj i hi) (of_decide_eq_true e))
  have lo : ∀ i, i < h → lessK l key i = true := fun i hi => by
    have e : lessK l key (h - 1) = true := by simpa using h3 (by omega)
    by_cases e2 : i = h - 1
    · rw [e2]; exact e
    · exact mono (h - 1) (by omega) i (by omega) e
  have hi : ∀ i, h ≤ i → i < l.length → lessK l key i = false := fun i h4 h5 => by
    have e : lessK l key h = false := by simpa using h2 (by omega)
    by_cases e2 : i = h
    · rw [e2]; exact e
    · cases hl : lessK l key i
      · rfl
      · rw [mono i h5 h (by omega) hl] at e; cases e
  have at_ : ∀ i (hi : i < l.length), lessK l key i = Op.bytesLess (keyB l[i]).toList key.toList := fun i hi => by unfold lessK; rw [List.getElem?_eq_getElem hi]
  unfold countK
  conv => rhs; rw [← List.take_append_drop h l]
  rw [List.filter_append, List.length_append]
  have e1 : (l.take h).filter (fun c => Op.bytesLess (keyB c).toList key.toList) = l.take h := List.filter_eq_self.2 fun c hc => by
    obtain ⟨i, hi2, rfl⟩ := List.getElem_of_mem hc
    rw [List.length_take] at hi2
    rw [List.getElem_take, ← at_ i (by omega)]
    exact lo i (by omega)
  have e2 : (l.drop h).filter (fun c => Op.bytesLess (keyB c).toList key.toList) = [] := List.filter_eq_nil_iff.2 fun c hc => by
    obtain ⟨i, hi2, rfl⟩ := List.getElem_of_mem hc
    rw [List.length_drop] at hi2
    rw [List.getElem_drop, ← at_ (h + i) (by omega), hi (h + i) (by omega) (by omega)]
    decide
  rw [e1, e2, List.length_take]
  simp only [List.length_nil]
  omega
def seekN (s key : ByteArray) : Nat := match parseP s with
  | some l => countK l key
  | none => 0

end

section
open Go.RowKit Go.Lib

theorem body_len : ∀ (l : List Cel) (i : Nat) (last : List UInt8), l.all mayB = true → (bodyL i last l).length ≤ 286 * l.length
  | [], _, _, _ => Nat.le_refl _
  | c :: r, i, last, h => by
    rw [List.all_cons, Bool.and_eq_true] at h
    unfold bodyL
    have h1 := body_len r (i + 1) (keyL c) h.2
    have h2 := key_short h.1
    have h3 := (may_sizes h.1).2.2
    have h4 : (entL (lastAt i last) c).length ≤ 286 := by
      unfold entL
      simp only [List.length_append, List.length_drop, List.length_cons, List.length_nil]
      have e1 : ∀ n, (two n).length = 2 := fun _ => rfl
      have e2 : c.val.data.toList.length = c.val.size := rfl
      rw [e1, e1, e2]
      omega
    rw [List.length_append, List.length_cons]
    omega
theorem built_size {l : List Cel} : (buildP l).1.size ≤ 80000 := by
  by_cases h0 : (buildP l).2 = 0
  · obtain ⟨h1, h2, _, h4⟩ := build_ok h0
    rw [h4, bl_size, List.length_cons]
    have := body_len l 0 [] h2
    omega
  · unfold buildP at h0 ⊢
    split
    · exact Nat.zero_le _
    · split
      · exact Nat.zero_le _
      · split
        · exact Nat.zero_le _
        · rename_i h1 h2 h3
          rw [if_neg h1, if_neg h2, if_neg h3] at h0
          exact absurd rfl h0
theorem built_empty {l : List Cel} (h : (buildP l).2 ≠ 0) : (buildP l).1 = ⟨#[]⟩ := by
  unfold buildP at h ⊢
  split
  · rfl
  · split
    · rfl
    · split
      · rfl
      · rename_i h1 h2 h3
        rw [if_neg h1, if_neg h2, if_neg h3] at h
        exact absurd rfl h

def SomeB (e : Ending) : Prop := ∃ b, e = .returned (.bool b)
def shL : List Cel := [⟨⟨#[97]⟩, ⟨#[99]⟩, 2, 0, false, ⟨#[120]⟩⟩, ⟨⟨#[97]⟩, ⟨#[99]⟩, 1, 0, true, ⟨#[]⟩⟩]
theorem shL_ok : ∀ c ∈ shL, CelOK c := by
  intro c hc
  simp only [shL, List.mem_cons, List.not_mem_nil, or_false] at hc
  rcases hc with rfl | rfl <;> exact ⟨by decide, by decide, by decide, by decide, by decide⟩
theorem shL_zero : (buildP shL).2 = 0 := by kernel_rfl
theorem shL_len : shL.length = 2 := rfl
theorem sh_share : shareB ⟨#[97, 98, 99]⟩ ⟨#[97, 98, 100]⟩ = 2 := by kernel_rfl
theorem shL_at (w : World) : CelsAt (w.alloc (.cells #[.string ⟨#[97]⟩, .string ⟨#[99]⟩, .int .u64 2, .int .u64 0, .bool false, .string ⟨#[120]⟩, .string ⟨#[97]⟩, .string ⟨#[99]⟩, .int .u64 1, .int .u64 0, .bool true, .string ⟨#[]⟩] 34)) (some ⟨w.heap.size, 0, none⟩) 2 shL := by
  refine ⟨rfl, Or.inr ⟨w.heap.size, 0, rfl, by simp, fun i hi => ?_⟩, shL_ok⟩
  have hh := heap_alloc_at (w := w) rfl (.cells #[.string ⟨#[97]⟩, .string ⟨#[99]⟩, .int .u64 2, .int .u64 0, .bool false, .string ⟨#[120]⟩, .string ⟨#[97]⟩, .string ⟨#[99]⟩, .int .u64 1, .int .u64 0, .bool true, .string ⟨#[]⟩] 34)
  have h2 : i = 0 ∨ i = 1 := by rw [shL_len] at hi; omega
  rcases h2 with rfl | rfl
  · exact ⟨cell_of_block hh _, cell_of_block hh _, cell_of_block hh _, cell_of_block hh _, cell_of_block hh _, cell_of_block hh _⟩
  · exact ⟨cell_of_block hh _, cell_of_block hh _, cell_of_block hh _, cell_of_block hh _, cell_of_block hh _, cell_of_block hh _⟩

end
end Go.Proofs.YtjnapcfclejknaaGreatDoor
