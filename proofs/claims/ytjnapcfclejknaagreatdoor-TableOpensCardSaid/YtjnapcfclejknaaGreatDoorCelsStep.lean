/-
  Slices of cells: what a part of one has; append to a slice of the call's own as a step of a drawn region; a store into one.
-/
import Derived.Test.YtjnapcfclejknaaGreatDoorCelsOwn
import Derived.Test.YtjnapcfclejknaaGreatDoorRegionM
namespace Go.Proofs.YtjnapcfclejknaaGreatDoor
open Go.RowKit

theorem upd_same (b : Nat → Bool) (i : Nat) : upd b i i = true := if_pos rfl
theorem upd_keep {b : Nat → Bool} {i k : Nat} (h : b k = true) : upd b i k = true := by unfold upd; split <;> first | rfl | exact h

theorem ev_tmp {a : Act} {t : Nat} {v : Value} (h : a.tmps[t]?.getD undef = v) : a.eval (.tmp t) = v := by rw [← h]; simp [go_sem]

theorem CelsAt.take {w : World} {a : Option Addr} {len : Nat} {l : List Cel} (h : CelsAt w a len l) (n : Nat) (hn : n ≤ len) : CelsAt w a n (l.take n) := by
  have hl := h.len
  refine ⟨by rw [List.length_take]; omega, ?_, fun c hc => h.ok c (List.mem_of_mem_take hc)⟩
  rcases h.cells with h0 | ⟨b, o, h1, h2, h3⟩
  · subst h0; exact Or.inl (by simp)
  · refine Or.inr ⟨b, o, h1, h2, fun i hi => ?_⟩
    rw [List.getElem_take]
    exact h3 i (by rw [List.length_take] at hi; omega)
theorem CelsAt.drop {w : World} {b o len : Nat} {l : List Cel} (h : CelsAt w (some ⟨b, o, none⟩) len l) (n m : Nat) (hn : n + m = len) : CelsAt w (some ⟨b, o + n * 6, none⟩) m (l.drop n) := by
  have hl := h.len
  refine ⟨by rw [List.length_drop]; omega, ?_, fun c hc => h.ok c (List.mem_of_mem_drop hc)⟩
  rcases h.cells with h0 | ⟨b', o', h1, h2, h3⟩
  · subst h0; exact Or.inl (by simp)
  · cases h1
    refine Or.inr ⟨b, o + n * 6, rfl, h2, fun i hi => ?_⟩
    rw [List.getElem_drop]
    have h4 := h3 (n + i) (by rw [List.length_drop] at hi; omega)
    rw [show o + n * 6 + i * 6 = o + (n + i) * 6 from by omega]
    exact h4

/-- append of cells that lie somewhere, as a step of its own -/
theorem wp_append_cels {w : World} {o : Oper} {a : Act} {K : Act → World → Prop} {Q : Exit → Act → World → Prop} (s x : Operand)
    (ho : o.op = .call { callee := .builtin .append, args := #[s, x], argTypes := #[22, 22] }) (base : Nat) (v : Value) (l : List Cel) (hs : a.eval s = v) (hown : OwnC w base v l)
    (ad : Addr) (m c : Nat) (ls : List Cel) (hx : a.eval x = .slice (some ad) m c) (hl : CelsAt w (some ad) m ls) (hlen : l.length + ls.length ≤ 1000000000) (hbase : base ≤ w.heap.size)
    (h : ∀ v' w', OwnC w' base v' (l ++ ls) → w.grownBy w' v.ownBlock → Below base w w' → K (a.put o.dst v') w') : o.wp Tryz.prog a w K Q := by
  obtain ⟨i0, hi, hz0, hz1, hz2⟩ := info_parts Tryz.infoCel
  have hm := hl.len
  refine wp_append_own (P := Tryz.prog) w s x 22 ho base 34 i0 _ 6 72 Tryz.underlying22 hi hz0 hz1 hz2 rfl (by decide) v l.length (l.flatMap celRow) hs hown ad m c (ls.flatMap celRow) hx (by rw [flat_len, hm]) ?_ (cels_oneCell ls) (by unfold maxLen; omega) (by omega) hbase ?_
  · intro j u hu
    rcases hl.cells with h0 | ⟨b, o, h0, _, hc⟩
    · subst h0; simp at hu
    · obtain rfl := Option.some.inj h0
      have e1 : (⟨b, o, none⟩ : Addr).add j = ⟨b, o + j, none⟩ := by unfold Addr.add; split <;> simp_all
      rw [e1]
      exact flat_all hc j u hu
  · intro v' w' h1 h2 _
    refine h v' w' ?_ h2 (grown_belowC hown h2 hbase)
    unfold OwnC
    rw [List.length_append, List.flatMap_append, ← hm]
    exact h1

theorem OwnC.empty {w : World} {base g : Nat} (hg : base ≤ g) (h : w.heap[g]? = some (.cells #[] 34 (0, 0))) : OwnC w base (.slice (some ⟨g, 0, none⟩) 0 0) [] :=
  ⟨rfl, Or.inr ⟨g, 0, #[], rfl, hg, h, Nat.le_refl _, Nat.zero_le _, rfl, rfl⟩⟩
/-- .. that has cells, as its block lies -/
theorem OwnC.open {w : World} {base : Nat} {v : Value} {l : List Cel} (h : OwnC w base v l) (h0 : 0 < l.length) :
    ∃ g cap cur, v = .slice (some ⟨g, 0, none⟩) l.length cap ∧ base ≤ g ∧ w.heap[g]? = some (.cells cur 34 (0, 0)) ∧ l.length ≤ cap ∧ cap ≤ maxLen ∧ cur.size = cap * 6 ∧ cur.toList.take (l.length * 6) = l.flatMap celRow := by
  rcases h.2 with ⟨_, h1⟩ | h1
  · omega
  · exact h1
/-- a cell's row is set -/
theorem flat_row : ∀ (l : List Cel) (k : Nat) (s : ByteArray), k < l.length → (l.flatMap celRow).set (k * 6) (.string s) = (l.set k { l.getD k zeroC with row := s }).flatMap celRow
  | [], k, s, h => absurd h (Nat.not_lt_zero _)
  | c :: l, 0, s, _ => by simp [celRow]
  | c :: l, k + 1, s, h => by
    rw [List.flatMap_cons, List.set_append, if_neg (by show ¬ (k + 1) * 6 < 6; omega), List.set_cons_succ, List.flatMap_cons]
    have e : (k + 1) * 6 - (celRow c).length = k * 6 := by show (k + 1) * 6 - 6 = _; omega
    rw [e, flat_row l k s (by simpa using h)]
    rfl
theorem OwnC.setRow {w : World} {base g k cap : Nat} {l : List Cel} (s : ByteArray) (h : OwnC w base (.slice (some ⟨g, 0, none⟩) l.length cap) l) (hk : k < l.length) :
    OwnC (w.setCell ⟨g, k * 6, none⟩ (.string s)) base (.slice (some ⟨g, 0, none⟩) l.length cap) (l.set k { l.getD k zeroC with row := s }) := by
  obtain ⟨g2, cap2, cur, e, hg, hh, hn, hm, hs, ht⟩ := h.open (by omega)
  cases e
  refine ⟨by rw [flat_len], Or.inr ⟨g, cap, cur.setIfInBounds (k * 6) (.string s), by rw [List.length_set], hg, heap_setCell_same hh _, by rw [List.length_set]; exact hn, hm, by rw [Array.size_setIfInBounds]; exact hs, ?_⟩⟩
  rw [Array.toList_setIfInBounds, List.length_set, List.take_set, ht, flat_row l k s hk]
end Go.Proofs.YtjnapcfclejknaaGreatDoor
