/-
  Slices of cells that a call owns; append of cells.
-/
import Derived.Test.YtjnapcfclejknaaGreatDoorCels
import Derived.Test.YtjnapcfclejknaaGreatDoorRegion
import Derived.Test.YtjnapcfclejknaaGreatDoorRows
import Derived.Maps.AppendAt
import Derived.Laws.AppendOwnNone
namespace Go.Proofs.YtjnapcfclejknaaGreatDoor
open Go.RowKit

def celA (c : Cel) : Array Value := #[.string c.row, .string c.col, .int .u64 c.ts, .int .u64 c.seq, .bool c.del, .string c.val]
def celRow (c : Cel) : List Value := [.string c.row, .string c.col, .int .u64 c.ts, .int .u64 c.seq, .bool c.del, .string c.val]
/-- a cell in a block of its own -/
def CelIn (w : World) (b : Nat) (c : Cel) : Prop := w.heap[b]? = some (.cells (celA c) 34 (0, 0))
theorem CelIn.cell {w : World} {b : Nat} {c : Cel} (h : CelIn w b c) (o : Nat) : w.cell? ⟨b, o, none⟩ = (celA c)[o]? := cell_of_block h o
theorem CelIn.free {w : World} {b : Nat} {c : Cel} (h : CelIn w b c) (o : Nat) : w.frozen? ⟨b, o, none⟩ = false := frozen_of_block h o
theorem CelIn.fp {w w' : World} {b : Nat} {c : Cel} {S : List Nat} (h : CelIn w b c) (hf : Fp S w w') (hb : b ∉ S) : CelIn w' b c := (hf.block b (heap_lt h) hb).trans h
theorem CelIn.set {w : World} {b : Nat} {c c' : Cel} (h : CelIn w b c) (o : Nat) (v : Value) (e : (celA c).setIfInBounds o v = celA c') : CelIn (w.setCell ⟨b, o, none⟩ v) b c' := by
  unfold CelIn
  rw [heap_setCell_same h, e]
theorem CelIn.cells {w : World} {b : Nat} {c : Cel} (h : CelIn w b c) : CelCells w b 0 c := ⟨h.cell 0, h.cell 1, h.cell 2, h.cell 3, h.cell 4, h.cell 5⟩

theorem celRow_at {w : World} {b o : Nat} {c : Cel} (h : CelCells w b o c) (j : Nat) (u : Value) (hu : (celRow c)[j]? = some u) : w.cell? ⟨b, o + j, none⟩ = some u := by
  match j, hu with
  | 0, hu => simp [celRow] at hu; subst hu; exact h.c0
  | 1, hu => simp [celRow] at hu; subst hu; exact h.c1
  | 2, hu => simp [celRow] at hu; subst hu; exact h.c2
  | 3, hu => simp [celRow] at hu; subst hu; exact h.c3
  | 4, hu => simp [celRow] at hu; subst hu; exact h.c4
  | 5, hu => simp [celRow] at hu; subst hu; exact h.c5
  | j + 6, hu => simp [celRow] at hu
theorem flat_len (l : List Cel) : (l.flatMap celRow).length = l.length * 6 := by
  induction l with
  | nil => rfl
  | cons c l ih => rw [List.flatMap_cons, List.length_append, ih, List.length_cons]; show 6 + _ = _; omega
theorem flat_at (l : List Cel) (i j : Nat) (hj : j < 6) (hi : i < l.length) : (l.flatMap celRow)[i * 6 + j]? = (celRow l[i])[j]? := by
  induction l generalizing i with
  | nil => exact absurd hi (Nat.not_lt_zero _)
  | cons c l ih =>
    rw [List.flatMap_cons]
    cases i with
    | zero => rw [List.getElem?_append_left (by show 0 * 6 + j < 6; omega)]; simp
    | succ i =>
      rw [List.getElem?_append_right (by show 6 ≤ (i + 1) * 6 + j; omega)]
      have e : (i + 1) * 6 + j - (celRow c).length = i * 6 + j := by show (i + 1) * 6 + j - 6 = _; omega
      rw [e]
      exact ih i (by simpa using hi)
theorem flat_all {w : World} {b o : Nat} {l : List Cel} (h : ∀ i (hi : i < l.length), CelCells w b (o + i * 6) l[i]) (j : Nat) (u : Value) (hu : (l.flatMap celRow)[j]? = some u) : w.cell? ⟨b, o + j, none⟩ = some u := by
  have hlt : j < l.length * 6 := by rw [← flat_len]; exact (List.getElem?_eq_some_iff.1 hu).1
  have hi : j / 6 < l.length := by omega
  have hj : j % 6 < 6 := Nat.mod_lt _ (by decide)
  have e : j = j / 6 * 6 + j % 6 := by omega
  rw [e, flat_at l _ _ hj hi] at hu
  have := celRow_at (h _ hi) _ _ hu
  rw [e, ← Nat.add_assoc]
  exact this

/-- v is a slice of just these cells, in a block of the call's own (from block base on) -/
def OwnC (w : World) (base : Nat) (v : Value) (l : List Cel) : Prop := w.ownsRow base 34 6 v l.length (l.flatMap celRow)
theorem OwnC.nil (w : World) (base : Nat) : OwnC w base (.slice none 0 0) [] := World.ownsRow_nil w base _ _
theorem OwnC.mono {w : World} {base base' : Nat} {v : Value} {l : List Cel} (h : OwnC w base v l) (hb : base' ≤ base) : OwnC w base' v l := by
  obtain ⟨h1, h2⟩ := h
  refine ⟨h1, ?_⟩
  rcases h2 with h2 | ⟨g, cap, cur, hv, hg, r⟩
  · exact Or.inl h2
  · exact Or.inr ⟨g, cap, cur, hv, Nat.le_trans hb hg, r⟩
theorem OwnC.lt {w : World} {base : Nat} {v : Value} {l : List Cel} (h : OwnC w base v l) : ∀ k, v.ownBlock = some k → base ≤ k ∧ k < w.heap.size := World.ownsRow.lt h
theorem OwnC.kept {w w' : World} {base : Nat} {v : Value} {l : List Cel} (h : OwnC w base v l) (hf : ∀ k, v.ownBlock = some k → w'.heap[k]? = w.heap[k]?) : OwnC w' base v l := by
  obtain ⟨h1, h2⟩ := h
  refine ⟨h1, ?_⟩
  rcases h2 with h2 | ⟨g, cap, cur, hv, hg, hh, r⟩
  · exact Or.inl h2
  · exact Or.inr ⟨g, cap, cur, hv, hg, (hf g (by rw [hv]; rfl)).trans hh, r⟩
theorem OwnC.fp {w w' : World} {base : Nat} {v : Value} {l : List Cel} {S : List Nat} (h : OwnC w base v l) (hf : Fp S w w') (hS : ∀ i ∈ S, i < base) : OwnC w' base v l :=
  h.kept fun k hk => hf.block k (h.lt k hk).2 (fun hm => by have := hS k hm; have := (h.lt k hk).1; omega)
/-- .. as it lies -/
theorem OwnC.at {w : World} {base : Nat} {v : Value} {l : List Cel} (h : OwnC w base v l) (hok : ∀ c ∈ l, CelOK c) : ∃ a cap, v = .slice a l.length cap ∧ CelsAt w a l.length l := by
  obtain ⟨h1, h2⟩ := h
  rcases h2 with ⟨rfl, h0⟩ | ⟨g, cap, cur, rfl, hg, hh, hn, hm, hs, ht⟩
  · have : l = [] := List.eq_nil_of_length_eq_zero h0
    subst this
    exact ⟨none, 0, rfl, rfl, Or.inl rfl, by simp⟩
  · refine ⟨_, _, rfl, rfl, Or.inr ⟨g, 0, rfl, heap_lt hh, fun i hi => ?_⟩, hok⟩
    have key : ∀ j, j < 6 → w.cell? ⟨g, 0 + i * 6 + j, none⟩ = (celRow l[i])[j]? := by
      intro j hj
      rw [cell_of_block hh, ← flat_at l i j hj hi, ← ht, List.getElem?_take, if_pos (by omega), Array.getElem?_toList, Nat.zero_add]
    exact ⟨key 0 (by decide), key 1 (by decide), key 2 (by decide), key 3 (by decide), key 4 (by decide), key 5 (by decide)⟩

theorem OwnC.at2 {w : World} {base : Nat} {v : Value} {l : List Cel} (h : OwnC w base v l) (hok : ∀ c ∈ l, CelOK c) : ∃ a cap, v = .slice a l.length cap ∧ (a = none → cap = 0) ∧ CelsAt w a l.length l := by
  obtain ⟨a, cap, e, hc⟩ := h.at hok
  refine ⟨a, cap, e, fun hn => ?_, hc⟩
  rcases h.2 with ⟨h1, _⟩ | ⟨g, c2, cur, h1, _⟩
  · rw [e] at h1
    injection h1
  · rw [e, hn] at h1
    injection h1 with h2
    cases h2
theorem OwnC.made (w : World) (base : Nat) (hb : base ≤ w.heap.size) : OwnC (w.alloc (.cells #[] 34)) base (.slice (some ⟨w.heap.size, 0, none⟩) 0 0) [] :=
  World.ownsRow_made w #[] 0 hb (by decide) rfl
theorem Tryz.infoCel : (Tryz.prog.info? 34).map (fun i => (i.zero, i.size, i.bytes)) = some (some (.agg #[.string ⟨#[]⟩, .string ⟨#[]⟩, .int .u64 0, .int .u64 0, .bool false, .string ⟨#[]⟩]), 6, 72) := by kernel_rfl
theorem grown_belowC {w w' : World} {base : Nat} {v : Value} {l : List Cel} (h : OwnC w base v l) (hg : w.grownBy w' v.ownBlock) (hb : base ≤ w.heap.size) : Below base w w' :=
  (Below.refl base w).grown hg hb (fun k hk => (h.lt k hk).1)
theorem cels_oneCell (l : List Cel) : ∀ u ∈ l.flatMap celRow, u.oneCell' = true := by
  intro u hu
  obtain ⟨c, _, hc⟩ := List.mem_flatMap.1 hu
  simp only [celRow, List.mem_cons, List.not_mem_nil, or_false] at hc
  rcases hc with rfl | rfl | rfl | rfl | rfl | rfl <;> rfl

/-- append of cells that lie somewhere -/
theorem wpList_append_cels {w : World} {ops : Array Oper} {rest : List Oper} {o : Oper} {a : Act} {Q : Exit → Act → World → Prop} (hgd : o.guard = none) (s x : Operand)
    (ho : o.op = .call { callee := .builtin .append, args := #[s, x], argTypes := #[22, 22] }) (base : Nat) (v : Value) (l : List Cel) (hs : a.eval s = v) (hown : OwnC w base v l)
    (ad : Option Addr) (m c : Nat) (ls : List Cel) (hx : a.eval x = .slice ad m c) (hl : CelsAt w ad m ls) (hnone : ad = none → c = 0) (hlen : l.length + ls.length ≤ 1000000000) (hbase : base ≤ w.heap.size)
    (h : ∀ v' w', OwnC w' base v' (l ++ ls) → Below base w w' → wpList Tryz.prog ops Q rest (a.put o.dst v') w') : wpList Tryz.prog ops Q (o :: rest) a w := by
  obtain ⟨i0, hi, hz0, hz1, hz2⟩ := info_parts Tryz.infoCel
  have hm := hl.len
  cases ad with
  | none =>
    have : ls = [] := by
      rcases hl.cells with h0 | ⟨b, o, h0, _⟩
      · exact h0
      · cases h0
    subst this
    obtain rfl := hnone rfl
    have hm0 : m = 0 := hm
    subst hm0
    refine wpList_append_own_none hgd s x 22 ho base 34 i0 6 Tryz.underlying22 hi v l.length (l.flatMap celRow) hs hown hx ?_
    exact h v w (by rw [List.append_nil]; exact hown) (Below.refl _ _)
  | some ad =>
    refine wpList_append_own w hgd s x 22 ho base 34 i0 _ 6 72 Tryz.underlying22 hi hz0 hz1 hz2 rfl (by decide) v l.length (l.flatMap celRow) hs hown ad m c (ls.flatMap celRow) hx (by rw [flat_len, hm]) ?_ (cels_oneCell ls) (by unfold maxLen; omega) (by omega) hbase ?_
    · intro j u hu
      rcases hl.cells with h0 | ⟨b, o, h0, _, hc⟩
      · subst h0; simp at hu
      · obtain rfl := Option.some.inj h0
        have e1 : (⟨b, o, none⟩ : Addr).add j = ⟨b, o + j, none⟩ := by unfold Addr.add; split <;> simp_all
        rw [e1]
        exact flat_all hc j u hu
    · intro v' w' h1 h2 _
      refine h v' w' ?_ (grown_belowC hown h2 hbase)
      unfold OwnC
      rw [List.length_append, List.flatMap_append, ← hm]
      exact h1
theorem CelIn.one {w : World} {b : Nat} {c : Cel} (h : CelIn w b c) (hok : CelOK c) : CelsAt w (some ⟨b, 0, none⟩) 1 [c] :=
  ⟨rfl, Or.inr ⟨b, 0, rfl, heap_lt h, fun i hi => by
    obtain rfl : i = 0 := by simpa using hi
    exact h.cells⟩, by simpa using hok⟩
/-- a cell's six places -/
theorem CelIn.facts0 {w : World} {b : Nat} {c : Cel} (h : CelIn w b c) :
    w.cell? ⟨b, 0, none⟩ = some (.string c.row) ∧ w.cell? ⟨b, 1, none⟩ = some (.string c.col) ∧ w.cell? ⟨b, 2, none⟩ = some (.int .u64 c.ts) ∧
    w.cell? ⟨b, 3, none⟩ = some (.int .u64 c.seq) ∧ w.cell? ⟨b, 4, none⟩ = some (.bool c.del) ∧ w.cell? ⟨b, 5, none⟩ = some (.string c.val) ∧
    w.frozen? ⟨b, 0, none⟩ = false ∧ w.frozen? ⟨b, 1, none⟩ = false ∧ w.frozen? ⟨b, 2, none⟩ = false ∧ w.frozen? ⟨b, 3, none⟩ = false ∧ w.frozen? ⟨b, 4, none⟩ = false ∧ w.frozen? ⟨b, 5, none⟩ = false :=
  ⟨h.cell 0, h.cell 1, h.cell 2, h.cell 3, h.cell 4, h.cell 5, h.free 0, h.free 1, h.free 2, h.free 3, h.free 4, h.free 5⟩
/-- a cell's six places, behind one more block -/
theorem CelIn.facts {w : World} {b : Nat} {c : Cel} (h : CelIn w b c) :
    (∀ X : Obj, (w.alloc X).cell? ⟨b, 0, none⟩ = some (.string c.row)) ∧ (∀ X : Obj, (w.alloc X).cell? ⟨b, 1, none⟩ = some (.string c.col)) ∧ (∀ X : Obj, (w.alloc X).cell? ⟨b, 2, none⟩ = some (.int .u64 c.ts)) ∧
    (∀ X : Obj, (w.alloc X).cell? ⟨b, 3, none⟩ = some (.int .u64 c.seq)) ∧ (∀ X : Obj, (w.alloc X).cell? ⟨b, 4, none⟩ = some (.bool c.del)) ∧ (∀ X : Obj, (w.alloc X).cell? ⟨b, 5, none⟩ = some (.string c.val)) ∧
    (∀ X : Obj, (w.alloc X).frozen? ⟨b, 0, none⟩ = false) ∧ (∀ X : Obj, (w.alloc X).frozen? ⟨b, 1, none⟩ = false) ∧ (∀ X : Obj, (w.alloc X).frozen? ⟨b, 2, none⟩ = false) ∧
    (∀ X : Obj, (w.alloc X).frozen? ⟨b, 3, none⟩ = false) ∧ (∀ X : Obj, (w.alloc X).frozen? ⟨b, 4, none⟩ = false) ∧ (∀ X : Obj, (w.alloc X).frozen? ⟨b, 5, none⟩ = false) := by
  have k : ∀ X : Obj, CelIn (w.alloc X) b c := fun X => h.fp (Fp.alloc w X) List.not_mem_nil
  exact ⟨fun X => (k X).cell 0, fun X => (k X).cell 1, fun X => (k X).cell 2, fun X => (k X).cell 3, fun X => (k X).cell 4, fun X => (k X).cell 5, fun X => (k X).free 0, fun X => (k X).free 1, fun X => (k X).free 2, fun X => (k X).free 3, fun X => (k X).free 4, fun X => (k X).free 5⟩
end Go.Proofs.YtjnapcfclejknaaGreatDoor
