/-
 Slices whose elements are of k cells each, of any type: as they lie; of the call's own; append; an element stored. job as data: the bytes of a job, jobs by their numbers, the journal's tale (plain). job: Encode, Decode.
-/
import Derived.Test.YtkagolpnaicdoaaGreatDoorSMaps
import Derived.Test.YtkagolpnaicdoaaGreatDoorSRegion
import Derived.Test.YtkagolpnaicdoaaGreatDoorRows
import Derived.Maps.AppendAt
import Derived.Laws.AppendOwnNone
import Derived.Test.YtkagolpnaicdoaaGreatDoorSTabL
import Derived.Test.YtkagolpnaicdoaaGreatDoorSRegionG
set_option maxRecDepth 100000
set_option maxHeartbeats 8000000
namespace Go.Proofs.YtkagolpnaicdoaaGreatDoor
section
open Go.RowKit
structure RowTy (α : Type) where
 e : TypeId
 k : Nat
 enc : α → List Value
 len : ∀ x, (enc x).length = k
 pos : 0 < k
 one : ∀ x, ∀ v ∈ enc x, v.oneCell' = true
variable {α : Type} {R : RowTy α}
theorem flatq_len (l : List α) : (l.flatMap R.enc).length = l.length * R.k := by
 induction l with
 |nil => simp
 |cons x r ih => rw [List.flatMap_cons, List.length_append, ih, R.len, List.length_cons, Nat.succ_mul, Nat.add_comm]
theorem flatq_at : ∀ (l : List α) (i j : Nat), j < R.k → (hi : i < l.length) → (l.flatMap R.enc)[i * R.k + j]? = (R.enc l[i])[j]?
 |[], _, _, _, hi => absurd hi (Nat.not_lt_zero _)
 |x :: r, 0, j, hj, _ => by
  rw [List.flatMap_cons, Nat.zero_mul, Nat.zero_add, List.getElem?_append_left (by rw [R.len]; exact hj)]; rfl
 |x :: r, i + 1, j, hj, hi => by
  rw [List.flatMap_cons, List.getElem?_append_right (by rw [R.len, Nat.succ_mul]; omega), R.len, show (i + 1) * R.k + j - R.k = i * R.k + j by rw [Nat.succ_mul]; omega]
  exact flatq_at r i j hj _
theorem flatq_one (l : List α) : ∀ u ∈ l.flatMap R.enc, u.oneCell' = true := by
 intro u hu
 obtain ⟨x, _, hx⟩ := List.mem_flatMap.1 hu
 exact R.one x u hx
theorem split_k {k x n : Nat} (h : x < n * k) (hk : 0 < k) : x / k < n ∧ x % k < k ∧ x = x / k * k + x % k :=
 ⟨Nat.div_lt_of_lt_mul (by rw [Nat.mul_comm]; exact h), Nat.mod_lt _ hk, (Nat.div_add_mod' x k).symm⟩
def QCells (R : RowTy α) (w : World) (b o : Nat) (x : α) : Prop := ∀ j u, (R.enc x)[j]? = some u → w.cell? ⟨b, o + j, none⟩ = some u
theorem QCells.fp {w w' : World} {b o : Nat} {x : α} {S : List Nat} (h : QCells R w b o x) (hf : Fp S w w') (hb : b < w.heap.size) (hS : b ∉ S) : QCells R w' b o x := fun j u hu => (hf.cell (p := ⟨b, o + j, none⟩) hb hS).trans (h j u hu)
structure QAt (R : RowTy α) (w : World) (a : Option Addr) (n : Nat) (l : List α) : Prop where
 len : n = l.length
 cells : l = [] ∨ ∃ b o, a = some ⟨b, o, none⟩ ∧ b < w.heap.size ∧ ∀ i (h : i < l.length), QCells R w b (o + i * R.k) l[i]
theorem QAt.fp {w w' : World} {a : Option Addr} {n : Nat} {l : List α} (h : QAt R w a n l) (hf : Fp [] w w') : QAt R w' a n l := by
 refine ⟨h.len, ?_⟩
 rcases h.cells with h0 | ⟨b, o, e, hb, hc⟩
 ·exact Or.inl h0
 ·exact Or.inr ⟨b, o, e, Nat.lt_of_lt_of_le hb hf.size, fun i hi => (hc i hi).fp hf hb (by simp)⟩
theorem QAt.get {w : World} {a : Option Addr} {n i : Nat} {l : List α} (h : QAt R w a n l) (hi : i < l.length) : ∃ b o, a = some ⟨b, o, none⟩ ∧ b < w.heap.size ∧ ∀ w', Fp [] w w' → QCells R w' b (o + i * R.k) l[i] := by
 rcases h.cells with h0 | ⟨b, o, e, hb, hc⟩
 ·rw [h0] at hi; exact absurd hi (Nat.not_lt_zero _)
 ·exact ⟨b, o, e, hb, fun w' hf => (hc i hi).fp hf hb (by simp)⟩
theorem QAt.nil (w : World) (a : Option Addr) : QAt R w a 0 [] := ⟨rfl, Or.inl rfl⟩
theorem QAt.take {w : World} {a : Option Addr} {n : Nat} {l : List α} (h : QAt R w a n l) (m : Nat) (hm : m ≤ n) : QAt R w a m (l.take m) := by
 have hl := h.len
 refine ⟨by rw [List.length_take]; omega, ?_⟩
 rcases h.cells with h0 | ⟨b, o, e, hb, hc⟩
 ·left; rw [h0]; simp
 ·exact Or.inr ⟨b, o, e, hb, fun i hi => by rw [List.getElem_take]; exact hc i (by rw [List.length_take] at hi; omega)⟩
theorem QAt.drop {w : World} {b o n : Nat} {l : List α} (h : QAt R w (some ⟨b, o, none⟩) n l) (m r : Nat) (hm : m + r = n) : QAt R w (some ⟨b, o + m * R.k, none⟩) r (l.drop m) := by
 have hl := h.len
 refine ⟨by rw [List.length_drop]; omega, ?_⟩
 rcases h.cells with h0 | ⟨b', o', e, hb, hc⟩
 ·left; rw [h0]; simp
 ·obtain ⟨rfl, rfl⟩ : b = b' ∧ o = o' := by cases e; exact ⟨rfl, rfl⟩
  refine Or.inr ⟨b, o + m * R.k, rfl, hb, fun i hi => ?_⟩
  rw [List.length_drop] at hi
  have := hc (m + i) (by omega)
  rw [Nat.add_mul, ← Nat.add_assoc] at this
  rw [List.getElem_drop]
  exact this
theorem QAt.one {w : World} {g : Nat} {x : α} {e : TypeId} (h : w.heap[g]? = some (.cells (R.enc x).toArray e (0, 0))) : QAt R w (some ⟨g, 0, none⟩) 1 [x] := by
 refine ⟨rfl, Or.inr ⟨g, 0, rfl, heap_lt h, fun i hi => ?_⟩⟩
 have : i = 0 := by simpa using hi
 subst this
 intro j u hu
 simp only [Nat.zero_mul, Nat.zero_add]
 rw [cell_of_block h, List.getElem?_toArray]
 exact hu
def OwnQ (R : RowTy α) (w : World) (base : Nat) (v : Value) (l : List α) : Prop := w.ownsRow base R.e R.k v l.length (l.flatMap R.enc)
theorem OwnQ.nil (w : World) (base : Nat) : OwnQ R w base (.slice none 0 0) [] := World.ownsRow_nil w base _ _
theorem OwnQ.mono {w : World} {base base' : Nat} {v : Value} {l : List α} (h : OwnQ R w base v l) (hb : base' ≤ base) : OwnQ R w base' v l := by
 obtain ⟨h1, h2⟩ := h
 refine ⟨h1, ?_⟩
 rcases h2 with h2 | ⟨g, cap, cur, hv, hg, r⟩
 ·exact Or.inl h2
 ·exact Or.inr ⟨g, cap, cur, hv, Nat.le_trans hb hg, r⟩
theorem OwnQ.lt {w : World} {base : Nat} {v : Value} {l : List α} (h : OwnQ R w base v l) : ∀ k, v.ownBlock = some k → base ≤ k ∧ k < w.heap.size := World.ownsRow.lt h
theorem OwnQ.kept {w w' : World} {base : Nat} {v : Value} {l : List α} (h : OwnQ R w base v l) (hf : ∀ k, v.ownBlock = some k → w'.heap[k]? = w.heap[k]?) : OwnQ R w' base v l := by
 obtain ⟨h1, h2⟩ := h
 refine ⟨h1, ?_⟩
 rcases h2 with h2 | ⟨g, cap, cur, hv, hg, hh, r⟩
 ·exact Or.inl h2
 ·exact Or.inr ⟨g, cap, cur, hv, hg, (hf g (by rw [hv]; rfl)).trans hh, r⟩
theorem OwnQ.fp {w w' : World} {base : Nat} {v : Value} {l : List α} {S : List Nat} (h : OwnQ R w base v l) (hf : Fp S w w') (hS : ∀ i ∈ S, i < base) : OwnQ R w' base v l :=
 h.kept fun k hk => hf.block k (h.lt k hk).2 (fun hm => by have := hS k hm; have := (h.lt k hk).1; omega)
theorem OwnQ.made (w : World) (base : Nat) (hb : base ≤ w.heap.size) : OwnQ R (w.alloc (.cells #[] R.e)) base (.slice (some ⟨w.heap.size, 0, none⟩) 0 0) [] :=
 World.ownsRow_made w #[] 0 hb (by decide) (by simp)
theorem OwnQ.open {w : World} {base : Nat} {v : Value} {l : List α} (h : OwnQ R w base v l) (h0 : 0 < l.length) :
  ∃ g cap cur, v = .slice (some ⟨g, 0, none⟩) l.length cap ∧ base ≤ g ∧ w.heap[g]? = some (.cells cur R.e (0, 0)) ∧ l.length ≤ cap ∧ cap ≤ maxLen ∧ cur.size = cap * R.k ∧ cur.toList.take (l.length * R.k) = l.flatMap R.enc := by
 rcases h.2 with ⟨rfl, hn⟩ | h2
 ·omega
 ·exact h2
theorem OwnQ.len {w : World} {base : Nat} {v : Value} {l : List α} (h : OwnQ R w base v l) : ∃ a cap, v = .slice a l.length cap ∧ (a = none → cap = 0) ∧ l.length ≤ cap := by
 rcases h.2 with ⟨rfl, h0⟩ | ⟨g, cap, cur, rfl, _, _, hn, _⟩
 ·exact ⟨none, 0, by rw [h0], fun _ => rfl, by omega⟩
 ·exact ⟨_, _, rfl, (fun h => by cases h), hn⟩
theorem cells_of_own_q {cur : Array Value} {l : List α} (h : cur.toList.take (l.length * R.k) = l.flatMap R.enc) (i : Nat) (hi : i < l.length) (j : Nat) (hj : j < R.k) : cur[i * R.k + j]? = (R.enc l[i])[j]? := by
 have : i * R.k + j < l.length * R.k := Nat.lt_of_lt_of_le (by rw [Nat.succ_mul]; omega) (Nat.mul_le_mul_right _ (show i + 1 ≤ l.length from hi))
 rw [← flatq_at l i j hj hi, ← h, List.getElem?_take, if_pos this, Array.getElem?_toList]
theorem own_of_cells_q {cur : Array Value} {l : List α} (h : ∀ i (hi : i < l.length), ∀ j, j < R.k → cur[i * R.k + j]? = (R.enc l[i])[j]?) : cur.toList.take (l.length * R.k) = l.flatMap R.enc := by
 apply List.ext_getElem?
 intro x
 by_cases hx : x < l.length * R.k
 ·obtain ⟨h1, h2, h3⟩ := split_k hx R.pos
  rw [List.getElem?_take, if_pos hx, Array.getElem?_toList]
  rw [h3, flatq_at l (x / R.k) (x % R.k) h2 h1]
  exact h (x / R.k) h1 (x % R.k) h2
 ·rw [List.getElem?_take, if_neg hx, List.getElem?_eq_none (by rw [flatq_len]; omega)]
theorem OwnQ.at {w : World} {base : Nat} {v : Value} {l : List α} (h : OwnQ R w base v l) : ∃ a cap, v = .slice a l.length cap ∧ (a = none → cap = 0) ∧ l.length ≤ cap ∧ QAt R w a l.length l := by
 by_cases h0 : 0 < l.length
 ·obtain ⟨g, cap, cur, rfl, hg, hh, hn, hm, hs, ht⟩ := h.open h0
  refine ⟨_, _, rfl, (fun h => by cases h), hn, rfl, Or.inr ⟨g, 0, rfl, heap_lt hh, fun i hi j u hu => ?_⟩⟩
  have hj : j < R.k := by rw [← R.len l[i]]; exact (List.getElem?_eq_some_iff.1 hu).1
  rw [Nat.zero_add, cell_of_block hh, cells_of_own_q ht i hi j hj]
  exact hu
 ·obtain ⟨a, cap, e, h1, h2⟩ := h.len
  exact ⟨a, cap, e, h1, h2, rfl, Or.inl (List.eq_nil_of_length_eq_zero (by omega))⟩
theorem wpList_append_q (T : TypeId) {z : Value} {bytes : Nat} (hu : Tryz.prog.underlying T = some (.slice R.e)) (hinfo : (Tryz.prog.info? R.e).map (fun i => (i.zero, i.size, i.bytes)) = some (some z, R.k, bytes)) (hzs : z.cells.size = R.k) (hby : bytes ≤ 100000)
  {w : World} {ops : Array Oper} {rest : List Oper} {o : Oper} {a : Act} {Q : Exit → Act → World → Prop} (hgd : o.guard = none) (s x : Operand)
  (ho : o.op = .call { callee := .builtin .append, args := #[s, x], argTypes := #[T, T] }) (base : Nat) (v : Value) (l : List α) (hs : a.eval s = v) (hown : OwnQ R w base v l)
  (ad : Option Addr) (m c : Nat) (ls : List α) (hx : a.eval x = .slice ad m c) (hl : QAt R w ad m ls) (hnone : ad = none → c = 0) (hlen : l.length + ls.length ≤ 1000000000) (hbase : base ≤ w.heap.size)
  (h : ∀ v' w', OwnQ R w' base v' (l ++ ls) → Below base w w' → w.grownBy w' v.ownBlock → wpList Tryz.prog ops Q rest (a.put o.dst v') w') : wpList Tryz.prog ops Q (o :: rest) a w := by
 obtain ⟨i0, hi, hz0, hz1, hz2⟩ := info_parts hinfo
 have hm := hl.len
 cases ad with
 |none =>
  have : ls = [] := by
   rcases hl.cells with h0 | ⟨b, o, h0, _⟩
   ·exact h0
   ·cases h0
  subst this
  obtain rfl := hnone rfl
  have hm0 : m = 0 := hm
  subst hm0
  refine wpList_append_own_none hgd s x T ho base R.e i0 R.k hu hi v l.length (l.flatMap R.enc) hs hown hx ?_
  exact h v w (by rw [List.append_nil]; exact hown) (Below.refl _ _) ⟨rfl, rfl, rfl, Nat.le_refl _, fun _ _ _ => rfl⟩
 |some ad =>
  refine wpList_append_own w hgd s x T ho base R.e i0 _ R.k bytes hu hi hz0 hz1 hz2 hzs R.pos v l.length (l.flatMap R.enc) hs hown ad m c (ls.flatMap R.enc) hx (by rw [flatq_len, hm]) ?_ (flatq_one ls) (by unfold maxLen; omega) (Nat.le_trans (Nat.mul_le_mul (show l.length + m ≤ 1000000000 by omega) hby) (by decide)) hbase ?_
  ·intro j u hju
   rcases hl.cells with h0 | ⟨b, o, h0, _, hc⟩
   ·subst h0; simp at hju
   ·obtain rfl := Option.some.inj h0
    have e1 : (⟨b, o, none⟩ : Addr).add j = ⟨b, o + j, none⟩ := by unfold Addr.add; split <;> simp_all
    rw [e1]
    have hjl : j < ls.length * R.k := by rw [← flatq_len (R := R)]; exact (List.getElem?_eq_some_iff.1 hju).1
    obtain ⟨h1, h2, h3⟩ := split_k hjl R.pos
    rw [h3, flatq_at ls _ _ h2 h1] at hju
    have := hc (j / R.k) h1 (j % R.k) u hju
    rw [Nat.add_assoc, ← h3] at this
    exact this
  ·intro v' w' h1 h2 _
   refine h v' w' ?_ ((Below.refl base w).grown h2 hbase (fun k hk => (hown.lt k hk).1)) h2
   unfold OwnQ
   rw [List.length_append, List.flatMap_append, ← hm]
   exact h1
theorem setCells_blockq {g : Nat} {e : TypeId} : ∀ (vs : List Value) (o : Nat) (w : World) (cur : Array Value), w.heap[g]? = some (.cells cur e (0, 0)) → ∃ cur' : Array Value, (w.setCells g o vs).heap[g]? = some (.cells cur' e (0, 0)) ∧ cur'.size = cur.size ∧
  (∀ j, j < o → cur'[j]? = cur[j]?) ∧ (∀ j, j < vs.length → o + j < cur.size → cur'[o + j]? = vs[j]?) ∧ (∀ j, o + vs.length ≤ j → cur'[j]? = cur[j]?) ∧ Fp [g] w (w.setCells g o vs)
 |[], o, w, cur, h => ⟨cur, h, rfl, fun _ _ => rfl, fun j hj => absurd hj (Nat.not_lt_zero _), fun _ _ => rfl, Fp.refl _ _⟩
 |v :: vs, o, w, cur, h => by
  have h1 : (w.setCell ⟨g, o, none⟩ v).heap[g]? = some (.cells (cur.setIfInBounds o v) e (0, 0)) := heap_setCell_same h v
  obtain ⟨cur', g1, g2, g3, g4, g5, g6⟩ := setCells_blockq vs (o + 1) (w.setCell ⟨g, o, none⟩ v) _ h1
  refine ⟨cur', g1, by rw [g2, Array.size_setIfInBounds], fun j hj => ?_, fun j hj hjs => ?_, fun j hj => ?_, (Fp.setCell w ⟨g, o, none⟩ v).trans g6 (by intro i hi; exact Or.inl hi)⟩
  ·rw [g3 j (by omega), Array.getElem?_setIfInBounds, if_neg (by omega)]
  ·cases j with
   |zero =>
    rw [Nat.add_zero, g3 o (by omega), Array.getElem?_setIfInBounds, if_pos rfl, if_pos (by omega)]
    rfl
   |succ j =>
    rw [show o + (j + 1) = o + 1 + j from by omega, g4 j (by simpa using hj) (by rw [Array.size_setIfInBounds]; omega)]
    rfl
  ·rw [g5 j (by simp at hj; omega), Array.getElem?_setIfInBounds, if_neg (by simp at hj; omega)]
theorem OwnQ.setQ {w : World} {base g i n cap : Nat} {l : List α} (x : α) (h : OwnQ R w base (.slice (some ⟨g, 0, none⟩) n cap) l) (hi : i < l.length) :
  OwnQ R (w.setCells g (i * R.k) (R.enc x)) base (.slice (some ⟨g, 0, none⟩) n cap) (l.set i x) ∧ Fp [g] w (w.setCells g (i * R.k) (R.enc x)) := by
 obtain ⟨g2, cap2, cur, e, hg, hh, hn, hm, hs, ht⟩ := h.open (by omega)
 cases e
 obtain ⟨cur', g1, g2, g3, g4, g5, g6⟩ := setCells_blockq (R.enc x) (i * R.k) w cur hh
 have hle : (i + 1) * R.k ≤ cap * R.k := Nat.mul_le_mul_right _ (by omega)
 rw [Nat.succ_mul] at hle
 refine ⟨⟨by rw [flatq_len], Or.inr ⟨g, cap, cur', by rw [List.length_set], hg, g1, by rw [List.length_set]; exact hn, hm, by rw [g2]; exact hs, ?_⟩⟩, g6⟩
 refine own_of_cells_q fun y hy j hj => ?_
 rw [List.length_set] at hy
 by_cases e : y = i
 ·subst e
  rw [List.getElem_set_self, g4 j (by rw [R.len]; exact hj) (by rw [hs]; omega)]
 ·rw [List.getElem_set_ne (Ne.symm e), ← cells_of_own_q ht y hy j hj]
  rcases Nat.lt_or_ge y i with h | h
  ·have : (y + 1) * R.k ≤ i * R.k := Nat.mul_le_mul_right _ (by omega)
   rw [Nat.succ_mul] at this
   exact g3 _ (by omega)
  ·have : (i + 1) * R.k ≤ y * R.k := Nat.mul_le_mul_right _ (by omega)
   rw [Nat.succ_mul] at this
   exact g5 _ (by rw [R.len]; omega)
theorem OwnQ.elem {w : World} {base g n cap i : Nat} {l : List α} (h : OwnQ R w base (.slice (some ⟨g, 0, none⟩) n cap) l) (hi : i < l.length) : QCells R w g (i * R.k) l[i] ∧ (∀ o, w.frozen? ⟨g, o, none⟩ = false) ∧ base ≤ g ∧ g < w.heap.size ∧ n = l.length ∧ n ≤ cap := by
 obtain ⟨g2, cap2, cur, e, hg, hh, hn, hm, hs, ht⟩ := h.open (by omega)
 cases e
 refine ⟨fun j u hu => ?_, fun o => frozen_of_block hh o, hg, heap_lt hh, rfl, hn⟩
 have hj : j < R.k := by rw [← R.len l[i]]; exact (List.getElem?_eq_some_iff.1 hu).1
 rw [cell_of_block hh, cells_of_own_q ht i hi j hj]
 exact hu
theorem OwnQ.cut {w : World} {base g n cap m p : Nat} {l : List α} (vs : List Value) (h : OwnQ R w base (.slice (some ⟨g, 0, none⟩) n cap) l) (hk : m ≤ l.length) (hl : 0 < l.length) (hm : p = m * R.k) :
  OwnQ R (w.setCells g p vs) base (.slice (some ⟨g, 0, none⟩) m cap) (l.take m) ∧ Fp [g] w (w.setCells g p vs) := by
 subst hm
 obtain ⟨g2, cap2, cur, e, hg, hh, hn, hm, hs, ht⟩ := h.open hl
 cases e
 obtain ⟨cur', g1, g2, g3, g4, g5, g6⟩ := setCells_blockq vs (m * R.k) w cur hh
 have hlk : (l.take m).length = m := by rw [List.length_take]; omega
 refine ⟨⟨by rw [flatq_len], Or.inr ⟨g, cap, cur', by rw [hlk], hg, g1, by rw [hlk]; omega, hm, by rw [g2]; exact hs, ?_⟩⟩, g6⟩
 refine own_of_cells_q fun y hy j hj => ?_
 rw [hlk] at hy
 rw [List.getElem_take, ← cells_of_own_q ht y (by omega) j hj]
 have : (y + 1) * R.k ≤ m * R.k := Nat.mul_le_mul_right _ (by omega)
 rw [Nat.succ_mul] at this
 exact g3 _ (by omega)
theorem OwnQ.less {w : World} {base g n cap m : Nat} {l : List α} (h : OwnQ R w base (.slice (some ⟨g, 0, none⟩) n cap) l) (hk : m ≤ l.length) (hl : 0 < l.length) : OwnQ R w base (.slice (some ⟨g, 0, none⟩) m cap) (l.take m) := (h.cut [] hk hl rfl).1
end
section
open Go.RowKit
structure JobR where
 id : Nat
 phase : Int
 e : Int
 input : ByteArray
structure JobOK (j : JobR) : Prop where
 id : j.id < 18446744073709551616
 p0 : -9223372036854775808 ≤ j.phase
 p1 : j.phase ≤ 9223372036854775807
 e0 : -9223372036854775808 ≤ j.e
 e1 : j.e ≤ 9223372036854775807
 input : j.input.size ≤ 1000000000
def zeroJ : JobR := ⟨0, 0, 0, ⟨#[]⟩⟩
def jobL (j : JobR) : List Value := [.int .u64 j.id, .int .i64 j.phase, .int .i64 j.e, .string j.input]
def jobV (j : JobR) : Value := .agg (jobL j).toArray
def jobTy : RowTy JobR := ⟨42, 4, jobL, fun _ => rfl, by decide, by intro x v hv; simp only [jobL, List.mem_cons, List.not_mem_nil, or_false] at hv; rcases hv with rfl | rfl | rfl | rfl <;> rfl⟩
def headL (id p e : Nat) : List UInt8 := le8 id ++ [UInt8.ofNat p, UInt8.ofNat e, UInt8.ofNat (e / 256)]
def badJ (j : JobR) : Bool := decide (j.phase < 1) || decide (5 < j.phase) || decide (j.e < 0) || decide (65535 < j.e)
def encJ (j : JobR) : ByteArray := bl (headL j.id j.phase.toNat j.e.toNat) ++ j.input
def encodeP (j : JobR) : ByteArray × Int := if badJ j then (⟨#[]⟩, 1) else if 60000 < j.input.size then (⟨#[]⟩, 71) else (encJ j, 0)
def badJS (s : ByteArray) : Bool := decide (s.size < 11) || decide ((atB s 8).toNat < 1) || decide (5 < (atB s 8).toNat) || decide (60011 < s.size)
def decJ (s : ByteArray) : JobR := ⟨leN s 8, ((atB s 8).toNat : Int), (((atB s 9).toNat + (atB s 10).toNat * 256 : Nat) : Int), s.extract 11 s.size⟩
def decodeP (s : ByteArray) : JobR × Int := if badJS s then (zeroJ, 50) else (decJ s, 0)
theorem headL_length (id p e : Nat) : (headL id p e).length = 11 := by simp [headL, le8_length]
theorem encJ_size (j : JobR) : (encJ j).size = 11 + j.input.size := by
 unfold encJ
 rw [ByteArray.size_append, bl_size, headL_length]
def atJ : List JobR → Nat → Option Nat
 |[], _ => none
 |x :: r, id => if x.id = id then some 0 else (atJ r id).map (· + 1)
def putJ : List JobR → JobR → List JobR
 |[], j => [j]
 |x :: r, j => if x.id = j.id then j :: r else x :: putJ r j
def findJ (l : List JobR) (id : Nat) : Option JobR := l.find? (fun x => x.id == id)
theorem atJ_lt : ∀ {l : List JobR} {id i : Nat}, atJ l id = some i → i < l.length
 |x :: r, id, i, h => by
  unfold atJ at h
  split at h
  ·cases h; simp
  ·obtain ⟨k, hk, rfl⟩ := Option.map_eq_some_iff.1 h
   have := atJ_lt hk
   simp; omega
theorem atJ_first : ∀ {l : List JobR} {id k : Nat} (hk : k < l.length), (∀ i (h : i < k), ¬ (l[i]'(Nat.lt_trans h hk)).id = id) → (l[k]).id = id → atJ l id = some k
 |x :: r, id, 0, _, _, h => by unfold atJ; rw [if_pos (show x.id = id from h)]
 |x :: r, id, k + 1, hk, hb, h => by
  unfold atJ
  rw [if_neg (show ¬ x.id = id from hb 0 (Nat.succ_pos _)), atJ_first (k := k) (by simpa using hk) (fun i hi => hb (i + 1) (Nat.succ_lt_succ hi)) h]
  rfl
theorem atJ_none : ∀ {l : List JobR} {id : Nat}, (∀ i (h : i < l.length), ¬ (l[i]).id = id) → atJ l id = none
 |[], _, _ => rfl
 |x :: r, id, hb => by
  unfold atJ
  rw [if_neg (show ¬ x.id = id from hb 0 (by simp)), atJ_none (fun i hi => hb (i + 1) (by simpa using hi))]
  rfl
theorem putJ_set : ∀ {l : List JobR} {j : JobR} {i : Nat}, atJ l j.id = some i → putJ l j = l.set i j
 |x :: r, j, i, h => by
  unfold atJ at h
  unfold putJ
  split at h
  ·cases h; rw [if_pos (by assumption)]; rfl
  ·obtain ⟨k, hk, rfl⟩ := Option.map_eq_some_iff.1 h
   rw [if_neg (by assumption), putJ_set hk]; rfl
theorem putJ_new : ∀ {l : List JobR} {j : JobR}, atJ l j.id = none → putJ l j = l ++ [j]
 |[], j, _ => rfl
 |x :: r, j, h => by
  unfold atJ at h
  unfold putJ
  split at h
  ·cases h
  ·rw [if_neg (by assumption), putJ_new (by simpa using h)]; rfl
theorem findJ_at {l : List JobR} {id i : Nat} (h : atJ l id = some i) : findJ l id = some (l[i]'(atJ_lt h)) := by
 induction l generalizing i with
 |nil => cases h
 |cons x r ih =>
  have h0 := h
  unfold atJ at h
  unfold findJ
  rw [List.find?_cons]
  split at h
  ·cases h
   rename_i hx
   rw [show (x.id == id) = true by simpa using hx]; rfl
  ·rename_i hx
   obtain ⟨k, hk, rfl⟩ := Option.map_eq_some_iff.1 h
   rw [show (x.id == id) = false by simpa using hx]
   exact ih hk
theorem findJ_none {l : List JobR} {id : Nat} (h : atJ l id = none) : findJ l id = none := by
 induction l with
 |nil => rfl
 |cons x r ih =>
  unfold atJ at h
  unfold findJ
  rw [List.find?_cons]
  split at h
  ·cases h
  ·rename_i hx
   rw [show (x.id == id) = false by simpa using hx]
   exact ih (by simpa using h)
theorem putJ_length_le (l : List JobR) (j : JobR) : (putJ l j).length ≤ l.length + 1 ∧ l.length ≤ (putJ l j).length := by
 cases h : atJ l j.id with
 |none => rw [putJ_new h]; simp
 |some i => rw [putJ_set h]; simp
def submitP (l : List JobR) (id : Nat) (input : ByteArray) : JobR ⊕ Int :=
 match findJ l id with
 |some j => if j.input = input then .inr 0 else .inr 191
 |none => .inl ⟨id, 1, 0, input⟩
def moveP (l : List JobR) (id : Nat) (phase e : Int) : JobR ⊕ Int :=
 match findJ l id with
 |none => .inr 3
 |some j => if 4 ≤ j.phase ∨ phase < 1 ∨ 5 < phase then .inr 5 else .inl ⟨j.id, phase, e, j.input⟩
def jobsT (texts : List ByteArray) : List JobR := texts.foldl (fun l t => putJ l (decodeP t).1) []
theorem jobsT_snoc (a : List ByteArray) (t : ByteArray) : jobsT (a ++ [t]) = putJ (jobsT a) (decodeP t).1 := by unfold jobsT; rw [List.foldl_append]; rfl
theorem jobsT_len (a : List ByteArray) : (jobsT a).length ≤ a.length := by
 have key : ∀ (a : List ByteArray) (l : List JobR), (a.foldl (fun l t => putJ l (decodeP t).1) l).length ≤ l.length + a.length := by
  intro a
  induction a with
  |nil => intro l; exact Nat.le_refl _
  |cons t r ih =>
   intro l
   have h1 := ih (putJ l (decodeP t).1)
   have h2 := (putJ_length_le l (decodeP t).1).1
   simp only [List.foldl_cons, List.length_cons]
   omega
 have h := key a []
 rw [List.length_nil, Nat.zero_add] at h
 exact h
end
section
open Go.RowKit Go.Lib
def encCells (id k : Nat) : Array Value := #[if 0 < k then byteV (byteN id 0) else .int .u8 0, if 1 < k then byteV (byteN id 1) else .int .u8 0, if 2 < k then byteV (byteN id 2) else .int .u8 0, if 3 < k then byteV (byteN id 3) else .int .u8 0, if 4 < k then byteV (byteN id 4) else .int .u8 0, if 5 < k then byteV (byteN id 5) else .int .u8 0, if 6 < k then byteV (byteN id 6) else .int .u8 0, if 7 < k then byteV (byteN id 7) else .int .u8 0, .int .u8 0, .int .u8 0, .int .u8 0]
def tailCells (id : Nat) (c8 c9 c10 : Bool) (p y z : Int) : Array Value := #[byteV (byteN id 0), byteV (byteN id 1), byteV (byteN id 2), byteV (byteN id 3), byteV (byteN id 4), byteV (byteN id 5), byteV (byteN id 6), byteV (byteN id 7), .int .u8 (if c8 then p else 0), .int .u8 (if c9 then y else 0), .int .u8 (if c10 then z else 0)]
theorem encCells_set (id k : Nat) (hk : k < 8) : (encCells id k).setIfInBounds k (byteV (byteN id k)) = encCells id (k + 1) := by
 have h : k = 0 ∨ k = 1 ∨ k = 2 ∨ k = 3 ∨ k = 4 ∨ k = 5 ∨ k = 6 ∨ k = 7 := by omega
 rcases h with rfl | rfl | rfl | rfl | rfl | rfl | rfl | rfl <;> rfl
theorem encCells_get (id k : Nat) (hk : k < 8) : (encCells id k)[k]? = some (.int .u8 0) := by
 have h : k = 0 ∨ k = 1 ∨ k = 2 ∨ k = 3 ∨ k = 4 ∨ k = 5 ∨ k = 6 ∨ k = 7 := by omega
 rcases h with rfl | rfl | rfl | rfl | rfl | rfl | rfl | rfl <;> rfl
theorem encCells_full (id : Nat) (p y z : Int) : encCells id 8 = tailCells id false false false p y z := rfl
structure EncC (g q : Nat) (w0 : World) (box : Array Value) (id : Nat) (p y z : Int) (c8 c9 c10 : Bool) (w : World) : Prop where
 blk : w.heap[g]? = some (.cells (tailCells id c8 c9 c10 p y z) 5 (0, 0))
 box : w.heap[q]? = some (.cells box 42 (0, 0))
 fp : Fp [] w0 w
theorem EncC.set {g q : Nat} {w0 w : World} {bx : Array Value} {id o : Nat} {p y z : Int} {c8 c9 c10 d8 d9 d10 : Bool} {v : Value} (h : EncC g q w0 bx id p y z c8 c9 c10 w) (hg : w0.heap.size ≤ g)
  (hs : (tailCells id c8 c9 c10 p y z).setIfInBounds o v = tailCells id d8 d9 d10 p y z) : EncC g q w0 bx id p y z d8 d9 d10 (w.setCell ⟨g, o, none⟩ v) := by
 refine ⟨(heap_setCell_same h.blk _).trans (by rw [hs]), ?_, h.fp.trans (Fp.setCell w ⟨g, o, none⟩ v) (by intro i hi; right; simp at hi; omega)⟩
 have hne : q ≠ g := by
  rintro rfl
  have h1 := h.blk
  rw [h.box] at h1
  cases h1
 exact (heap_setCell_other hne _).trans h.box
theorem encode_any (w : World) (j : JobR) (hj : JobOK j) :
  Calls Tryz.prog 17 #[jobV j] w fun e w' => e = .returned (.tuple #[.string (encodeP j).1, .int .i64 (encodeP j).2]) ∧ Fp [] w w' := by
 obtain ⟨id, p, x, inp⟩ := j
 obtain ⟨hid, hp0, hp1, hx0, hx1, hin⟩ := hj
 simp only at hid hp0 hp1 hx0 hx1 hin
 have HF1 : Hid (Fp [] w (w.alloc (.cells #[.int .u64 id, .int .i64 p, .int .i64 x, .string inp] 42))) := Lib.hid (Fp.alloc _ _)
 unfold jobV jobL
 simp only
 by_cases c1 : p < 1
 ·have HE : Hid (encodeP ⟨id, p, x, inp⟩ = (⟨#[]⟩, 1)) := by unfold Hid encodeP badJ; rw [if_pos (by simp [c1])]
  go_enter Tryz.func17, Tryz.ntmps17
  go_wp2_with (fail)
  go_ret2
  rw [HE.out]
  exact ⟨rfl, HF1.out⟩
 by_cases c2 : 5 < p
 ·have HE : Hid (encodeP ⟨id, p, x, inp⟩ = (⟨#[]⟩, 1)) := by unfold Hid encodeP badJ; rw [if_pos (by simp [c2])]
  go_enter Tryz.func17, Tryz.ntmps17
  go_wp2_with (fail)
  go_ret2
  rw [HE.out]
  exact ⟨rfl, HF1.out⟩
 by_cases c3 : x < 0
 ·have HE : Hid (encodeP ⟨id, p, x, inp⟩ = (⟨#[]⟩, 1)) := by unfold Hid encodeP badJ; rw [if_pos (by simp [c3])]
  go_enter Tryz.func17, Tryz.ntmps17
  go_wp2_with (fail)
  go_ret2
  rw [HE.out]
  exact ⟨rfl, HF1.out⟩
 by_cases c4 : 65535 < x
 ·have HE : Hid (encodeP ⟨id, p, x, inp⟩ = (⟨#[]⟩, 1)) := by unfold Hid encodeP badJ; rw [if_pos (by simp [c4])]
  go_enter Tryz.func17, Tryz.ntmps17
  go_wp2_with (fail)
  go_ret2
  rw [HE.out]
  exact ⟨rfl, HF1.out⟩
 have hbj : badJ ⟨id, p, x, inp⟩ = false := by unfold badJ; simp only [Bool.or_eq_false_iff, decide_eq_false_iff_not]; exact ⟨⟨⟨c1, c2⟩, c3⟩, c4⟩
 by_cases c5 : 60000 < inp.size
 ·have HE : Hid (encodeP ⟨id, p, x, inp⟩ = (⟨#[]⟩, 71)) := by unfold Hid encodeP; rw [hbj, if_neg (by simp), if_pos c5]
  have z5 : (60000 : Int) < (inp.size : Int) := by omega
  clear hbj
  go_enter Tryz.func17, Tryz.ntmps17
  go_wp2_with (fail)
  go_ret2
  rw [HE.out]
  exact ⟨rfl, HF1.out⟩
 have HE : Hid (encodeP ⟨id, p, x, inp⟩ = (encJ ⟨id, p, x, inp⟩, 0)) := by unfold Hid encodeP; rw [hbj, if_neg (by simp), if_neg c5]
 have z5 : ¬ (60000 : Int) < (inp.size : Int) := by omega
 obtain ⟨pn, rfl⟩ : ∃ n : Nat, p = n := ⟨p.toNat, by omega⟩
 obtain ⟨xn, rfl⟩ : ∃ n : Nat, x = n := ⟨x.toNat, by omega⟩
 have hms : ∀ W : World, (Instr.makeSlice 113 (.int .i64 11) (.int .i64 11)).run Tryz.prog W = .ok (.slice (some ⟨W.heap.size, 0, none⟩) 11 11) (W.alloc (.cells (encCells id 0) 5)) := fun W => by
  have h := run_makeSlice (P := Tryz.prog) W 113 5 Tryz.t5 (.int .u8 0) Tryz.underlying113 (by kernel_rfl) (by kernel_rfl) .i64 .i64 11 11 (by omega) (Int.le_refl _) (by decide) (by decide) (by decide)
  exact h.trans (congrArg (fun c => Result.ok _ (W.alloc (.cells c 5))) (show madeCells (Value.int .u8 0).cells 11 = encCells id 0 by kernel_rfl))
 have u1 : IntKind.u8.wrap (pn : Int) = (pn : Int) := by rw [IntKind.wrap_u8]; omega
 have u2 : IntKind.u8.wrap (xn : Int) = ((xn % 256 : Nat) : Int) := by rw [IntKind.wrap_u8]; omega
 have u3 : IntKind.u8.wrap ((xn : Int) / 256) = ((xn / 256 : Nat) : Int) := by rw [IntKind.wrap_u8]; omega
 have HEQ : Hid (bl (headL id pn xn) ++ inp = encJ ⟨id, pn, xn, inp⟩) := by unfold Hid encJ; simp only [Int.toNat_natCast]
 have hp1 : 1 ≤ pn := by omega
 have hp5 : pn ≤ 5 := by omega
 have hxn : xn ≤ 65535 := by omega
 have HB1 : Hid (∀ o, ((w.alloc (.cells #[.int .u64 id, .int .i64 pn, .int .i64 xn, .string inp] 42)).alloc o).heap[w.heap.size]? = some (.cells #[.int .u64 id, .int .i64 pn, .int .i64 xn, .string inp] 42 (0, 0))) := Lib.hid (fun o => heap_alloc_old (heap_alloc_at rfl _))
 have HB2 : Hid (∀ o o2, ((w.alloc o2).alloc o).heap[w.heap.size + 1]? = some o) := Lib.hid (fun o o2 => heap_alloc_at (by simp) _)
 have HF2 : Hid (∀ o o2, Fp [] w ((w.alloc o2).alloc o)) := Lib.hid (fun o o2 => (Fp.alloc _ _).alloc' _)
 have hbv := byteV_byteN id
 clear hbj hid hp0 hx0 hx1
 go_enter Tryz.func17, Tryz.ntmps17
 go_wp2_with (fail)
 go_loopg [31] 8 (fun g vi W => ∃ k : Nat, g + k = 8 ∧ vi = .int .i64 k ∧ W.heap[w.heap.size + 1]? = some (.cells (encCells id k) 5 (0, 0)) ∧ W.heap[w.heap.size]? = some (.cells #[.int .u64 id, .int .i64 pn, .int .i64 xn, .string inp] 42 (0, 0)) ∧ Fp [] w W)
 case atStart => exact ⟨0, rfl, rfl, HB2.out _ _, HB1.out _, HF2.out _ _⟩
 case round =>
  obtain ⟨k, hg, rfl, hblk, hbox, hf⟩ := hrel
  have HBLK := Lib.hid hblk
  have HBOX := Lib.hid hbox
  have HF := Lib.hid hf
  have r0 : wr.cell? ⟨w.heap.size, 0, none⟩ = some (.int .u64 id) := cell_of_block hbox 0
  have r3 : wr.cell? ⟨w.heap.size, 3, none⟩ = some (.string inp) := cell_of_block hbox 3
  clear hblk hbox hf
  by_cases hk : k < 8
  ·have q0 : wr.cell? ⟨w.heap.size + 1, k, none⟩ = some (.int .u8 0) := (cell_of_block HBLK.out k).trans (encCells_get id k hk)
   have f0 : wr.frozen? ⟨w.heap.size + 1, k, none⟩ = false := frozen_of_block HBLK.out k
   have HSET := Lib.hid (encCells_set id k hk)
   have HBV := Lib.hid (hbv k)
   clear hbv
   go_wp2_with (fail)
   go_roundg (gk - 1)
   case measure => omega
   case rel =>
    refine ⟨k + 1, by omega, by go_num, ?_, ?_, HF.out.trans (Fp.setCell _ ⟨w.heap.size + 1, k, none⟩ _) (by intro i hi; right; simp at hi; omega)⟩
    ·rw [← HSET.out, HBV.out]
     exact (heap_setCell_same HBLK.out _).trans rfl
    ·exact (heap_setCell_other (by omega) _).trans HBOX.out
  ·obtain rfl : k = 8 := by omega
   have HC0 : Hid (EncC (w.heap.size + 1) w.heap.size w #[.int .u64 id, .int .i64 pn, .int .i64 xn, .string inp] id pn (xn % 256 : Nat) (xn / 256 : Nat) false false false wr) := Lib.hid ⟨by rw [← encCells_full]; exact HBLK.out, HBOX.out, HF.out⟩
   clear hbv
   go_wp2_with (fail)
   refine wp_region_n (fun bb w' => EncC (w.heap.size + 1) w.heap.size w #[.int .u64 id, .int .i64 pn, .int .i64 xn, .string inp] id pn (xn % 256 : Nat) (xn / 256 : Nat) (bb 14) (bb 16) (bb 18) w') (fun _ _ => True) (by kernel_rfl) (by kernel_rfl) ⟨((Fp.drew wr).block _ (heap_lt HC0.out.blk) (by simp)).trans HC0.out.blk, ((Fp.drew wr).block _ (heap_lt HC0.out.box) (by simp)).trans HC0.out.box, HC0.out.fp.drew'⟩ ?_
   iterate 14
    apply nx_plain (fun _ _ h => h) rfl rfl rfl
    ·intro b a w hC hA K hK
     try have h4 := hA.fr 4 rfl
     try have h1 := hA.fr 1 rfl
     try have h47 := hA.eq 3 47 rfl
     try have h48 := hA.eq 4 48 rfl
     try have h50 := hA.eq 6 50 rfl
     try have h51 := hA.eq 7 51 rfl
     try have h53 := hA.eq 9 53 rfl
     try have h54 := hA.eq 10 54 rfl
     try have h55 := hA.eq 11 55 rfl
     try have h44 := hA.eq 0 44 rfl
     have q1 := cell_of_block hC.box 1
     have q2 := cell_of_block hC.box 2
     simp only [List.getElem?_toArray, List.getElem?_cons_succ, List.getElem?_cons_zero] at q1 q2
     simp only [Oper.wp, execOp]; go_simp
     exact hK _ hC trivial
   apply nx_effect (fun _ => True) rfl rfl
   ·intro b a w hC hA K hK
    have h57 := hA.eq 13 57 rfl
    have h49 := hA.eq 5 49 rfl
    have hb := hA.self
    rw [hb] at hC
    have q0 := cell_of_block hC.blk 8
    have f0 := frozen_of_block hC.blk 8
    simp only [tailCells, List.getElem?_toArray, List.getElem?_cons_succ, List.getElem?_cons_zero] at q0
    simp only [Oper.wp, execOp]; go_simp
    exact hK undef _ (EncC.set hC (Nat.le_succ _) rfl) trivial trivial
   apply nx_plain (fun _ _ h => h) rfl rfl rfl
   ·intro b a w hC hA K hK
    have h45 := hA.eq 1 45 rfl
    have q1 := cell_of_block hC.box 1
    have q2 := cell_of_block hC.box 2
    simp only [List.getElem?_toArray, List.getElem?_cons_succ, List.getElem?_cons_zero] at q1 q2
    simp only [Oper.wp, execOp]; go_simp
    exact hK _ hC trivial
   apply nx_effect (fun _ => True) rfl rfl
   ·intro b a w hC hA K hK
    have h58 := hA.eq 15 58 rfl
    have h52 := hA.eq 8 52 rfl
    have hb := hA.self
    rw [hb] at hC
    have q0 := cell_of_block hC.blk 9
    have f0 := frozen_of_block hC.blk 9
    simp only [tailCells, List.getElem?_toArray, List.getElem?_cons_succ, List.getElem?_cons_zero] at q0
    simp only [Oper.wp, execOp]; go_simp
    exact hK undef _ (EncC.set hC (Nat.le_succ _) rfl) trivial trivial
   apply nx_plain (fun _ _ h => h) rfl rfl rfl
   ·intro b a w hC hA K hK
    have h46 := hA.eq 2 46 rfl
    have q1 := cell_of_block hC.box 1
    have q2 := cell_of_block hC.box 2
    simp only [List.getElem?_toArray, List.getElem?_cons_succ, List.getElem?_cons_zero] at q1 q2
    simp only [Oper.wp, execOp]; go_simp
    exact hK _ hC trivial
   apply nx_effect (fun _ => True) rfl rfl
   ·intro b a w hC hA K hK
    have h59 := hA.eq 17 59 rfl
    have h56 := hA.eq 12 56 rfl
    have hb := hA.self
    rw [hb] at hC
    have q0 := cell_of_block hC.blk 10
    have f0 := frozen_of_block hC.blk 10
    simp only [tailCells, List.getElem?_toArray, List.getElem?_cons_succ, List.getElem?_cons_zero] at q0
    simp only [Oper.wp, execOp]; go_simp
    exact hK undef _ (EncC.set hC (Nat.le_succ _) rfl) trivial trivial
   refine ⟨?_, ?_⟩
   ·refine ⟨fun _ _ _ _ _ => trivial, ?_⟩
    refine stabN_val _ ?_
    refine ⟨fun _ _ _ _ _ => trivial, ?_⟩
    refine stabN_val _ ?_
    refine ⟨fun _ _ _ _ _ => trivial, ?_⟩
    iterate 14 refine stabN_val _ ?_
    exact trivial
   ·intro wa bb hC hbb
    simp only [List.reverse_cons, List.reverse_nil, List.nil_append, List.cons_append]
    iterate 14 (refine all_val ?_)
    refine all_some ?_
    intro v14 u14
    iterate 1 (refine all_val ?_)
    refine all_some ?_
    intro v16 u16
    iterate 1 (refine all_val ?_)
    refine all_some ?_
    intro v18 u18
    refine all_nil ?_
    simp only [putAll, Act.put, List.setIfInBounds_toArray, List.set_cons_succ, List.set_cons_zero]
    have hC2 := hC
    rw [hbb 14 (by decide), hbb 16 (by decide), hbb 18 (by decide)] at hC2
    have HC := Lib.hid hC2
    have r4 : wa.cell? ⟨w.heap.size, 3, none⟩ = some (.string inp) := cell_of_block hC2.box 3
    have hcv : (convert 113 9 (.slice (some ⟨w.heap.size + 1, 0, none⟩) 11 11)).run Tryz.prog wa = .ok (.string (bl (headL id pn xn))) wa := by
     refine (str_of_brow (cap := 11) (f := fun t => (headL id pn xn).getD t 0) ⟨heap_lt hC2.blk, fun j hj => ?_, fun j _ => frozen_of_block hC2.blk j⟩).trans ?_
     ·rw [cell_of_block hC2.blk]
      have h11 : j = 0 ∨ j = 1 ∨ j = 2 ∨ j = 3 ∨ j = 4 ∨ j = 5 ∨ j = 6 ∨ j = 7 ∨ j = 8 ∨ j = 9 ∨ j = 10 := by omega
      have b8 : byteV (UInt8.ofNat pn) = .int .u8 (pn : Int) := by unfold byteV; rw [UInt8.toNat_ofNat', Nat.mod_eq_of_lt (by omega)]
      have b9 : byteV (UInt8.ofNat xn) = .int .u8 ((xn % 256 : Nat) : Int) := by unfold byteV; rw [UInt8.toNat_ofNat']
      have b10 : byteV (UInt8.ofNat (xn / 256)) = .int .u8 ((xn / 256 : Nat) : Int) := by unfold byteV; rw [UInt8.toNat_ofNat', Nat.mod_eq_of_lt (by omega)]
      rcases h11 with rfl | rfl | rfl | rfl | rfl | rfl | rfl | rfl | rfl | rfl | rfl
      ·rfl
      ·rfl
      ·rfl
      ·rfl
      ·rfl
      ·rfl
      ·rfl
      ·rfl
      ·exact congrArg some b8.symm
      ·exact congrArg some b9.symm
      ·exact congrArg some b10.symm
     ·rfl
    have hsz : (bl (headL id pn xn)).size = 11 := by rw [bl_size, headL_length]
    obtain ⟨hs, hhs⟩ : ∃ s, bl (headL id pn xn) = s := ⟨_, rfl⟩
    rw [hhs] at hcv hsz HEQ
    have zno : ¬ hs.size + inp.size > 9223372036854775807 := by omega
    clear hC hbb hC2 hhs hsz
    go_wp2_with (fail)
    go_ret2
    rw [HE.out, ← HEQ.out]
    exact ⟨rfl, HC.out.fp⟩
end
end Go.Proofs.YtkagolpnaicdoaaGreatDoor
