/-
 'out[k] = append(out[k], row...)', out a list of lists of cells: the class of worlds on the way (for XRegionV). cut.Roll: plain. A region that only reads, or leaves what was there as it was, in the round of a range over a function (XRegion's calm law). Over any program.
-/
import Derived.Test.YtkagolpnaicdoaaGreatDoorSMrgK
import Derived.Test.YtkagolpnaicdoaaGreatDoorSTabG
import Derived.Test.YtkagolpnaicdoaaGreatDoorSCutC
import Derived.Test.YtkagolpnaicdoaaGreatDoorSRegionG
set_option maxRecDepth 100000
set_option maxHeartbeats 8000000
namespace Go.Proofs.YtkagolpnaicdoaaGreatDoor
section
open Go.RowKit Go.Lib
theorem wp_append_cels_at {w : World} {o : Oper} {a : Act} {K : Act → World → Prop} {Q : Exit → Act → World → Prop} (s x : Operand)
  (ho : o.op = .call { callee := .builtin .append, args := #[s, x], argTypes := #[78, 78] }) (base : Nat) (v : Value) (l : List Cel) (hs : a.eval s = v) (hown : OwnC w base v l)
  (ad : Addr) (m c : Nat) (ls : List Cel) (hx : a.eval x = .slice (some ad) m c) (hl : CelsAt w (some ad) m ls) (hlen : l.length + ls.length ≤ 1000000000) (hbase : base ≤ w.heap.size)
  (h : ∀ v' w', OwnC w' base v' (l ++ ls) → w.grownBy w' v.ownBlock → Below base w w' → (v'.ownBlock = v.ownBlock ∨ v'.ownBlock = some w.heap.size) → K (a.put o.dst v') w') : o.wp Tryz.prog a w K Q := by
 obtain ⟨i0, hi, hz0, hz1, hz2⟩ := info_parts Tryz.infoCel
 have hm := hl.len
 have hnews : ∀ j u, (ls.flatMap celRow)[j]? = some u → w.cell? (ad.add j) = some u := by
  intro j u hu
  rcases hl.cells with h0 | ⟨b, o, h0, _, hc⟩
  ·subst h0; simp at hu
  ·obtain rfl := Option.some.inj h0
   have e1 : (⟨b, o, none⟩ : Addr).add j = ⟨b, o + j, none⟩ := by unfold Addr.add; split <;> simp_all
   rw [e1]
   exact flat_all hc j u hu
 obtain ⟨v', w', hr, h1, h2, _, h3⟩ := run_append_own_at (P := Tryz.prog) w base 78 o.type 80 i0 _ 6 72 Tryz.underlying78 hi hz0 hz1 hz2 rfl (by decide) v l.length (l.flatMap celRow) hown ad m c (ls.flatMap celRow) (by rw [flat_len, hm]) hnews (cels_oneCell ls) (by unfold maxLen; omega) (by omega) hbase
 unfold Oper.wp execOp
 simp only [ho, resolve, invoke, builtin, Sem.run_bind, Sem.run_pure, Result.andThen_ok, List.map_toArray, List.map_cons, List.map_nil, hs, hx, hr]
 refine h v' w' ?_ h2 (grown_belowC hown h2 hbase) h3
 unfold OwnC
 rw [List.length_append, List.flatMap_append, ← hm]
 exact h1
theorem kept_grownT {D T : TypeId} {w w' : World} {base : Nat} {k : Option Nat} (hk : ∀ q, k = some q → base ≤ q ∧ ∃ c fz, w.heap[q]? = some (.cells c T fz)) (hg : w.grownBy w' k) (hD : D ≠ T) : Kept D base [] w w' := by
 refine ⟨hg.size, fun q h1 h2 _ => hg.block q h2 fun e => by have := (hk q e.symm).1; omega, fun q c fz _ h2 => hg.block q (heap_lt h2) fun e1 => ?_⟩
 obtain ⟨_, c2, fz2, h3⟩ := hk q e1.symm
 rw [h3] at h2
 cases h2
 exact hD rfl
theorem OwnC.typed {w : World} {base : Nat} {v : Value} {l : List Cel} (h : OwnC w base v l) : ∀ q, v.ownBlock = some q → base ≤ q ∧ ∃ c fz, w.heap[q]? = some (.cells c 80 fz) := by
 intro q hq
 rcases h.2 with ⟨rfl, _⟩ | ⟨g, cap, cur, rfl, hg, hh, _⟩
 ·cases hq
 ·obtain rfl : g = q := by simpa [Value.ownBlock] using hq
  exact ⟨hg, _, _, hh⟩
theorem kept_setCell {D T : TypeId} {w : World} {base g k : Nat} {c : Array Value} {fz : Nat × Nat} {x : Value} (h : w.heap[g]? = some (.cells c T fz)) (hD : D ≠ T) (hg : base ≤ g) : Kept D base [] w (w.setCell ⟨g, k, none⟩ x) := by
 have hf : Fp [g] w (w.setCell ⟨g, k, none⟩ x) := Fp.setCell w ⟨g, k, none⟩ x
 refine ⟨hf.size, fun q h1 h2 _ => hf.block q h2 (by simp; omega), fun q c2 fz2 h1 h2 => hf.block q (heap_lt h2) ?_⟩
 simp only [List.mem_cons, List.not_mem_nil, or_false]
 rintro rfl
 rw [h] at h2
 cases h2
 exact hD rfl
structure LastC (w W0 : World) (base g k : Nat) (cur : Array Value) (vals : List Value) (xs : List (List Cel)) (last row : List Cel) (u : Value) (ia is : Nat) (b : Nat → Bool) (vs : Nat → Value) (W : World) : Prop where
 fp : Fp [] w W
 kept : ∀ D, D ≠ 80 → D ≠ 78 → Kept D base [] W0 W
 outer : W.heap[g]? = some (.cells (if b is = true then cur.setIfInBounds k (vs ia) else cur) 78 (0, 0))
 oth : ∀ i (h1 : i < vals.length) (h2 : i < xs.length), i ≠ k → OwnC W base vals[i] xs[i]
 last0 : b ia = false → OwnC W base u last
 res : b ia = true → OwnC W base (vs ia) (last ++ row) ∧ ((vs ia).ownBlock = u.ownBlock ∨ ∀ q, (vs ia).ownBlock = some q → W0.heap.size ≤ q)
 o97 : b is = true → b ia = true
 sz : base ≤ W.heap.size
variable {w W0 W W2 : World} {base g k : Nat} {cur : Array Value} {vals : List Value} {xs : List (List Cel)} {last row : List Cel} {u : Value} {ia is : Nat} {b : Nat → Bool} {vs : Nat → Value}
theorem LastC.start {vs : Nat → Value} (hf : Fp [] w W0) (hg : W0.heap[g]? = some (.cells cur 78 (0, 0))) (ho : ∀ i (h1 : i < vals.length) (h2 : i < xs.length), i ≠ k → OwnC W0 base vals[i] xs[i]) (hl : OwnC W0 base u last) (hb : base ≤ W0.heap.size) : LastC w W0 base g k cur vals xs last row u ia is (fun _ => false) vs { W0 with drawn := W0.drawn + 1 } :=
 ⟨hf.trans (Fp.drew W0) (by simp), fun _ _ _ => Kept.of (Fp.drew W0) (by simp), hg, fun i h1 h2 h3 => (ho i h1 h2 h3).fp (Fp.drew W0) (by simp), fun _ => hl.fp (Fp.drew W0) (by simp), (fun h => by cases h), (fun h => by cases h), hb⟩
theorem LastC.plain {j : Nat} {x : Value} (h : LastC w W0 base g k cur vals xs last row u ia is b vs W) (hj : j ≠ ia ∧ j ≠ is) : LastC w W0 base g k cur vals xs last row u ia is (upd b j) (updV vs j x) W := by
 obtain ⟨h1, h2⟩ := hj
 refine ⟨h.fp, h.kept, ?_, h.oth, ?_, ?_, ?_, h.sz⟩
 ·rw [upd_ne h2.symm, updV_ne h1.symm]; exact h.outer
 ·rw [upd_ne h1.symm]; exact h.last0
 ·rw [upd_ne h1.symm, updV_ne h1.symm]; exact h.res
 ·rw [upd_ne h1.symm, upd_ne h2.symm]; exact h.o97
theorem LastC.first (h : LastC w W0 base g k cur vals xs last row u ia is b vs W) (h7 : b ia = false) : W.heap[g]? = some (.cells cur 78 (0, 0)) := by
 have := h.outer
 rw [not_of h.o97 h7] at this
 exact this
theorem LastC.append {v' : Value} (h : LastC w W0 base g k cur vals xs last row u ia is b vs W) (hne : ia ≠ is) (h7 : b ia = false) (ho : OwnC W2 base v' (last ++ row)) (hgr : W.grownBy W2 u.ownBlock) (hb : Below base W W2) (hat : v'.ownBlock = u.ownBlock ∨ v'.ownBlock = some W.heap.size) (hwb : w.heap.size ≤ base)
  (hsep : ∀ i (h1 : i < vals.length), i ≠ k → ∀ q, vals[i].ownBlock = some q → u.ownBlock ≠ some q) : LastC w W0 base g k cur vals xs last row u ia is (upd b ia) (updV vs ia v') W2 := by
 have h9 := not_of h.o97 h7
 have hty := (h.last0 h7).typed
 have hsz0 : W0.heap.size ≤ W.heap.size := (h.kept 0 (by decide) (by decide)).size
 refine ⟨h.fp.belowTrans (hb.mono hwb), fun D h1 h2 => (h.kept D h1 h2).trans (kept_grownT hty hgr h1) (by simp), ?_, fun i h1 h2 h3 => (h.oth i h1 h2 h3).kept fun q hq => hgr.block q ((h.oth i h1 h2 h3).lt q hq).2 (fun e => hsep i h1 h3 q hq e.symm), (fun e => by rw [upd_at] at e; cases e), fun _ => ?_, fun e => ?_, Nat.le_trans h.sz hb.size⟩
 ·rw [upd_ne hne.symm, h9]
  have h6 := h.first h7
  refine (hgr.block g (heap_lt h6) fun e => ?_).trans h6
  obtain ⟨_, c, fz, h8⟩ := hty g e.symm
  rw [h6] at h8
  cases h8
 ·rw [updV_at]
  refine ⟨ho, ?_⟩
  rcases hat with e | e
  ·exact Or.inl e
  ·refine Or.inr fun q hq => ?_
   rw [e] at hq
   cases hq
   exact hsz0
 ·rw [upd_ne hne.symm, h9] at e; cases e
theorem LastC.store {y : Value} (h : LastC w W0 base g k cur vals xs last row u ia is b vs W) (hne : ia ≠ is) (h7 : b ia = true) (h9 : b is = false) (hg : base ≤ g) (hwb : w.heap.size ≤ base) (hy : vs ia = y) : LastC w W0 base g k cur vals xs last row u ia is (upd b is) (updV vs is undef) (W.setCell ⟨g, k, none⟩ y) := by
 have hou := h.outer
 rw [h9] at hou
 have hf : Fp [g] W (W.setCell ⟨g, k, none⟩ y) := Fp.setCell W ⟨g, k, none⟩ y
 have hkc : Kept 80 base [] W (W.setCell ⟨g, k, none⟩ y) := kept_setCell hou (by decide) hg
 refine ⟨h.fp.trans hf (by intro i hi; right; simp at hi; omega), fun D h1 h2 => (h.kept D h1 h2).trans (kept_setCell hou h2 hg) (by simp), ?_, fun i h1 h2 h3 => (h.oth i h1 h2 h3).keptT hkc, fun e => ?_, fun _ => ?_, fun _ => ?_, Nat.le_trans h.sz hf.size⟩
 ·rw [upd_at, updV_ne hne, hy]
  exact (heap_setCell_same hou _).trans rfl
 ·rw [upd_ne hne, h7] at e; cases e
 ·rw [updV_ne hne]
  obtain ⟨h1, h2⟩ := h.res h7
  exact ⟨h1.keptT hkc, h2⟩
 ·rw [upd_ne hne]; exact h7
theorem All2.of_nth {α β : Type} {P : α → β → Prop} : ∀ (l : List α) (m : List β), l.length = m.length → (∀ i (h1 : i < l.length) (h2 : i < m.length), P l[i] m[i]) → All2 P l m
 |[], [], _, _ => .nil
 |[], _ :: _, h, _ => by cases h
 |_ :: _, [], h, _ => by cases h
 |x :: l, y :: m, hl, h => .cons (h 0 (Nat.zero_lt_succ _) (Nat.zero_lt_succ _)) (All2.of_nth l m (by simpa using hl) fun i h1 h2 => h (i + 1) (Nat.succ_lt_succ h1) (Nat.succ_lt_succ h2))
theorem LastC.done {cap : Nat} {v : Value} (h : LastC w W0 base g k cur vals xs last row u ia is b vs W) (h7 : b ia = true) (h9 : b is = true) (hv : v = .slice (some ⟨g, 0, none⟩) vals.length cap) (hg : base ≤ g) (hvc : vals.length ≤ cap) (hcm : cap ≤ maxLen) (hcs : cur.size = cap * 1) (ht : cur.toList.take (vals.length * 1) = vals) (hl : vals.length = xs.length) (hk : k < vals.length) (hku : vals[k] = u) (hsep : SepB vals)
  (hlt : ∀ i (h1 : i < vals.length), ∀ q, vals[i].ownBlock = some q → q < W0.heap.size) : OwnL celL W base v (xs.set k (last ++ row)) := by
 have hou := h.outer
 rw [h9, if_pos rfl] at hou
 obtain ⟨ho, hat⟩ := h.res h7
 refine ⟨vals.set k (vs ia), ?_, ?_, ?_⟩
 ·unfold OwnR
  refine ⟨by simp, Or.inr ⟨g, cap, cur.setIfInBounds k (vs ia), by rw [List.length_set]; exact hv, hg, hou, by rw [List.length_set]; exact hvc, hcm, by rw [Array.size_setIfInBounds]; exact hcs, ?_⟩⟩
  rw [Array.toList_setIfInBounds, List.length_set, List.take_set, ht]
 ·refine All2.of_nth _ _ (by rw [List.length_set, List.length_set, hl]) fun i h1 h2 => ?_
  rw [List.length_set] at h1 h2
  rw [List.getElem_set, List.getElem_set]
  by_cases e : k = i
  ·rw [if_pos e, if_pos e]; exact ho
  ·rw [if_neg e, if_neg e]; exact h.oth i h1 h2 (fun e2 => e e2.symm)
 ·have hs2 := List.pairwise_iff_getElem.1 hsep
  refine List.pairwise_iff_getElem.2 fun i j h1 h2 hij q hq hq2 => ?_
  rw [List.length_set] at h1 h2
  rw [List.getElem_set] at hq hq2
  by_cases e : k = i
  ·rw [if_pos e] at hq
   rw [if_neg (by omega)] at hq2
   rcases hat with e2 | e2
   ·rw [e2, ← hku] at hq
    subst e
    exact hs2 k j h1 h2 hij q hq hq2
   ·have := e2 q hq
    have := hlt j h2 q hq2
    omega
  ·rw [if_neg e] at hq
   by_cases e3 : k = j
   ·rw [if_pos e3] at hq2
    rcases hat with e2 | e2
    ·rw [e2, ← hku] at hq2
     subst e3
     exact hs2 i k h1 h2 hij q hq hq2
    ·have := e2 q hq2
     have := hlt i h1 q hq
     omega
   ·rw [if_neg e3] at hq2
    exact hs2 i j h1 h2 hij q hq hq2
end
section
open Go.RowKit Go.Lib
def cutC (l : List Cel) (x : Nat × Nat) : List Cel := (l.drop x.1).take x.2
def rollStep (most : Nat) (xs : List (List Cel)) (row : List Cel) : List (List Cel) := if 0 < xs.length ∧ (xs.getD (xs.length - 1) []).length + row.length ≤ most then xs.set (xs.length - 1) (xs.getD (xs.length - 1) [] ++ row) else xs ++ [row]
def rollF (most : Nat) (l : List Cel) (pre : List (Nat × Nat)) : List (List Cel) := pre.foldl (fun xs x => rollStep most xs (cutC l x)) []
def rollP (l : List Cel) (most : Nat) : List (List Cel) := rollF most l (crowP l 0 0)
theorem rollF_snoc (most : Nat) (l : List Cel) (pre : List (Nat × Nat)) (x : Nat × Nat) : rollF most l (pre ++ [x]) = rollStep most (rollF most l pre) (cutC l x) := by
 unfold rollF
 rw [List.foldl_append]
 rfl
theorem rollStep_yes {most : Nat} {xs : List (List Cel)} {row : List Cel} (h : 0 < xs.length) (h2 : (xs.getD (xs.length - 1) []).length + row.length ≤ most) : rollStep most xs row = xs.set (xs.length - 1) (xs.getD (xs.length - 1) [] ++ row) := if_pos ⟨h, h2⟩
theorem rollStep_no {most : Nat} {xs : List (List Cel)} {row : List Cel} (h : ¬ (0 < xs.length ∧ (xs.getD (xs.length - 1) []).length + row.length ≤ most)) : rollStep most xs row = xs ++ [row] := if_neg h
theorem rollStep_len (most : Nat) (xs : List (List Cel)) (row : List Cel) : (rollStep most xs row).length ≤ xs.length + 1 := by
 unfold rollStep
 split
 ·simp
 ·simp
theorem rollStep_flat (most : Nat) (xs : List (List Cel)) (row : List Cel) : (rollStep most xs row).flatten = xs.flatten ++ row := by
 unfold rollStep
 split
 ·rename_i h
  obtain ⟨h, _⟩ := h
  rcases List.eq_nil_or_concat xs with rfl | ⟨ys, y, rfl⟩
  ·simp at h
  ·rw [List.concat_eq_append]
   have e : (ys ++ [y]).length - 1 = ys.length := by simp
   rw [e, List.getD_eq_getElem?_getD, List.getElem?_append_right (Nat.le_refl _), Nat.sub_self]
   simp
 ·simp
theorem rollF_flat_from (most : Nat) (l : List Cel) : ∀ (pre : List (Nat × Nat)) (xs : List (List Cel)), (pre.foldl (fun xs x => rollStep most xs (cutC l x)) xs).flatten = xs.flatten ++ (pre.map (cutC l)).flatten
 |[], xs => by simp
 |x :: pre, xs => by
  rw [List.foldl_cons, rollF_flat_from most l pre, rollStep_flat]
  simp
theorem rollF_flat (most : Nat) (l : List Cel) (pre : List (Nat × Nat)) : (rollF most l pre).flatten = (pre.map (cutC l)).flatten := by
 unfold rollF
 rw [rollF_flat_from]
 simp
theorem rollF_len_from (most : Nat) (l : List Cel) : ∀ (pre : List (Nat × Nat)) (xs : List (List Cel)), (pre.foldl (fun xs x => rollStep most xs (cutC l x)) xs).length ≤ xs.length + pre.length
 |[], xs => by simp
 |x :: pre, xs => by
  rw [List.foldl_cons, List.length_cons]
  have := rollF_len_from most l pre (rollStep most xs (cutC l x))
  have := rollStep_len most xs (cutC l x)
  omega
theorem rollF_len (most : Nat) (l : List Cel) (pre : List (Nat × Nat)) : (rollF most l pre).length ≤ pre.length := by
 have := rollF_len_from most l pre []
 rw [List.length_nil, Nat.zero_add] at this
 exact this
theorem crowP_mem (l : List Cel) (fr i : Nat) (hf : fr ≤ i) : ∀ x ∈ crowP l fr i, x.1 + x.2 ≤ l.length ∧ 0 < x.2 := by
 intro x hx
 by_cases h : i < l.length
 ·cases he : endsRow l i
  ·rw [crowP_no h he] at hx
   exact crowP_mem l fr (i + 1) (by omega) x hx
  ·rw [crowP_yes h he] at hx
   rcases List.mem_cons.1 hx with rfl | hx
   ·simp only; omega
   ·exact crowP_mem l (i + 1) (i + 1) (Nat.le_refl _) x hx
 ·rw [crowP_nil h] at hx; cases hx
 termination_by l.length - i
theorem crowP_length (l : List Cel) (fr i : Nat) : (crowP l fr i).length ≤ l.length - i := by
 by_cases h : i < l.length
 ·cases he : endsRow l i
  ·rw [crowP_no h he]
   have := crowP_length l fr (i + 1)
   omega
  ·rw [crowP_yes h he, List.length_cons]
   have := crowP_length l (i + 1) (i + 1)
   omega
 ·rw [crowP_nil h]; exact Nat.zero_le _
 termination_by l.length - i
theorem endsRow_last {l : List Cel} {i : Nat} (h : ¬ i + 1 < l.length) : endsRow l i = true := by
 unfold endsRow
 rw [decide_eq_false h]
 rfl
theorem crowP_flat (l : List Cel) (fr i : Nat) (hf : fr ≤ i) (hi : i < l.length ∨ fr = i) : ((crowP l fr i).map (cutC l)).flatten = l.drop fr := by
 by_cases h : i < l.length
 ·cases he : endsRow l i
  ·rw [crowP_no h he]
   have h1 : i + 1 < l.length := by
    by_cases h1 : i + 1 < l.length
    ·exact h1
    ·rw [endsRow_last h1] at he; cases he
   exact crowP_flat l fr (i + 1) (by omega) (Or.inl h1)
  ·rw [crowP_yes h he, List.map_cons, List.flatten_cons, crowP_flat l (i + 1) (i + 1) (Nat.le_refl _) (Or.inr rfl)]
   unfold cutC
   simp only
   rw [show l.drop (i + 1) = (l.drop fr).drop (i + 1 - fr) by rw [List.drop_drop]; congr 1; omega]
   exact List.take_append_drop _ _
 ·rw [crowP_nil h]
  obtain rfl : fr = i := by omega
  rw [List.drop_eq_nil_of_le (by omega)]
  rfl
 termination_by l.length - i
theorem rows_bound {l : List Cel} {pre post : List (Nat × Nat)} {x : Nat × Nat} (most : Nat) (h : crowP l 0 0 = pre ++ x :: post) : (rollF most l pre).flatten.length + (cutC l x).length ≤ l.length := by
 have h1 := crowP_flat l 0 0 (Nat.le_refl _) (Or.inr rfl)
 rw [h, List.map_append, List.map_cons, List.flatten_append, List.flatten_cons] at h1
 have h2 := congrArg List.length h1
 rw [List.length_append, List.length_append, List.drop_zero] at h2
 rw [rollF_flat]
 omega
theorem flatten_mem_len {xs : List (List Cel)} {x : List Cel} (h : x ∈ xs) : x.length ≤ xs.flatten.length := by
 obtain ⟨s, t, rfl⟩ := List.append_of_mem h
 simp
 omega
theorem OwnL.opened {W : World} {base : Nat} {v : Value} {xs : List (List Cel)} (h : OwnL celL W base v xs) (h0 : 0 < xs.length) : ∃ g cap cur vals, v = .slice (some ⟨g, 0, none⟩) vals.length cap ∧ base ≤ g ∧ W.heap[g]? = some (.cells cur 78 (0, 0)) ∧ vals.length ≤ cap ∧ cap ≤ maxLen ∧ cur.size = cap * 1 ∧ cur.toList.take (vals.length * 1) = vals ∧ vals.length = xs.length ∧ (∀ i (h1 : i < vals.length) (h2 : i < xs.length), OwnC W base vals[i] xs[i]) ∧ SepB vals := by
 obtain ⟨vals, h1, h2, h3⟩ := h
 have hl := h2.length_eq
 rcases h1.2 with ⟨_, h4⟩ | ⟨g, cap, cur, hv, hg, hh, hc, hm, hs, ht⟩
 ·omega
 ·exact ⟨g, cap, cur, vals, hv, hg, hh, hc, hm, hs, ht, hl, fun i h1 h2' => h2.nth i h1 h2', h3⟩
end
section
open Go.RowKit
section
variable {P : Program} {l : List Oper}
theorem rel_anyG {Ss : List (World → Value → Prop)} {C : World → Prop} {R : World → World → Prop} {a0 : Act} {Qn : Act → World → Prop} (hl : Ss.length = l.length) (hform : relForm l a0.tmps.size = true)
  (stab : ∀ S ∈ Ss, ∀ w w' v, C w → R w w' → S w v → S w' v) (rel : ∀ i, i < l.length → RelOp P l Ss C R a0 i)
  (fin : ∀ a w listed, RelInv l Ss C a0 listed a w → (∀ j, j < l.length → listed.getD j false = true) → Qn a w) :
  ∀ (fuel : Nat) (listed : Array Bool) (a : Act) (w : World), unlisted listed = fuel → RelInv l Ss C a0 listed a w → wpAnyG P l Qn fuel listed a w := by
 intro fuel
 induction fuel with
 |zero =>
  intro listed a w hu inv
  have hall := unlisted_zero hu
  rw [inv.size] at hall
  refine ⟨?_, fin a w listed inv hall⟩
  apply List.eq_nil_iff_forall_not_mem.2
  intro j hj
  obtain ⟨h1, o, ho, _⟩ := mem_ready.1 hj
  have hlt : j < l.length := by simpa using (Array.getElem?_eq_some_iff.1 ho).1
  have h2 := hall j hlt
  have hls : j < listed.size := by rw [inv.size]; exact hlt
  simp [hls] at h1 h2
  rw [h1] at h2
  cases h2
 |succ fuel ih =>
  intro listed a w hu inv
  refine ⟨fun hr => ?_, fun i hi => ?_⟩
  ·-- something is ready as long as not all is listed
   exfalso
   have hex : ∃ j, j < l.length ∧ listed.getD j false = false := by
    by_cases hex : ∃ j, j < l.length ∧ listed.getD j false = false
    ·exact hex
    ·exfalso
     have hall : ∀ j, j < l.length → listed.getD j false = true := fun j hj => by
      cases h : listed.getD j false
      ·exact absurd ⟨j, hj, h⟩ hex
      ·rfl
     have : unlisted listed = 0 := by
      unfold unlisted
      rw [List.length_eq_zero_iff, List.filter_eq_nil_iff]
      intro b hb
      obtain ⟨j, hj, rfl⟩ := List.getElem_of_mem hb
      have hj' : j < listed.size := by simpa using hj
      have := hall j (by rw [← inv.size]; exact hj')
      simp [hj'] at this ⊢
      exact this
     omega
   obtain ⟨j, hj, hleast⟩ : ∃ j, (j < l.length ∧ listed.getD j false = false) ∧ ∀ k, k < j → ¬ (k < l.length ∧ listed.getD k false = false) := by
    obtain ⟨j0, h0⟩ := hex
    induction j0 using Nat.strongRecOn with
    |_ n ih2 =>
     by_cases hk : ∃ k, k < n ∧ (k < l.length ∧ listed.getD k false = false)
     ·obtain ⟨k, hk1, hk2⟩ := hk
      exact ih2 k hk1 hk2
     ·exact ⟨n, h0, fun k hk1 hk2 => hk ⟨k, hk1, hk2⟩⟩
   have hjs : j < listed.size := by rw [inv.size]; exact hj.1
   have : j ∈ Region.ready .any l.toArray listed := by
    refine mem_ready.2 ⟨by have := hj.2; simp [hjs] at this ⊢; exact this, l[j], by simp [hj.1], fun e he hb => ?_⟩
    have hlt := relForm_edge hform (List.getElem?_eq_getElem hj.1) e he hb
    cases h : listed.getD e.on false
    ·exact absurd ⟨by omega, h⟩ (hleast e.on hlt)
    ·rfl
   rw [hr] at this
   cases this
  ·obtain ⟨h1, o, ho, hpre⟩ := mem_ready.1 hi
   have ho' : l[i]? = some o := by simpa using ho
   have hlt : i < l.length := (List.getElem?_eq_some_iff.1 ho').1
   have hls : i < listed.size := by rw [inv.size]; exact hlt
   obtain ⟨S, hS⟩ : ∃ S, Ss[i]? = some S := ⟨Ss[i]'(by omega), List.getElem?_eq_getElem (by omega)⟩
   have hr := rel i hlt o S ho' hS a w inv.cls inv.tmps inv.same (fun e he hb oe Se hoe hSe => inv.done e.on oe Se hoe hSe (hpre e he hb))
   have hnext : ∀ v w2, C w2 → (∀ S' ∈ Ss, ∀ v, S' w v → S' w2 v) → S w2 (match o.dst with | some _ => v | none => undef) → wpAnyG P l Qn fuel (listed.setIfInBounds i true) (a.put o.dst v) w2 := by
    intro v w2 hC hst hv
    refine ih _ _ _ (by have := unlisted_set hls h1; omega) ⟨by simp [inv.size], by rw [put_defers]; exact inv.defers, by rw [put_size]; exact inv.tmps, ?_, ?_, hC⟩
    ·intro j oj Sj hj hSj hlj
     by_cases hij : i = j
     ·subst hij
      rw [ho'] at hj; cases hj
      rw [hS] at hSj; cases hSj
      unfold valOf
      cases hd : o.dst with
      |none => rw [hd] at hv; exact hv
      |some d =>
       rw [hd] at hv
       simp only
       rw [put_getD_same (by rw [inv.tmps]; exact (relForm_dst hform ho' hd).1)]
       exact hv
     ·rw [getD_set_ne false hij] at hlj
      have h2 := hst Sj (List.mem_of_getElem? hSj) _ (inv.done j oj Sj hj hSj hlj)
      have : valOf oj (a.put o.dst v) = valOf oj a := by
       unfold valOf
       cases hdj : oj.dst with
       |none => rfl
       |some d =>
        simp only
        refine put_getD_other fun hd => ?_
        exact (relForm_dst hform ho' hd).2 j oj hj (Ne.symm hij) hdj
      rw [this]
      exact h2
    ·intro t ht
     rw [put_getD_other (ht o (List.mem_of_getElem? ho'))]
     exact inv.same t ht
   refine ⟨o, ho', ?_⟩
   split
   ·rename_i hw
    rw [if_pos hw] at hr
    refine (wp_mono_both (fun a2 w2 h => ?_) (fun _ _ _ h => h.elim) hr)
    obtain ⟨v, rfl, hC, hR, hv⟩ := h
    exact hnext v w2 hC (fun S' hS' v hv => stab S' hS' w w2 v inv.cls hR hv) hv
   ·rename_i hw
    rw [if_neg hw] at hr
    refine hnext undef w inv.cls (fun _ _ _ h => h) ?_
    cases o.dst <;> exact hr
theorem region_relG {Qn : Act → World → Prop} {a0 : Act} {w0 : World} (Ss : List (World → Value → Prop)) (C : World → Prop) (R : World → World → Prop)
  (hl : Ss.length = l.length) (hform : relForm l a0.tmps.size = true) (hC : C { w0 with drawn := w0.drawn + 1 })
  (stab : ∀ S ∈ Ss, ∀ w w' v, C w → R w w' → S w v → S w' v) (rel : ∀ i, i < l.length → RelOp P l Ss C R a0 i)
  (fin : ∀ vs w, C w → relAll w Ss vs → Qn (putAll l vs a0) w) : wpAnyG P l Qn l.toArray.size (Array.replicate l.toArray.size false) a0 { w0 with drawn := w0.drawn + 1 } := by
 refine (rel_anyG hl hform stab rel ?_ _ _ _ _ (by simp [unlisted]) ⟨by simp, rfl, rfl, ?_, fun _ _ => rfl, hC⟩)
 ·intro a w listed inv hall
  have hvs := fin (l.map (fun o => valOf o a)) w inv.cls (relAll_of (by simp [hl]) (fun i S v h1 h2 => by
   rw [List.getElem?_map] at h2
   cases ho : l[i]? with
   |none => rw [ho] at h2; cases h2
   |some o =>
    rw [ho] at h2
    simp only [Option.map_some, Option.some.injEq] at h2
    rw [← h2]
    exact inv.done i o S ho h1 (hall i (List.getElem?_eq_some_iff.1 ho).1)))
  have : putAll l (l.map (fun o => valOf o a)) a0 = a := by
   have hdef : (putAll l (l.map (fun o => valOf o a)) a0).defers = a.defers := by rw [putAll_defers, inv.defers]
   have htm : (putAll l (l.map (fun o => valOf o a)) a0).tmps = a.tmps := by
    have hsz : (putAll l (l.map (fun o => valOf o a)) a0).tmps.size = a.tmps.size := by rw [putAll_size, inv.tmps]
    refine Array.ext hsz fun t h1 h2 => ?_
    have hg : (putAll l (l.map (fun o => valOf o a)) a0).tmps.getD t undef = a.tmps.getD t undef := by
     by_cases hex : ∃ o ∈ l, o.dst = some t
     ·obtain ⟨o, ho, hd⟩ := hex
      obtain ⟨i, hi, hio⟩ := List.getElem_of_mem ho
      have hio' : l[i]? = some o := by rw [List.getElem?_eq_getElem hi, hio]
      rw [putAll_at l _ a0 (by simp) (fun i j oi oj d hi hj h1 h2 => by
       by_cases hij : i = j
       ·exact hij
       ·exact absurd h2 ((relForm_dst hform hi h1).2 j oj hj (Ne.symm hij))) (fun o' ho' d hd' => by
       obtain ⟨k, hk, hko⟩ := List.getElem_of_mem ho'
       exact (relForm_dst hform (by rw [List.getElem?_eq_getElem hk, hko]) hd').1) i o (valOf o a) t hio' (by rw [List.getElem?_map, hio']; rfl) hd]
      unfold valOf
      rw [hd]
     ·have hex' : ∀ o ∈ l, o.dst ≠ some t := fun o ho hd => hex ⟨o, ho, hd⟩
      rw [putAll_other l _ a0 t hex', inv.same t hex']
    simpa [h1, h2] using hg
   cases a
   cases h : putAll l (l.map (fun o => valOf o _)) a0
   rw [h] at hdef htm
   simp only at hdef htm
   rw [hdef, htm]
  rw [this] at hvs
  exact hvs
 ·intro j o S _ _ h
  exfalso
  rcases Nat.lt_or_ge j l.length with h' | h'
  ·simp [h'] at h
  ·simp [h'] at h
theorem wpIn_region_each {id lo n : Nat} {Q : Exit → Act → World → Prop} {a0 : Act} {w0 : World} (C : World → Prop) (R : World → World → Prop)
  (hm : P.follows .mixedOrders = true) (hd : noDefer l = true) (hform : relForm l a0.tmps.size = true) (hC : C { w0 with drawn := w0.drawn + 1 })
  (h : relEx P l C R a0 (fun a w => Q .normal a w) 0 [] l.length) : (Code.region id l.toArray true).wpIn (Fence.wide.inRound lo) n P Q a0 w0 := by
 obtain ⟨Ss, _, g1, g2, g3, g4⟩ := relEx_out hform l.length 0 [] h rfl (by omega)
 exact wpIn_region_G hm hd (region_relG Ss C R g1 hform hC g2 (fun i hi => g4 i (Nat.zero_le _) hi) g3)
theorem wpIn_region_calm {id lo n : Nat} {Q : Exit → Act → World → Prop} {a0 : Act} {w0 : World} (hm : P.follows .mixedOrders = true) (hd : noDefer l = true) (hform : relForm l a0.tmps.size = true)
  (h : relEx P l (fun w' => Fp [] w0 w') (Fp []) a0 (fun a w => Q .normal a w) 0 [] l.length) : (Code.region id l.toArray true).wpIn (Fence.wide.inRound lo) n P Q a0 w0 :=
 wpIn_region_each _ _ hm hd hform (Fp.drew w0) h
end
end
end Go.Proofs.YtkagolpnaicdoaaGreatDoor
