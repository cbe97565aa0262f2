/-
 block.Parse. Slices of strings that a call owns; append of one string. A slice of the call's own whose elements are of one cell each, of any type; append of one.
-/
import Derived.Test.YtkjmgbifoaoefaaGreatDoorQBlkE
import Derived.Test.YtkjmgbifoaoefaaGreatDoorQBlkC
import Derived.Test.YtkjmgbifoaoefaaGreatDoorQCellLaw6
import Derived.Test.YtkjmgbifoaoefaaGreatDoorQTabA
import Derived.Test.YtkjmgbifoaoefaaGreatDoorQBuild
import Derived.OwnWalkIn
import Derived.BigRegionIn
import Derived.TacticsInMore
import Derived.RegionIn
import Derived.Test.YtkjmgbifoaoefaaGreatDoorQMem
import Derived.Test.YtkjmgbifoaoefaaGreatDoorQRegion
import Derived.Test.YtkjmgbifoaoefaaGreatDoorRows
import Derived.Maps.AppendAt
import Derived.Laws.AppendOwnNone
set_option maxRecDepth 100000
set_option maxHeartbeats 8000000
namespace Go.Proofs.YtkjmgbifoaoefaaGreatDoor
section
open Go.RowKit
theorem kept_grown {T : TypeId} {w w' : World} {base : Nat} {v : Value} {l : List Cel} (hT : T ≠ 24) (h : OwnC w base v l) (hg : w.grownBy w' v.ownBlock) (hb : base ≤ w.heap.size) : Kept T base [] w w' := by
 refine ⟨hg.size, fun k h1 _ _ => (grown_belowC h hg hb).block k h1, fun k c fz _ h2 => hg.block k (heap_lt h2) fun e => ?_⟩
 rcases h.2 with ⟨rfl, _⟩ | ⟨g, cap, cur, rfl, _, hh, _⟩
 ·cases e
 ·obtain rfl : k = g := by simpa [Value.ownBlock] using e
  rw [hh] at h2
  cases h2
  exact hT rfl
theorem ownC_slice {w : World} {base : Nat} {v : Value} {l : List Cel} (h : OwnC w base v l) : ∃ a cap n, v = .slice a n cap := by
 rcases h.2 with ⟨rfl, _⟩ | ⟨g, cap, cur, rfl, _⟩
 ·exact ⟨_, _, _, rfl⟩
 ·exact ⟨_, _, _, rfl⟩
theorem wpListIn_append_cels {F : Fence} {n : Nat} {w : World} {ops : Array Oper} {rest : List Oper} {o : Oper} {a : Act} {Q : Exit → Act → World → Prop} (hgd : o.guard = none) (s x : Operand)
  (ho : o.op = .call { callee := .builtin .append, args := #[s, x], argTypes := #[33, 33] }) (base : Nat) (v : Value) (l : List Cel) (hs : a.eval s = v) (hown : OwnC w base v l)
  (ad : Addr) (m c : Nat) (ls : List Cel) (hx : a.eval x = .slice (some ad) m c) (hl : CelsAt w (some ad) m ls) (hlen : l.length + ls.length ≤ 1000000000) (hbase : base ≤ w.heap.size)
  (h : ∀ v' w', OwnC w' base v' (l ++ ls) → w.grownBy w' v.ownBlock → Below base w w' → wpListIn F n Tryz.prog ops Q rest (a.put o.dst v') w') : wpListIn F n Tryz.prog ops Q (o :: rest) a w := by
 obtain ⟨i0, hi, hz0, hz1, hz2⟩ := info_parts Tryz.infoCel
 have hm := hl.len
 refine wpListIn_append_own w hgd s x 33 ho base 24 i0 _ 6 72 Tryz.underlying33 hi hz0 hz1 hz2 rfl (by decide) v l.length (l.flatMap celRow) hs hown ad m c (ls.flatMap celRow) hx (by rw [flat_len, hm]) ?_ (cels_oneCell ls) (by unfold maxLen; omega) (by omega) hbase ?_
 ·intro j u hu
  rcases hl.cells with h0 | ⟨b, o, h0, _, hc⟩
  ·subst h0; simp at hu
  ·obtain rfl := Option.some.inj h0
   have e1 : (⟨b, o, none⟩ : Addr).add j = ⟨b, o + j, none⟩ := by unfold Addr.add; split <;> simp_all
   rw [e1]
   exact flat_all hc j u hu
 ·intro v' w' h1 h2 _
  refine h v' w' ?_ h2 (grown_belowC hown h2 hbase)
  unfold OwnC
  rw [List.length_append, List.flatMap_append, ← hm]
  exact h1
theorem wpIn_thru {F : Fence} {n : Nat} {P : Program} {c : Code} {Q : Exit → Act → World → Prop} {a : Act} {w : World} {a' : Act} {w' : World} (h : ∀ Q' : Exit → Act → World → Prop, Q' .normal a' w' → c.wpIn F n P Q' a w) (hn : Q .normal a' w') : c.wpIn F n P Q a w := h Q hn
def celE (x : Ent) : Cel := ⟨(fkP x.key).1.row, (fkP x.key).1.col, (fkP x.key).1.ts, (fkP x.key).1.seq, x.del == 1, x.val⟩
def celsE : List Ent → Option (List Cel)
 |[] => some []
 |x :: xs => if (fkP x.key).2 = 0 then (celsE xs).map (celE x :: ·) else none
def readP (s : ByteArray) : Option (List Cel) :=
 if (entsE ((⟨s, !s.toList.isEmpty⟩ : Rb).num 1).1 ByteArray.empty ((⟨s, !s.toList.isEmpty⟩ : Rb).num 1).2).2.ok = true then
  celsE (entsE ((⟨s, !s.toList.isEmpty⟩ : Rb).num 1).1 ByteArray.empty ((⟨s, !s.toList.isEmpty⟩ : Rb).num 1).2).1
 else none
def parseP (s : ByteArray) : Option (List Cel) := match readP s with
 |none => none
 |some l => if (buildP l).2 = 0 ∧ (buildP l).1 = s then some l else none
def codeP (s : ByteArray) : Int := match parseP s with
 |some _ => 0
 |none => 50
def C1 (i : Nat) (w0 : World) (rb : Nat) (r r' : Rb) (b : Nat → Bool) (w : World) : Prop := Fp [rb] w0 w ∧ RbAt w rb (bif b i then r' else r)
theorem C1.fp {i : Nat} {w0 w : World} {rb : Nat} {r r' : Rb} {b : Nat → Bool} (h : C1 i w0 rb r r' b w) : Fp [rb] w0 w := h.1
theorem C1.first {i : Nat} {w0 w : World} {rb : Nat} {r r' : Rb} {b : Nat → Bool} (h : C1 i w0 rb r r' b w) (h1 : b i = false) : RbAt w rb r := by have := h.2; rw [h1] at this; exact this
theorem C1.last {i : Nat} {w0 w : World} {rb : Nat} {r r' : Rb} {b : Nat → Bool} (h : C1 i w0 rb r r' b w) (h1 : b i = true) : RbAt w rb r' := by have := h.2; rw [h1] at this; exact this
theorem C1.did {i : Nat} {w0 w w' : World} {rb : Nat} {r r' : Rb} {b : Nat → Bool} (h : C1 i w0 rb r r' b w) (hr : RbAt w' rb r') (hf : Fp [rb] w w') : C1 i w0 rb r r' (upd b i) w' :=
 ⟨h.1.trans hf (by simp), by rw [upd_self]; exact hr⟩
theorem C1.on {i j : Nat} {w0 w w' : World} {rb : Nat} {r r' : Rb} {b : Nat → Bool} (h : C1 i w0 rb r r' b w) (hij : i ≠ j) (hf : Fp [] w w') : C1 i w0 rb r r' (upd b j) w' :=
 ⟨h.1.trans hf (by simp), by rw [updE_ne hij]; exact h.2.fp hf (by simp)⟩
def EntF (w0 : World) (rb many : Nat) (w : World) (v : Value) : Prop := ∃ bm bp, v = .func (.func 150) #[] #[.pointer (some ⟨bm, 0, none⟩), .pointer (some ⟨bp, 0, none⟩)] ∧
 w.heap[bm]? = some (.cells #[.int .i64 many] 3 (0, 0)) ∧ w.heap[bp]? = some (.cells #[.pointer (some ⟨rb, 0, none⟩)] 150 (0, 0)) ∧ w0.heap.size ≤ bm ∧ w0.heap.size ≤ bp
theorem EntF.fp {w0 w w' : World} {rb many : Nat} {v : Value} {S : List Nat} (h : EntF w0 rb many w v) (hf : Fp S w w') (hS : ∀ k ∈ S, k < w0.heap.size) : EntF w0 rb many w' v := by
 obtain ⟨bm, bp, e, h1, h2, h3, h4⟩ := h
 exact ⟨bm, bp, e, (hf.block bm (heap_lt h1) (fun hm => by have := hS _ hm; omega)).trans h1, (hf.block bp (heap_lt h2) (fun hm => by have := hS _ hm; omega)).trans h2, h3, h4⟩
theorem entF_any (w0 w : World) (rb many : Nat) (h0 : w0.heap.size ≤ w.heap.size) : Calls Tryz.prog 84 #[.pointer (some ⟨rb, 0, none⟩), .int .i64 many] w fun e w' => ∃ v, e = .returned v ∧ EntF w0 rb many w' v ∧ Fp [] w w' := by
 go_enter Tryz.func84, Tryz.ntmps84
 go_wp2_with (fail)
 go_ret
 exact ⟨_, rfl, ⟨w.heap.size + 1, w.heap.size, rfl, heap_alloc_at (by simp) _, heap_alloc_old (heap_alloc_at rfl _), by omega, by omega⟩, (Fp.alloc _ _).alloc' _⟩
theorem step_sizes {last : ByteArray} {r r' : Rb} {x : Ent} (h : stepE last r = (some x, r')) : x.key.size + r'.rest.size ≤ last.size + r.rest.size ∧ x.val.size ≤ r.rest.size := by
 obtain ⟨⟨n, r1⟩, h1⟩ : ∃ t, r.num 2 = t := ⟨_, rfl⟩
 obtain ⟨⟨m, r2⟩, h2⟩ : ∃ t, r1.num 2 = t := ⟨_, rfl⟩
 obtain ⟨⟨t, r3⟩, h3⟩ : ∃ t, r2.take m = t := ⟨_, rfl⟩
 obtain ⟨⟨d, r4⟩, h4⟩ : ∃ t, r3.num 1 = t := ⟨_, rfl⟩
 obtain ⟨⟨v, r5⟩, h5⟩ : ∃ t, r4.num 1 = t := ⟨_, rfl⟩
 obtain ⟨⟨val, r6⟩, h6⟩ : ∃ t, r5.take v = t := ⟨_, rfl⟩
 by_cases hn : n ≤ last.size
 ·rw [step_near h1 h2 hn h3 h4 h5 h6] at h
  have b1 := (num_facts h1).2
  have b2 := (num_facts h2).2
  have b3 := take_facts h3
  have b4 := (num_facts h4).2
  have b5 := (num_facts h5).2
  have b6 := take_facts h6
  simp only [Prod.mk.injEq] at h
  obtain ⟨e1, e2⟩ := h
  split at e1
  ·cases e1
   subst e2
   simp only [ByteArray.size_append, ByteArray.size_extract]
   omega
  ·cases e1
 ·rw [step_far h1 h2 hn] at h
  cases h
theorem ents_sizes : ∀ (k : Nat) (last : ByteArray) (r : Rb), ∀ x ∈ (entsE k last r).1, x.key.size ≤ last.size + r.rest.size ∧ x.val.size ≤ last.size + r.rest.size
 |0, _, _, x, h => by cases h
 |k + 1, last, r, x, h => by
  unfold entsE at h
  split at h
  ·cases h
  ·rename_i y r' hy
   have hs := step_sizes hy
   rcases List.mem_cons.1 h with rfl | h
   ·omega
   ·have := ents_sizes k y.key r' x h
    omega
theorem ents_length : ∀ (k : Nat) (last : ByteArray) (r : Rb), (entsE k last r).1.length ≤ k
 |0, _, _ => Nat.le_refl _
 |k + 1, last, r => by
  unfold entsE
  split
  ·exact Nat.zero_le _
  ·exact Nat.succ_le_succ (ents_length k _ _)
theorem fkP_ok {s : ByteArray} (h : (fkP s).2 = 0) : ∃ row col ts seq, ts ≤ M64 ∧ seq ≤ M64 ∧ fkP s = (coordC row col ts seq, 0) ∧ mayB (coordC row col ts seq) = true ∧ bl (keyL (coordC row col ts seq)) = s := by
 rcases fkP_told s with e | ⟨row, col, ts, seq, h1, h2, h3, h4⟩
 ·rw [e] at h; cases h
 ·refine ⟨row, col, ts, seq, h1, h2, h3, ?_⟩
  cases hb : mayB (coordC row col ts seq)
  ·exfalso
   unfold keyB at h4
   rw [hb] at h4
   have : s = ⟨#[]⟩ := h4.symm
   rw [this, fkP_empty] at h
   cases h
  ·exact ⟨rfl, by rw [← keyB_coord hb]; exact h4⟩
theorem celE_ok {x : Ent} (h : (fkP x.key).2 = 0) (hv : x.val.size ≤ 1000000) : CelOK (celE x) := by
 obtain ⟨row, col, ts, seq, h1, h2, h3, h4, _⟩ := fkP_ok h
 have hm := may_sizes h4
 have hM : M64 = 18446744073709551615 := rfl
 unfold celE
 rw [h3]
 exact ⟨by show ts < _; omega, by show seq < _; omega, by show row.size ≤ _; have := hm.1; simp only [coordC] at this; omega, by show col.size ≤ _; have := hm.2.1; simp only [coordC] at this; omega, by show x.val.size ≤ _; omega⟩
theorem cels_snoc : ∀ {pre : List Ent} {acc : List Cel} {x : Ent}, celsE pre = some acc → (fkP x.key).2 = 0 → celsE (pre ++ [x]) = some (acc ++ [celE x])
 |[], acc, x, h, hx => by
  cases h
  show (if (fkP x.key).2 = 0 then (celsE []).map (celE x :: ·) else none) = _
  rw [if_pos hx]; rfl
 |y :: pre, acc, x, h, hx => by
  rw [List.cons_append]
  unfold celsE at h ⊢
  split at h
  ·rename_i hy
   rw [if_pos hy]
   obtain ⟨acc', ha, rfl⟩ := Option.map_eq_some_iff.1 h
   rw [cels_snoc ha hx]; rfl
  ·cases h
theorem cels_bad : ∀ {pre : List Ent} {x : Ent} (post : List Ent), (fkP x.key).2 ≠ 0 → celsE (pre ++ x :: post) = none
 |[], x, post, hx => by
  rw [List.nil_append]
  unfold celsE
  rw [if_neg hx]
 |y :: pre, x, post, hx => by
  rw [List.cons_append]
  unfold celsE
  split
  ·rw [cels_bad post hx]; rfl
  ·rfl
theorem cels_length : ∀ {pre : List Ent} {acc : List Cel}, celsE pre = some acc → acc.length = pre.length
 |[], acc, h => by cases h; rfl
 |y :: pre, acc, h => by
  unfold celsE at h
  split at h
  ·obtain ⟨acc', ha, rfl⟩ := Option.map_eq_some_iff.1 h
   rw [List.length_cons, List.length_cons, cels_length ha]
  ·cases h
theorem cels_ok : ∀ {l : List Ent} {acc : List Cel}, (∀ x ∈ l, x.val.size ≤ 1000000) → celsE l = some acc → ∀ c ∈ acc, CelOK c
 |[], acc, _, h => by cases h; simp
 |y :: l, acc, hv, h => by
  unfold celsE at h
  split at h
  ·rename_i hy
   obtain ⟨acc', ha, rfl⟩ := Option.map_eq_some_iff.1 h
   intro c hc
   rcases List.mem_cons.1 hc with rfl | hc
   ·exact celE_ok hy (hv y (by simp))
   ·exact cels_ok (fun x hx => hv x (List.mem_cons_of_mem _ hx)) ha c hc
  ·cases h
theorem read_eq {s : ByteArray} {many : Nat} {r1 : Rb} (h : (⟨s, !s.toList.isEmpty⟩ : Rb).num 1 = (many, r1)) : readP s = if (entsE many ByteArray.empty r1).2.ok = true then celsE (entsE many ByteArray.empty r1).1 else none := by
 unfold readP
 rw [h]
theorem parse_none {s : ByteArray} (h : readP s = none) : parseP s = none := by unfold parseP; rw [h]
theorem parse_some {s : ByteArray} {l : List Cel} (h : readP s = some l) (h1 : (buildP l).2 = 0) (h2 : (buildP l).1 = s) : parseP s = some l := by
 unfold parseP; rw [h]; exact if_pos ⟨h1, h2⟩
theorem parse_bad {s : ByteArray} {l : List Cel} (h : readP s = some l) (h1 : ¬ ((buildP l).2 = 0 ∧ (buildP l).1 = s)) : parseP s = none := by
 unfold parseP; rw [h]; exact if_neg h1
theorem code_none {s : ByteArray} (h : parseP s = none) : codeP s = 50 := by unfold codeP; rw [h]
theorem code_some {s : ByteArray} {l : List Cel} (h : parseP s = some l) : codeP s = 0 := by unfold codeP; rw [h]
structure RangeI (w w1 : World) (pre : List Ent) (W : World) : Prop where
 ex : ∃ acc v, celsE pre = some acc ∧ W.heap[w.heap.size + 2]? = some (.cells #[v] 33 (0, 0)) ∧ OwnC W (w1.heap.size + 2) v acc
 box : W.heap[w.heap.size + 1]? = some (.cells #[.pointer (some ⟨w.heap.size, 0, none⟩)] 150 (0, 0))
 rd : ∃ r, RbAt W w.heap.size r
 fp : Fp [] w W
structure RangeX (w : World) (many : Nat) (r1 : Rb) (_pre : List Ent) (W : World) : Prop where
 bad : celsE (entsE many ByteArray.empty r1).1 = none
 rd : ∃ rest, RbAt W w.heap.size ⟨rest, false⟩
 box : W.heap[w.heap.size + 1]? = some (.cells #[.pointer (some ⟨w.heap.size, 0, none⟩)] 150 (0, 0))
 fp : Fp [] w W
theorem RangeI.on {w w1 A B : World} {pre : List Ent} {k : Nat} (h : RangeI w w1 pre A) (hf : Fp [k] A B) (hk : k = w1.heap.size ∨ k = w1.heap.size + 1) (h1 : w.heap.size + 3 ≤ w1.heap.size) : RangeI w w1 pre B := by
 obtain ⟨acc, v, e, hv, ho⟩ := h.ex
 obtain ⟨r, hr⟩ := h.rd
 exact ⟨⟨acc, v, e, (hf.block _ (heap_lt hv) (by simp; omega)).trans hv, ho.fp hf (by simp; omega)⟩, (hf.block _ (heap_lt h.box) (by simp; omega)).trans h.box, ⟨r, hr.fp hf (by simp; omega)⟩, h.fp.trans hf (by simp; omega)⟩
theorem RangeI.rb {w w1 A B : World} {pre : List Ent} (h : RangeI w w1 pre A) (hf : Fp [w.heap.size] A B) (hr : ∃ r, RbAt B w.heap.size r) (h1 : w.heap.size + 3 ≤ w1.heap.size) : RangeI w w1 pre B := by
 obtain ⟨acc, v, e, hv, ho⟩ := h.ex
 exact ⟨⟨acc, v, e, (hf.block _ (heap_lt hv) (by simp)).trans hv, ho.fp hf (by simp; omega)⟩, (hf.block _ (heap_lt h.box) (by simp)).trans h.box, hr, h.fp.trans hf (by simp)⟩
theorem RangeX.on {w w1 A B : World} {many : Nat} {r1 : Rb} {pre : List Ent} (h : RangeX w many r1 pre A) (hf : Fp [w1.heap.size + 1] A B) (h1 : w.heap.size + 3 ≤ w1.heap.size) : RangeX w many r1 pre B := by
 obtain ⟨rest, hr⟩ := h.rd
 exact ⟨h.bad, ⟨rest, hr.fp hf (by simp; omega)⟩, (hf.block _ (heap_lt h.box) (by simp; omega)).trans h.box, h.fp.trans hf (by simp; omega)⟩
attribute [local go_sem] Oper.semAt_some
def actF (w : World) (s : ByteArray) (many bm bp B : Nat) (x : Ent) : Act := { tmps := #[Value.string s, undef, Value.slice none 0 0, Value.int .i64 0, Value.pointer (some ⟨w.heap.size + 1, 0, none⟩), Value.pointer (some ⟨w.heap.size + 1 + 1, 0, none⟩), Value.pointer (some ⟨B, 0, none⟩), undef, undef, undef, undef, Value.string s, Value.string s, Value.bool (!s.toList.isEmpty), Value.agg #[Value.string s, Value.bool (!s.toList.isEmpty)], Value.pointer (some ⟨w.heap.size, 0, none⟩), Value.pointer (some ⟨w.heap.size, 0, none⟩), Value.pointer (some ⟨w.heap.size, 0, none⟩), Value.int .i64 many, Value.func (.func 150) #[] #[.pointer (some ⟨bm, 0, none⟩), .pointer (some ⟨bp, 0, none⟩)], Value.agg #[.string x.key, .int .u8 x.del, .string x.val], undef, undef, undef, undef, undef, undef, undef, undef, undef, undef, undef, undef, undef, undef, undef, undef, undef, undef, undef, undef, undef, undef, undef, undef, undef, undef, undef, undef, undef, undef, undef, undef, undef, undef, undef, undef, undef, undef, undef, undef], defers := [] }
theorem bparse_any (w : World) (s : ByteArray) (hs : s.size ≤ 100000) (hm : MaxAt w) :
  Calls Tryz.prog 38 #[.string s] w fun e w' => ∃ v, e = .returned (.tuple #[v, .int .i64 (codeP s)]) ∧ OwnC w' w.heap.size v ((parseP s).getD []) ∧ Fp [] w w' := by
 have HM := Lib.hid hm
 clear hm
 rw [← callsIn_wide (n := 5)]
 refine callsIn_of_wp_marks Tryz.func38 rfl trivial ?_ rfl
 simp only [Tryz.ntmps38, List.size_toArray, List.length_cons, List.length_nil, Nat.reduceAdd, Nat.reduceSub, Array.replicate_succ, Array.replicate_zero, List.push_toArray, List.append_toArray, List.nil_append, List.cons_append]
 gi_wp2_with (fail)
 refine wpIn_wide.2 ?_
 have cb0 : ∀ W, Fp [w.heap.size] (((w.alloc (.cells #[.string s, .bool (!s.toList.isEmpty)] 152)).alloc (.cells #[.pointer (some ⟨w.heap.size, 0, none⟩)] 150)).alloc (.cells #[.slice none 0 0] 33)) W → W.cell? ⟨w.heap.size + 1, 0, none⟩ = some (.pointer (some ⟨w.heap.size, 0, none⟩)) := fun W hf =>
  cell_of_block ((hf.block (w.heap.size + 1) (by simp) (by simp)).trans (heap_alloc_old (heap_alloc_at (by simp) _))) 0
 obtain ⟨t1, ht1⟩ : ∃ t, (⟨s, !s.toList.isEmpty⟩ : Rb).num 1 = t := ⟨_, rfl⟩
 obtain ⟨many, r1⟩ := t1
 have b1 := num_facts ht1
 have M1 := Lib.hid (bnum_at (b := w.heap.size) 1 ht1 rfl (by omega) (by show s.size ≤ _; omega))
 have hr0 : RbAt (((w.alloc (.cells #[.string s, .bool (!s.toList.isEmpty)] 152)).alloc (.cells #[.pointer (some ⟨w.heap.size, 0, none⟩)] 150)).alloc (.cells #[.slice none 0 0] 33)) w.heap.size ⟨s, !s.toList.isEmpty⟩ := heap_alloc_old (heap_alloc_old (heap_alloc_at rfl _))
 have hl0 : (((w.alloc (.cells #[.string s, .bool (!s.toList.isEmpty)] 152)).alloc (.cells #[.pointer (some ⟨w.heap.size, 0, none⟩)] 150)).alloc (.cells #[.slice none 0 0] 33)).heap[w.heap.size + 2]? = some (.cells #[.slice none 0 0] 33 (0, 0)) := heap_alloc_at (by simp) _
 have hbp0 : (((w.alloc (.cells #[.string s, .bool (!s.toList.isEmpty)] 152)).alloc (.cells #[.pointer (some ⟨w.heap.size, 0, none⟩)] 150)).alloc (.cells #[.slice none 0 0] 33)).heap[w.heap.size + 1]? = some (.cells #[.pointer (some ⟨w.heap.size, 0, none⟩)] 150 (0, 0)) := heap_alloc_old (heap_alloc_at (by simp) _)
 have hfw0 : Fp [] w (((w.alloc (.cells #[.string s, .bool (!s.toList.isEmpty)] 152)).alloc (.cells #[.pointer (some ⟨w.heap.size, 0, none⟩)] 150)).alloc (.cells #[.slice none 0 0] 33)) := ((Fp.alloc _ _).alloc' _).alloc' _
 obtain ⟨w0, hw0⟩ : ∃ w0, (((w.alloc (.cells #[.string s, .bool (!s.toList.isEmpty)] 152)).alloc (.cells #[.pointer (some ⟨w.heap.size, 0, none⟩)] 150)).alloc (.cells #[.slice none 0 0] 33)) = w0 := ⟨_, rfl⟩
 have hsz0 : w0.heap.size = w.heap.size + 3 := by rw [← hw0]; simp
 rw [hw0] at cb0 hr0 hl0 hbp0 hfw0 ⊢
 have HRD := Lib.hid ht1
 have HR0 := Lib.hid hr0
 have HL0 := Lib.hid hl0
 have HBP0 := Lib.hid hbp0
 have HF0 := Lib.hid hfw0
 clear hw0 ht1 hr0 hl0 hbp0 hfw0
 refine wp_region_n (C1 2 w0 w.heap.size ⟨s, !s.toList.isEmpty⟩ r1) (Fp [w.heap.size]) (by kernel_rfl) (by kernel_rfl) ⟨(Fp.drew _ : Fp [] w0 w0.drew).mono (by simp), HR0.out.fp (Fp.drew _ : Fp [] w0 w0.drew) (by simp)⟩ ?_
 iterate 2
  apply nx_plain (fun _ _ h => h) rfl rfl rfl
  ·intro b a w hC hA K hK
   have := hA.f 4
   have q := cb0 _ hC.fp
   simp only [Oper.wp, execOp]; go_simp
   exact hK _ hC (Fp.refl _ _)
 apply nx_turn (eqV (.int .i64 many)) rfl rfl rfl
 ·intro b a w hC hA K hK
  have h17 := hA.e 1 17
  simp only [Oper.wp, execOp]; go_simp
  (with_reducible refine (M1.out _ (hC.first hA.self)).mono ?_)
  rintro e w2 ⟨rfl, hr2, hf2, hn2⟩
  exact hK _ _ (hC.did hr2 hf2) hf2 rfl
 apply nx_turn (EntF w0 w.heap.size many) rfl rfl rfl
 ·intro b a w hC hA K hK
  have h16 := hA.e 0 16
  have h18 := hA.e 2 18
  simp only [Oper.wp, execOp]; go_simp
  (with_reducible refine (entF_any w0 _ _ _ hC.fp.size).mono ?_)
  rintro e w2 ⟨v, rfl, hv, hf2⟩
  exact hK _ _ (hC.on (by decide) hf2) (hf2.mono (by simp)) hv
 refine ⟨?_, ?_⟩
 ·refine ⟨fun _ _ _ hf h => h.fp hf (by simp; omega), ?_⟩
  refine ⟨fun _ _ _ _ h => h, ?_⟩
  refine stabN_val _ ?_
  refine stabN_val _ ?_
  exact trivial
 ·intro w1 bb hC hbb
  simp only [List.reverse_cons, List.reverse_nil, List.nil_append, List.cons_append]
  iterate 2 (refine all_val ?_)
  refine all_some ?_
  intro v2 u2
  obtain rfl := u2
  refine all_some ?_
  intro v3 u3
  refine all_nil ?_
  simp only [putAll, Act.put, List.setIfInBounds_toArray, List.set_cons_succ, List.set_cons_zero]
  obtain ⟨bm, bp, rfl, hbm, hbp, hbm0, hbp0⟩ := u3
  have HBM := Lib.hid hbm
  have HBP := Lib.hid hbp
  have HR1 := Lib.hid (hC.last (hbb 2 (by decide)))
  have HF1 := Lib.hid hC.fp
  clear hC hbb hbm hbp
  have hw1 : w0.heap.size ≤ w1.heap.size := HF1.out.size
  have hbml := heap_lt HBM.out
  have hbpl := heap_lt HBP.out
  gi_wp2_with (fail)
  refine range_reader (α := Ent) (encs := encEn) rfl (enters_of Tryz.func150 (by kernel_rfl) rfl) (fun _ => rfl) 157 [w.heap.size + 2] [w.heap.size] (by simp; omega) (by simp; omega) w.heap.size (by omega) 0
   (fun pre x => ∃ post, (entsE many ByteArray.empty r1).1 = pre ++ x :: post) (RangeI w w1) (RangeX w many r1) (fun xs W => xs = (entsE many ByteArray.empty r1).1 ∧ RbAt W w.heap.size (entsE many ByteArray.empty r1).2)
   (fun W => ∃ r, RbAt W w.heap.size r) (fun s A B k h hf hk => h.on hf hk (by omega)) (fun s A B h hf hz => h.rb hf hz (by omega)) (fun s A B h hf => h.on hf (by omega)) (fun s A B h hf => ⟨h.1, h.2.fp hf (by simp; omega)⟩) ?_ ?_ (fun x a' W => ∃ B, a' = actF w s many bm bp B x ∧ W.heap[B]? = some (.cells x.cells 157 (0, 0)) ∧ w1.heap.size + 2 ≤ B) ?_ ?_ ?_ ?_ ?_
  ·intro J Jx W1 hf1 hsz1 hJ hY hJ0
   exact entries_any (w1.heap.size + 2) (w1.heap.size + 1) (5 - 1) many bm bp w.heap.size W1 r1 (by decide) ((hf1.block _ hbml (by simp)).trans HBM.out) ((hf1.block _ hbpl (by simp)).trans HBP.out) (HR1.out.fp hf1 (by simp))
    (by have : (⟨s, !s.toList.isEmpty⟩ : Rb).rest.size = s.size := rfl; omega) (by omega) hsz1 (by omega) (by omega) (by omega) (by omega) (by omega) (by omega) (by omega) (by omega) [w.heap.size + 2] (by simp; omega) J Jx hJ hY hJ0
  ·exact ⟨⟨[], .slice none 0 0, rfl, (HF1.out.block _ (heap_lt HL0.out) (by simp)).trans HL0.out, OwnC.nil _ _⟩, (HF1.out.block _ (heap_lt HBP0.out) (by simp)).trans HBP0.out, ⟨_, HR1.out⟩, HF0.out.trans HF1.out (by simp)⟩
  ·rintro x a' A B ⟨B0, e, hB, hlt⟩ hf
   exact ⟨B0, e, (hf.block _ (heap_lt hB) (by simp; omega)).trans hB, hlt⟩
  ·intro l x W K hW hK
   simp only [encEn]
   gi_wp2_with (fail)
   exact hK _ _ (Fp.alloc _ _) ⟨W.heap.size, rfl, heap_alloc_at rfl _, hW⟩
  ·rintro l pre x a' W ⟨post, hpost⟩ hI hW ⟨B, rfl, hB, hBl⟩
   have hmem : x ∈ (entsE many ByteArray.empty r1).1 := by rw [hpost]; simp
   have hxs := ents_sizes _ _ _ x hmem
   have hxk : x.key.size ≤ 100000 := by have : ByteArray.empty.size = 0 := rfl; omega
   have hxv : x.val.size ≤ 1000000 := by have : ByteArray.empty.size = 0 := rfl; omega
   obtain ⟨acc, v, hacc, hv, ho⟩ := hI.ex
   have hal := cels_length hacc
   have hml := ents_length many ByteArray.empty r1
   rw [hpost] at hml
   have hal2 : acc.length ≤ 255 := by simp at hml; omega
   obtain ⟨r, hr⟩ := hI.rd
   have q0 : W.cell? ⟨B, 0, none⟩ = some (.string x.key) := cell_of_block hB 0
   have HFK := Lib.hid (fromkey_any x.key W (HM.out.fp hI.fp (by simp)) hxk)
   have HI := Lib.hid hI
   have HV := Lib.hid hv
   have HO := Lib.hid ho
   have HB := Lib.hid hB
   have HR := Lib.hid hr
   have HACC := Lib.hid hacc
   clear hI hv ho hB hr hacc hmem hxs hml
   unfold actF
   gi_wp2_with (fail)
   refine ⟨trivial, ?_⟩
   (with_reducible refine (CallsIn.inRound l ((callsIn_wide (n := 2)).2 HFK.out)).mono ?_)
   rintro e w2 ⟨rfl, hf2⟩
   have HF2 := Lib.hid hf2
   have HBOX2 := Lib.hid ((hf2.block _ (heap_lt HI.out.box) (by simp)).trans HI.out.box)
   have HR2 := Lib.hid (HR.out.fp hf2 (by simp))
   have HB2 := Lib.hid ((hf2.block _ (heap_lt HB.out) (by simp)).trans HB.out)
   have HV2 := Lib.hid ((hf2.block _ (heap_lt HV.out) (by simp)).trans HV.out)
   have HO2 := Lib.hid (HO.out.fp hf2 (by simp))
   have hW2 : w1.heap.size + 2 ≤ w2.heap.size := Nat.le_trans hW hf2.size
   have hrw2 : w.heap.size < w2.heap.size := heap_lt HR2.out
   have qb : ∀ X : Obj, (w2.alloc X).cell? ⟨w.heap.size + 1, 0, none⟩ = some (.pointer (some ⟨w.heap.size, 0, none⟩)) := fun X => cell_of_block (heap_alloc_old HBOX2.out) 0
   have qr : ∀ X : Obj, (w2.alloc X).cell? ⟨w.heap.size, 1, none⟩ = some (.bool r.ok) := fun X => cell_of_block (heap_alloc_old HR2.out) 1
   have qf : ∀ X : Obj, (w2.alloc X).frozen? ⟨w.heap.size, 1, none⟩ = false := fun X => frozen_of_block (heap_alloc_old HR2.out) 1
   have qd : ∀ X : Obj, (w2.alloc X).cell? ⟨B, 1, none⟩ = some (.int .u8 x.del) := fun X => cell_of_block (heap_alloc_old HB2.out) 1
   have qe : ∀ X : Obj, (w2.alloc X).cell? ⟨B, 2, none⟩ = some (.string x.val) := fun X => cell_of_block (heap_alloc_old HB2.out) 2
   have qv : ∀ X : Obj, (w2.alloc X).cell? ⟨w.heap.size + 1 + 1, 0, none⟩ = some v := fun X => cell_of_block (heap_alloc_old HV2.out) 0
   have qg : ∀ X : Obj, (w2.alloc X).frozen? ⟨w.heap.size + 1 + 1, 0, none⟩ = false := fun X => frozen_of_block (heap_alloc_old HV2.out) 0
   clear hf2 HFK
   by_cases hz : (fkP x.key).2 = 0
   ·obtain ⟨row, col, ts, seq, ht, hq, he, hmay, hkey⟩ := fkP_ok hz
    rw [he]
    rw [show cellV (coordC row col ts seq) = .agg #[.string row, .string col, .int .u64 ts, .int .u64 seq, .bool false, .string ⟨#[]⟩] from rfl]
    have HCO := Lib.hid (celE_ok hz hxv)
    have HSN := Lib.hid (cels_snoc HACC.out hz)
    have hce : celE x = ⟨row, col, ts, seq, x.del == 1, x.val⟩ := by unfold celE; rw [he]; rfl
    obtain ⟨dl, hdl⟩ : ∃ dl, ((x.del : Int) == 1) = dl := ⟨_, rfl⟩
    have hdl2 : (x.del == 1) = dl := by
     rw [← hdl]
     by_cases h1 : x.del = 1
     ·rw [h1]; rfl
     ·rw [beq_eq_false_iff_ne.2 h1, beq_eq_false_iff_ne.2 (by omega)]
    rw [hce, hdl2] at HCO HSN
    clear hce hdl2
    gi_wp2_with (fail)
    apply wpIn_thru
    ·intro Q' hQ'
     gi_region
     all_goals exact hQ'
    gi_wp2_with (gi_at_builtin; (refine wpListIn_append_cels rfl _ _ rfl (w1.heap.size + 2) _ acc rfl (((HO2.out.fp (Fp.alloc _ _) (by simp)).fp (Fp.drew _) (by simp)).fp (Fp.alloc _ _) (by simp)) _ _ _ [⟨row, col, ts, seq, dl, x.val⟩] rfl (CelIn.one (heap_alloc_at (by simp) _) HCO.out) (by simp; omega) (by simp; omega) ?_); intro v3 w3 ho3 hg3 hb3; obtain ⟨a3, cap3, n3, rfl⟩ := ownC_slice ho3; have HO3 := Lib.hid ho3; have HG3 := Lib.hid hg3; have HB3 := Lib.hid hb3; have hv3 := (hb3.block (w.heap.size + 2) (by omega)).trans (heap_alloc_old (heap_alloc_old HV2.out)); have qv3 : w3.cell? ⟨w.heap.size + 1 + 1, 0, none⟩ = some v := cell_of_block hv3 0; have qg3 : w3.frozen? ⟨w.heap.size + 1 + 1, 0, none⟩ = false := frozen_of_block hv3 0; have HV3 := Lib.hid hv3; clear ho3 hg3 hb3 hv3)
    have hk3 := (Kept.of ((HF2.out.alloc' (.cells #[.string row, .string col, .int .u64 ts, .int .u64 seq, .bool dl, .string x.val] 24)).drew'.alloc' (.cells #[.string row, .string col, .int .u64 ts, .int .u64 seq, .bool dl, .string x.val] 24)) (by simp) : Kept 157 (w1.heap.size + 2) [] W _).trans (kept_grown (by decide) (((HO2.out.fp (Fp.alloc _ _) (by simp)).fp (Fp.drew _) (by simp)).fp (Fp.alloc _ _) (by simp)) HG3.out (by simp; omega)) (by simp)
    have hb4 := Fp.setCell w3 ⟨w.heap.size + 1 + 1, 0, none⟩ (.slice a3 n3 cap3)
    refine ⟨(hk3.mono (by simp)).trans (Kept.of hb4 (by simp; omega)) (by simp), ⟨⟨_, _, HSN.out, (heap_setCell_same HV3.out _).trans rfl, HO3.out.fp hb4 (by simp; omega)⟩, ?_, ⟨r, ?_⟩, ?_⟩⟩
    ·exact (hb4.block _ (Nat.lt_of_lt_of_le (heap_lt HBOX2.out) (by have := HB3.out.size; simp at this; omega)) (by simp)).trans ((HB3.out.block _ (by omega)).trans (heap_alloc_old (heap_alloc_old HBOX2.out)))
    ·exact (hb4.block _ (Nat.lt_of_lt_of_le (heap_lt HR2.out) (by have := HB3.out.size; simp at this; omega)) (by simp; omega)).trans ((HB3.out.block _ (by omega)).trans (heap_alloc_old (heap_alloc_old HR2.out)))
    ·exact ((((HI.out.fp.trans HF2.out (by simp)).alloc' _).drew'.alloc' _).belowTrans (HB3.out.mono (by omega))).setCell' (Or.inr (by show w.heap.size ≤ w.heap.size + 1 + 1; omega)) _
   ·have he : fkP x.key = (zeroC, 1) := by
     rcases fkP_told x.key with e | ⟨row, col, ts, seq, _, _, e, _⟩
     ·exact e
     ·rw [e] at hz; exact absurd rfl hz
    rw [he]
    rw [show cellV zeroC = .agg #[.string ⟨#[]⟩, .string ⟨#[]⟩, .int .u64 0, .int .u64 0, .bool false, .string ⟨#[]⟩] from rfl]
    gi_wp2_with (fail)
    have hfp := ((HF2.out.mono (by simp) : Fp [w.heap.size] W w2).setCell' (p := ⟨w.heap.size, 1, none⟩) (Or.inl (by simp)) (.bool false)).alloc' (.cells #[.string ⟨#[]⟩, .string ⟨#[]⟩, .int .u64 0, .int .u64 0, .bool false, .string ⟨#[]⟩] 24)
    refine ⟨Kept.of hfp (by simp; omega), by rw [hpost]; exact cels_bad post hz, ⟨r.rest, ?_⟩, ?_, HI.out.fp.trans hfp (by simp)⟩
    ·exact heap_alloc_old ((heap_setCell_same HR2.out _).trans rfl)
    ·exact (hfp.block _ (heap_lt HI.out.box) (by simp)).trans HI.out.box
  ·rintro xs W ⟨rfl, hr⟩ hI hK
   have q0 : W.cell? ⟨w.heap.size + 1, 0, none⟩ = some (.pointer (some ⟨w.heap.size, 0, none⟩)) := cell_of_block hI.box 0
   obtain ⟨acc, v, hacc, hv, ho⟩ := hI.ex
   obtain ⟨rf, hrf⟩ : ∃ rf, (entsE many ByteArray.empty r1).2 = rf := ⟨_, rfl⟩
   rw [hrf] at hr
   have q1 : W.cell? ⟨w.heap.size, 1, none⟩ = some (.bool rf.ok) := cell_of_block hr 1
   have q2 : W.cell? ⟨w.heap.size + 1 + 1, 0, none⟩ = some v := cell_of_block hv 0
   have HRF := Lib.hid hrf
   have HK := Lib.hid hK
   have HI := Lib.hid hI
   have HV := Lib.hid hv
   have HO := Lib.hid ho
   have HACC := Lib.hid hacc
   clear hr hI hK hacc hv ho hrf
   cases hok : rf.ok
   ·rw [hok] at q1
    gi_wp2_with (fail)
    refine ⟨by simp, .inl ⟨_, _, rfl, run_takeDeferred HK.out, ?_⟩⟩
    have hp : parseP s = none := parse_none (by rw [read_eq HRD.out, HRF.out, hok]; rfl)
    exact ⟨.tuple #[.slice none 0 0, .int .i64 50], by simp [results, Tryz.results38, go_sem], .slice none 0 0, by rw [code_none hp], by rw [hp]; exact OwnC.nil _ _, HI.out.fp.trans (Fp.putObj _ _ _) (by simp; omega)⟩
   ·rw [hok] at q1
    have hrd : readP s = some acc := by rw [read_eq HRD.out, HRF.out, hok, ← HACC.out]; rfl
    have hal := cels_length HACC.out
    have hml := ents_length many ByteArray.empty r1
    have hoks := cels_ok (fun x hx => by have := (ents_sizes _ _ _ x hx).2; have : ByteArray.empty.size = 0 := rfl; omega) HACC.out
    obtain ⟨a, cap, rfl, hcs⟩ := HO.out.at hoks
    have HBU := Lib.hid (build_any W a acc.length cap acc hcs (by omega) (HM.out.fp HI.out.fp (by simp)))
    obtain ⟨⟨bs, be⟩, hb⟩ : ∃ t, buildP acc = t := ⟨_, rfl⟩
    rw [hb] at HBU
    have HRP := Lib.hid hrd
    have HB := Lib.hid hb
    clear hcs hrd hb hoks hal hml
    gi_wp2_with (fail)
    refine ⟨trivial, ?_⟩
    (with_reducible refine ((callsIn_wide (n := 4)).2 HBU.out).mono ?_)
    rintro e w2 ⟨rfl, hf2⟩
    have HF2 := Lib.hid hf2
    have HK2 := Lib.hid ((hf2.block _ (heap_lt HK.out) (by simp)).trans HK.out)
    have HO2 := Lib.hid (HO.out.fp hf2 (by simp))
    have q3 : w2.cell? ⟨w.heap.size + 1 + 1, 0, none⟩ = some (.slice a acc.length cap) := cell_of_block ((hf2.block _ (heap_lt HV.out) (by simp)).trans HV.out) 0
    clear hf2 HBU
    by_cases hbe : be = 0
    ·subst hbe
     by_cases hbs : bs = s
     ·subst hbs
      gi_wp2_with (fail)
      refine ⟨by simp, .inl ⟨_, _, rfl, run_takeDeferred HK2.out, ?_⟩⟩
      have hp : parseP bs = some acc := parse_some HRP.out (by rw [HB.out]) (by rw [HB.out])
      exact ⟨.tuple #[.slice a acc.length cap, .int .i64 0], by simp [results, Tryz.results38, go_sem], .slice a acc.length cap, by rw [code_some hp], by rw [hp]; exact (HO2.out.mono (by omega)).kept (fun k hk => (Fp.putObj _ _ _).block k ((HO2.out.lt k hk).2) (by have := (HO2.out.lt k hk).1; simp; omega)), (HI.out.fp.trans HF2.out (by simp)).trans (Fp.putObj _ _ _) (by simp; omega)⟩
     ·have hbb : (bs.toList == s.toList) = false := by rw [beq_eq_false_iff_ne]; exact fun e => hbs (toList_inj' e)
      gi_wp2_with (fail)
      refine ⟨by simp, .inl ⟨_, _, rfl, run_takeDeferred HK2.out, ?_⟩⟩
      have hp : parseP s = none := parse_bad HRP.out (fun h => hbs (by have := h.2; rw [HB.out] at this; exact this))
      exact ⟨.tuple #[.slice none 0 0, .int .i64 50], by simp [results, Tryz.results38, go_sem], .slice none 0 0, by rw [code_none hp], by rw [hp]; exact OwnC.nil _ _, (HI.out.fp.trans HF2.out (by simp)).trans (Fp.putObj _ _ _) (by simp; omega)⟩
    ·have hbz : ¬ (be : Int) = 0 := by omega
     gi_wp2_with (fail)
     refine ⟨by simp, .inl ⟨_, _, rfl, run_takeDeferred HK2.out, ?_⟩⟩
     have hp : parseP s = none := parse_bad HRP.out (fun h => hbe (by have := h.1; rw [HB.out] at this; exact this))
     exact ⟨.tuple #[.slice none 0 0, .int .i64 50], by simp [results, Tryz.results38, go_sem], .slice none 0 0, by rw [code_none hp], by rw [hp]; exact OwnC.nil _ _, (HI.out.fp.trans HF2.out (by simp)).trans (Fp.putObj _ _ _) (by simp; omega)⟩
  ·rintro pre W hX hK
   have q0 : W.cell? ⟨w.heap.size + 1, 0, none⟩ = some (.pointer (some ⟨w.heap.size, 0, none⟩)) := cell_of_block hX.box 0
   obtain ⟨rest, hr⟩ := hX.rd
   have q1 : W.cell? ⟨w.heap.size, 1, none⟩ = some (.bool false) := cell_of_block hr 1
   have HK := Lib.hid hK
   have HX := Lib.hid hX
   clear hr hX hK
   gi_wp2_with (fail)
   refine ⟨by simp, .inl ⟨_, _, rfl, run_takeDeferred HK.out, ?_⟩⟩
   have hp : parseP s = none := parse_none (by rw [read_eq HRD.out, HX.out.bad]; split <;> rfl)
   exact ⟨.tuple #[.slice none 0 0, .int .i64 50], by simp [results, Tryz.results38, go_sem], .slice none 0 0, by rw [code_none hp], by rw [hp]; exact OwnC.nil _ _, HX.out.fp.trans (Fp.putObj _ _ _) (by simp; omega)⟩
end
section
section
open Go.RowKit
def OwnS (w : World) (base : Nat) (v : Value) (l : List ByteArray) : Prop := w.ownsRow base 9 1 v l.length (l.map Value.string)
theorem OwnS.nil (w : World) (base : Nat) : OwnS w base (.slice none 0 0) [] := World.ownsRow_nil w base _ _
theorem OwnS.mono {w : World} {base base' : Nat} {v : Value} {l : List ByteArray} (h : OwnS w base v l) (hb : base' ≤ base) : OwnS w base' v l := by
 obtain ⟨h1, h2⟩ := h
 refine ⟨h1, ?_⟩
 rcases h2 with h2 | ⟨g, cap, cur, hv, hg, r⟩
 ·exact Or.inl h2
 ·exact Or.inr ⟨g, cap, cur, hv, Nat.le_trans hb hg, r⟩
theorem OwnS.lt {w : World} {base : Nat} {v : Value} {l : List ByteArray} (h : OwnS w base v l) : ∀ k, v.ownBlock = some k → base ≤ k ∧ k < w.heap.size := World.ownsRow.lt h
theorem OwnS.kept {w w' : World} {base : Nat} {v : Value} {l : List ByteArray} (h : OwnS w base v l) (hf : ∀ k, v.ownBlock = some k → w'.heap[k]? = w.heap[k]?) : OwnS w' base v l := by
 obtain ⟨h1, h2⟩ := h
 refine ⟨h1, ?_⟩
 rcases h2 with h2 | ⟨g, cap, cur, hv, hg, hh, r⟩
 ·exact Or.inl h2
 ·exact Or.inr ⟨g, cap, cur, hv, hg, (hf g (by rw [hv]; rfl)).trans hh, r⟩
theorem OwnS.fp {w w' : World} {base : Nat} {v : Value} {l : List ByteArray} {S : List Nat} (h : OwnS w base v l) (hf : Fp S w w') (hS : ∀ i ∈ S, i < base) : OwnS w' base v l :=
 h.kept fun k hk => hf.block k (h.lt k hk).2 (fun hm => by have := hS k hm; have := (h.lt k hk).1; omega)
theorem OwnS.made (w : World) (base : Nat) (hb : base ≤ w.heap.size) : OwnS (w.alloc (.cells #[] 9)) base (.slice (some ⟨w.heap.size, 0, none⟩) 0 0) [] :=
 World.ownsRow_made w #[] 0 hb (by decide) rfl
theorem OwnS.at {w : World} {base : Nat} {v : Value} {l : List ByteArray} (h : OwnS w base v l) : (∃ a cap, v = .slice a l.length cap) ∧ (l = [] ∨ ∃ g cap, v = .slice (some ⟨g, 0, none⟩) l.length cap ∧ base ≤ g ∧ g < w.heap.size ∧ ∀ i (hi : i < l.length), w.cell? ⟨g, i, none⟩ = some (.string l[i])) := by
 obtain ⟨h1, h2⟩ := h
 rcases h2 with ⟨rfl, h0⟩ | ⟨g, cap, cur, rfl, hg, hh, hn, hm, hs, ht⟩
 ·have : l = [] := List.eq_nil_of_length_eq_zero h0
  subst this
  exact ⟨⟨_, _, rfl⟩, Or.inl rfl⟩
 ·refine ⟨⟨_, _, rfl⟩, Or.inr ⟨g, cap, rfl, hg, heap_lt hh, fun i hi => ?_⟩⟩
  have h3 : (cur.toList.take (l.length * 1))[i]? = (l.map Value.string)[i]? := by rw [ht]
  rw [List.getElem?_take, if_pos (by omega), List.getElem?_map, List.getElem?_eq_getElem hi, Array.getElem?_toList] at h3
  rw [cell_of_block hh, h3]
  rfl
theorem Tryz.info9 : (Tryz.prog.info? 9).map (fun i => (i.zero, i.size, i.bytes)) = some (some (.string ⟨#[]⟩), 1, 16) := by kernel_rfl
theorem wpList_append_one {w : World} {ops : Array Oper} {rest : List Oper} {o : Oper} {a : Act} {Q : Exit → Act → World → Prop} (hgd : o.guard = none) (s x : Operand)
  (ho : o.op = .call { callee := .builtin .append, args := #[s, x], argTypes := #[40, 40] }) (base : Nat) (v : Value) (l : List ByteArray) (hs : a.eval s = v) (hown : OwnS w base v l)
  (g : Nat) (t : ByteArray) (hx : a.eval x = .slice (some ⟨g, 0, none⟩) 1 1) (hg : w.cell? ⟨g, 0, none⟩ = some (.string t)) (hlen : l.length + 1 ≤ 1000000000) (hbase : base ≤ w.heap.size)
  (h : ∀ v' w', OwnS w' base v' (l ++ [t]) → Below base w w' → wpList Tryz.prog ops Q rest (a.put o.dst v') w') : wpList Tryz.prog ops Q (o :: rest) a w := by
 obtain ⟨i0, hi, hz0, hz1, hz2⟩ := info_parts Tryz.info9
 refine wpList_append_own w hgd s x 40 ho base 9 i0 _ 1 16 Tryz.underlying40 hi hz0 hz1 hz2 rfl (by decide) v l.length (l.map Value.string) hs hown ⟨g, 0, none⟩ 1 1 [.string t] hx rfl ?_ (by intro u hu; simp at hu; subst hu; rfl) (by unfold maxLen; omega) (by omega) hbase ?_
 ·intro j u hu
  have hj : j = 0 := by
   have := (List.getElem?_eq_some_iff.1 hu).1
   simpa using this
  subst hj
  simp at hu
  subst hu
  have e1 : (⟨g, 0, none⟩ : Addr).add 0 = ⟨g, 0, none⟩ := by unfold Addr.add; split <;> simp_all
  rw [e1]; exact hg
 ·intro v' w' h1 h2 _
  refine h v' w' ?_ ((Below.refl base w).grown h2 hbase (fun k hk => (hown.lt k hk).1))
  unfold OwnS
  rw [List.length_append, List.map_append]
  exact h1
end
section
open Go.RowKit
end
end
end Go.Proofs.YtkjmgbifoaoefaaGreatDoor
