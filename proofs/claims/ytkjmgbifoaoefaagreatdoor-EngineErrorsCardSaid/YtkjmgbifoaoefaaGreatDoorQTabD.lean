/-
 crc.All: the texts that lie one behind the other (an iterator, ranged over). A file's foot: numbers of some bytes; texts with their sums, as table writes them. table.parted: a list of cells in parts of eight (slices.Chunk, an iterator, ranged over).
-/
import Derived.Test.YtkjmgbifoaoefaaGreatDoorQTabA
import Derived.Test.YtkjmgbifoaoefaaGreatDoorQBlkF
set_option maxRecDepth 100000
set_option maxHeartbeats 8000000
namespace Go.Proofs.YtkjmgbifoaoefaaGreatDoor
section
open Go.RowKit
def textsF : Nat → Nat → ByteArray → List (Nat × ByteArray)
 |0, _, _ => []
 |n + 1, at_, s => if (getP (s.extract at_ s.size)).2.2 = 0 then (at_ + (getP (s.extract at_ s.size)).2.1, (getP (s.extract at_ s.size)).1) :: textsF n (at_ + (getP (s.extract at_ s.size)).2.1) s else []
def textsP (s : ByteArray) : List (Nat × ByteArray) := textsF (s.size + 1) 0 s
theorem getP_told (s : ByteArray) : ((getP s).2.2 = 0 ∧ (getP s).2.1 = endN s ∧ 6 ≤ endN s ∧ endN s ≤ s.size ∧ (getP s).1 = s.extract 6 (endN s)) ∨ ((getP s).2.2 ≠ 0 ∧ (getP s).2.2 < 256 ∧ (getP s).1 = ⟨#[]⟩) := by
 by_cases h0 : s.size = 0
 ·right; rw [getP_none h0]; exact ⟨by decide, by decide, rfl⟩
 ·by_cases h1 : s.size < 6
  ·right; rw [getP_short h0 h1]; exact ⟨by decide, by decide, rfl⟩
  ·by_cases h2 : s.size < endN s
   ·right; rw [getP_cut h0 h1 h2]; exact ⟨by decide, by decide, rfl⟩
   ·by_cases h3 : crcN (s.extract 0 2) (s.extract 6 (endN s)) = quadN (atB s 2) (atB s 3) (atB s 4) (atB s 5)
    ·left; rw [getP_ok h0 h1 h2 h3]; exact ⟨rfl, rfl, by unfold endN; omega, by omega, rfl⟩
    ·right; rw [getP_sum h0 h1 h2 h3]; exact ⟨by decide, by decide, rfl⟩
theorem textsF_yes {n at_ k : Nat} {s t : ByteArray} (h : getP (s.extract at_ s.size) = (t, k, 0)) : textsF (n + 1) at_ s = (at_ + k, t) :: textsF n (at_ + k) s := by
 show (if _ then _ else _) = _
 rw [h]
 exact if_pos rfl
theorem textsF_no {n at_ k e : Nat} {s t : ByteArray} (h : getP (s.extract at_ s.size) = (t, k, e)) (he : e ≠ 0) : textsF (n + 1) at_ s = [] := by
 show (if _ then _ else _) = _
 rw [h]
 exact if_neg he
theorem get_bound {s t : ByteArray} {at_ k : Nat} (h : getP (s.extract at_ s.size) = (t, k, 0)) : 6 ≤ k ∧ at_ + k ≤ s.size ∧ t = (s.extract at_ s.size).extract 6 k ∧ k ≤ 65541 + 6 := by
 have hh := getP_told (s.extract at_ s.size)
 rw [h] at hh
 rcases hh with ⟨_, h1, h2, h3, h4⟩ | ⟨h1, _⟩
 ·simp only at h1 h4
  rw [ByteArray.size_extract] at h3
  have hk : endN (s.extract at_ s.size) ≤ 65541 + 6 := by
   have := (atB (s.extract at_ s.size) 0).toNat_lt
   have := (atB (s.extract at_ s.size) 1).toNat_lt
   unfold endN
   omega
  exact ⟨by omega, by omega, by rw [h4, ← h1], by omega⟩
 ·exact absurd rfl h1
theorem textsF_fuel : ∀ (n m at_ : Nat) (s : ByteArray), s.size - at_ < n → s.size - at_ < m → textsF n at_ s = textsF m at_ s
 |0, _, _, _, h, _ => absurd h (Nat.not_lt_zero _)
 |_ + 1, 0, _, _, _, h => absurd h (Nat.not_lt_zero _)
 |n + 1, m + 1, at_, s, h1, h2 => by
  obtain ⟨⟨t, k, e⟩, ht⟩ : ∃ x, getP (s.extract at_ s.size) = x := ⟨_, rfl⟩
  by_cases he : e = 0
  ·subst he
   have hb := get_bound ht
   rw [textsF_yes ht, textsF_yes ht, textsF_fuel n m (at_ + k) s (by omega) (by omega)]
  ·rw [textsF_no ht he, textsF_no ht he]
def encT (x : Nat × ByteArray) : Array Value := #[.int .i64 x.1, .string x.2]
theorem texts_any (base L n bx : Nat) (w : World) (s : ByteArray) (hn : 1 ≤ n) (hbx : w.heap[bx]? = some (.cells #[.string s] 9 (0, 0))) (hs : s.size ≤ 100000000) (ht : TabAt w) (hbxl : bx < base) (hbL : bx ≠ L)
  (htb : 0 < base) (htL : 0 ≠ L) (S0 : List Nat) (hS0 : ∀ k ∈ S0, k < base ∧ k ≠ bx ∧ k ≠ 0) (J Jx : List (Nat × ByteArray) → World → Prop)
  (hJ : ∀ s A B, J s A → Fp [] A B → J s B)
  (hy : ∀ pre x W, (∃ post, textsP s = pre ++ x :: post) → J pre W → YieldAt Fence.wide (n - 1) Tryz.prog L (encT x) W fun e W' => (e = .returned (.bool true) ∧ J (pre ++ [x]) W' ∧ Kept 157 base (L :: S0) W W') ∨ (e = .returned (.bool false) ∧ Jx (pre ++ [x]) W'))
  (h0 : J [] w) :
  CallsIn Fence.wide n Tryz.prog 149 #[.func (.yield L) #[] #[], .pointer (some ⟨bx, 0, none⟩)] w fun e w' => (∃ v, e = .returned v) ∧ ((∃ xs, xs = textsP s ∧ J xs w') ∨ ∃ pre, Jx pre w') := by
 rw [callsIn_wide]
 have HY := Lib.hid hy
 have HJ := Lib.hid hJ
 have HS0 := Lib.hid hS0
 have HBX := Lib.hid hbx
 have HT := Lib.hid ht
 have HG := Lib.hid (fun (at_ : Nat) (w : World) (ht : TabAt w) => get_any (s.extract at_ s.size) w (by rw [ByteArray.size_extract]; omega) ht)
 clear hy hJ hS0 hbx ht
 go_enter Tryz.func149, Tryz.ntmps149
 go_wp2_with (fail)
 go_loopg [3] s.size (fun g va wr => ∃ (at_ : Nat) (pre : List (Nat × ByteArray)), g + at_ = s.size ∧ va = .int .i64 at_ ∧ J pre wr ∧ Kept 157 base (L :: S0) w wr ∧ textsP s = pre ++ textsF (g + 1) at_ s)
 case atStart => exact ⟨0, [], by omega, rfl, h0, Kept.of (Fp.refl [] _) (by simp) |>.mono (by simp), rfl⟩
 case round =>
  obtain ⟨at_, pre, hg, rfl, hj, hf, heq⟩ := hrel
  have HFW := Lib.hid hf
  have HJK := Lib.hid hj
  have HEQ := Lib.hid heq
  clear hf hj heq
  have hbx1 : wr.heap[bx]? = some (.cells #[.string s] 9 (0, 0)) := (HFW.out.low _ hbxl (heap_lt HBX.out) (by intro h; rcases List.mem_cons.1 h with h | h; exact hbL h; exact (HS0.out _ h).2.1 rfl)).trans HBX.out
  have q0 : wr.cell? ⟨bx, 0, none⟩ = some (.string s) := cell_of_block hbx1 0
  have HT1 : Hid (TabAt wr) := fun i hi => by
   have h1 := HT.out i hi
   have hlt := World.block_lt_of_cell? _ _ h1
   have hbk := HFW.out.low 0 htb hlt (by intro h; rcases List.mem_cons.1 h with h | h; exact htL h; exact (HS0.out _ h).2.2 rfl)
   rw [← h1]
   unfold World.cell?
   rw [hbk]
  clear hbx1
  obtain ⟨⟨t, k, e⟩, ht⟩ : ∃ x, getP (s.extract at_ s.size) = x := ⟨_, rfl⟩
  have HGK := Lib.hid (HG.out at_)
  rw [ht] at HGK
  have HGT := Lib.hid ht
  clear ht
  have z1 : (at_ : Int) ≤ (s.size : Int) := by omega
  go_wp2_with (fail)
  (with_reducible refine (HGK.out _ HT1.out).mono ?_)
  rintro e1 w1 ⟨rfl, hf1⟩
  have HJ1 := Lib.hid (HJ.out _ _ _ HJK.out hf1)
  have HFW1 := Lib.hid (HFW.out.trans (Kept.of (hf1.mono (by simp) : Fp [] wr w1) (by simp)) (by simp))
  clear hf1
  by_cases he : e = 0
  ·subst he
   obtain ⟨hb1, hb2, -, hb4⟩ := get_bound HGT.out
   have HE := Lib.hid HEQ.out
   rw [textsF_yes HGT.out] at HE
   have n1 : IntKind.i64.wrap ((at_ : Int) + (k : Int)) = ((at_ + k : Nat) : Int) := by rw [IntKind.wrap_i64]; omega
   obtain ⟨a2, ha2⟩ : ∃ a2, at_ + k = a2 := ⟨_, rfl⟩
   rw [ha2] at n1 HE
   obtain ⟨fn, tm, asg, bd, hyl, hrd⟩ := HY.out pre (a2, t) w1 ⟨_, HE.out⟩ HJ1.out
   have HRD := Lib.hid hrd
   clear hrd
   unfold encT at hyl
   go_upto_region 4 with (fail)
   refine (wpIn_wide (n := n)).1 ?_
   gi_wp2_with (fail)
   (with_reducible refine HRD.out.mono ?_)
   rintro e W1 (⟨rfl, hj1, hf1⟩ | ⟨rfl, hjx⟩)
   ·have HJ2 := Lib.hid hj1
    have HFW2 := Lib.hid (HFW1.out.trans hf1 (by intro i hi; exact hi))
    clear hj1 hf1
    gi_wp2_with (fail)
    go_wp2_with (fail)
    go_roundg (s.size - a2)
    case measure => omega
    case rel =>
     refine ⟨a2, pre ++ [(a2, t)], by omega, rfl, HJ2.out, HFW2.out, ?_⟩
     rw [HE.out, List.append_assoc, textsF_fuel gk (s.size - a2 + 1) a2 s (by omega) (by omega)]
     rfl
   ·have HJX := Lib.hid hjx
    clear hjx
    gi_wp2_with (fail)
    go_wp2_with (fail)
    refine bodyPost_ret (results_none rfl _ _ _) rfl ?_
    exact ⟨⟨_, rfl⟩, Or.inr ⟨_, HJX.out⟩⟩
  ·have z2 : ((e : Int) != 0) = true := by rw [bne_iff_ne]; omega
   go_wp2_with (fail)
   refine bodyPost_ret (results_none rfl _ _ _) rfl ?_
   refine ⟨⟨_, rfl⟩, Or.inl ⟨pre, ?_, HJ1.out⟩⟩
   have := HEQ.out
   rw [textsF_no HGT.out he, List.append_nil] at this
   exact this.symm
theorem textsfn_any (w : World) (s : ByteArray) : Calls Tryz.prog 83 #[.string s] w fun e w' => e = .returned (.func (.func 149) #[] #[.pointer (some ⟨w.heap.size, 0, none⟩)]) ∧ w'.heap[w.heap.size]? = some (.cells #[.string s] 9 (0, 0)) ∧ Fp [] w w' := by
 go_enter Tryz.func83, Tryz.ntmps83
 go_wp2_with (fail)
 go_ret
 exact ⟨rfl, heap_alloc_at rfl _, Fp.alloc _ _⟩
theorem wpListIn_append_one {F : Fence} {n : Nat} {w : World} {ops : Array Oper} {rest : List Oper} {o : Oper} {a : Act} {Q : Exit → Act → World → Prop} (hgd : o.guard = none) (s x : Operand)
  (ho : o.op = .call { callee := .builtin .append, args := #[s, x], argTypes := #[40, 40] }) (base : Nat) (v : Value) (l : List ByteArray) (hs : a.eval s = v) (hown : OwnS w base v l)
  (g : Nat) (t : ByteArray) (hx : a.eval x = .slice (some ⟨g, 0, none⟩) 1 1) (hg : w.cell? ⟨g, 0, none⟩ = some (.string t)) (hlen : l.length + 1 ≤ 1000000000) (hbase : base ≤ w.heap.size)
  (h : ∀ v' w', OwnS w' base v' (l ++ [t]) → w.grownBy w' v.ownBlock → Below base w w' → wpListIn F n Tryz.prog ops Q rest (a.put o.dst v') w') : wpListIn F n Tryz.prog ops Q (o :: rest) a w := by
 obtain ⟨i0, hi, hz0, hz1, hz2⟩ := info_parts Tryz.info9
 refine wpListIn_append_own w hgd s x 40 ho base 9 i0 _ 1 16 Tryz.underlying40 hi hz0 hz1 hz2 rfl (by decide) v l.length (l.map Value.string) hs hown ⟨g, 0, none⟩ 1 1 [.string t] hx rfl ?_ (by intro u hu; simp at hu; subst hu; rfl) (by unfold maxLen; omega) (by omega) hbase ?_
 ·intro j u hu
  have hj : j = 0 := by
   have := (List.getElem?_eq_some_iff.1 hu).1
   simpa using this
  subst hj
  simp at hu
  subst hu
  have e1 : (⟨g, 0, none⟩ : Addr).add 0 = ⟨g, 0, none⟩ := by unfold Addr.add; split <;> simp_all
  rw [e1]; exact hg
 ·intro v' w' h1 h2 _
  refine h v' w' ?_ h2 ((Below.refl base w).grown h2 hbase (fun k hk => (hown.lt k hk).1))
  unfold OwnS
  rw [List.length_append, List.map_append]
  exact h1
theorem kept_row {T e : TypeId} {w w' : World} {base n size : Nat} {v : Value} {l : List Value} (hT : T ≠ e) (h : w.ownsRow base e size v n l) (hg : w.grownBy w' v.ownBlock) (hb : base ≤ w.heap.size) : Kept T base [] w w' := by
 refine ⟨hg.size, fun k h1 _ _ => ((Below.refl base w).grown hg hb (fun k hk => (World.ownsRow.lt h k hk).1)).block k h1, fun k c fz _ h2 => hg.block k (heap_lt h2) fun e1 => ?_⟩
 rcases h.2 with ⟨rfl, _⟩ | ⟨g, cap, cur, rfl, _, hh, _⟩
 ·cases e1
 ·obtain rfl : k = g := by simpa [Value.ownBlock] using e1
  rw [hh] at h2
  cases h2
  exact hT rfl
theorem OwnS.slice {w : World} {base : Nat} {v : Value} {l : List ByteArray} (h : OwnS w base v l) : ∃ a n cap, v = .slice a n cap := by
 rcases h.2 with ⟨rfl, _⟩ | ⟨g, cap, cur, rfl, _⟩
 ·exact ⟨_, _, _, rfl⟩
 ·exact ⟨_, _, _, rfl⟩
theorem textsF_length : ∀ (n at_ : Nat) (s : ByteArray), (textsF n at_ s).length ≤ n
 |0, _, _ => Nat.le_refl _
 |n + 1, at_, s => by
  obtain ⟨⟨t, k, e⟩, ht⟩ : ∃ x, getP (s.extract at_ s.size) = x := ⟨_, rfl⟩
  by_cases he : e = 0
  ·subst he
   rw [textsF_yes ht, List.length_cons]
   have := textsF_length n (at_ + k) s
   omega
  ·rw [textsF_no ht he]
   exact Nat.zero_le _
def endOf (l : List (Nat × ByteArray)) : Nat := (l.getLast?.map (·.1)).getD 0
theorem endOf_snoc (l : List (Nat × ByteArray)) (x : Nat × ByteArray) : endOf (l ++ [x]) = x.1 := by unfold endOf; simp
structure RangeT (w w1 : World) (pre : List (Nat × ByteArray)) (W : World) : Prop where
 ex : ∃ v, W.heap[w.heap.size]? = some (.cells #[v] 40 (0, 0)) ∧ OwnS W (w1.heap.size + 2) v (pre.map (·.2))
 en : W.heap[w.heap.size + 1]? = some (.cells #[.int .i64 (endOf pre)] 3 (0, 0))
 fp : Fp [] w W
theorem RangeT.on {w w1 A B : World} {pre : List (Nat × ByteArray)} {S : List Nat} (h : RangeT w w1 pre A) (hf : Fp S A B) (hS : ∀ k ∈ S, w.heap.size + 2 ≤ k ∧ k < w1.heap.size + 2) : RangeT w w1 pre B := by
 obtain ⟨v, hv, ho⟩ := h.ex
 refine ⟨⟨v, (hf.block _ (heap_lt hv) fun hm => by have := hS _ hm; omega).trans hv, ho.fp hf fun k hk => (hS k hk).2⟩, (hf.block _ (heap_lt h.en) fun hm => by have := hS _ hm; omega).trans h.en, h.fp.trans hf fun k hk => Or.inr (by have := hS k hk; omega)⟩
def actT (w : World) (s : ByteArray) (x : Nat × ByteArray) : Act := { tmps := #[.string s, undef, .pointer (some ⟨w.heap.size, 0, none⟩), .pointer (some ⟨w.heap.size + 1, 0, none⟩), .int .i64 x.1, .string x.2, .string s, .func (.func 149) #[] #[.pointer (some ⟨w.heap.size + 1 + 1, 0, none⟩)], .int .i64 x.1, .string x.2, undef, undef, undef, undef, undef, undef, undef], defers := [] }
structure AllC (W : World) (b : Nat) (v : Value) (en : Nat) (w' : World) : Prop where
 h0 : w'.heap[b]? = some (.cells #[v] 40 (0, 0))
 h1 : w'.heap[b + 1]? = some (.cells #[.int .i64 en] 3 (0, 0))
 fp : Fp [b, b + 1] W w'
theorem AllC.q0 {W w' : World} {b en : Nat} {v : Value} (h : AllC W b v en w') : w'.cell? ⟨b, 0, none⟩ = some v := cell_of_block h.h0 0
theorem AllC.q1 {W w' : World} {b en : Nat} {v : Value} (h : AllC W b v en w') : w'.cell? ⟨b + 1, 0, none⟩ = some (.int .i64 en) := cell_of_block h.h1 0
theorem AllC.z0 {W w' : World} {b en : Nat} {v : Value} (h : AllC W b v en w') : w'.frozen? ⟨b, 0, none⟩ = false := frozen_of_block h.h0 0
theorem AllC.z1 {W w' : World} {b en : Nat} {v : Value} (h : AllC W b v en w') : w'.frozen? ⟨b + 1, 0, none⟩ = false := frozen_of_block h.h1 0
theorem AllC.st0 {W w' : World} {b en : Nat} {v : Value} (h : AllC W b v en w') : AllC W b v en (w'.setCell ⟨b, 0, none⟩ v) :=
 ⟨(heap_setCell_same h.h0 v).trans rfl, ((Fp.setCell w' ⟨b, 0, none⟩ v).block _ (heap_lt h.h1) (by simp)).trans h.h1, h.fp.setCell' (Or.inl (by simp)) _⟩
theorem AllC.st1 {W w' : World} {b en : Nat} {v : Value} (h : AllC W b v en w') : AllC W b v en (w'.setCell ⟨b + 1, 0, none⟩ (.int .i64 en)) :=
 ⟨((Fp.setCell w' ⟨b + 1, 0, none⟩ _).block _ (heap_lt h.h0) (by simp)).trans h.h0, (heap_setCell_same h.h1 _).trans rfl, h.fp.setCell' (Or.inl (by simp)) _⟩
attribute [local go_sem] Oper.semAt_some
theorem all_any (w : World) (s : ByteArray) (hs : s.size ≤ 100000000) (ht : TabAt w) :
  Calls Tryz.prog 37 #[.string s] w fun e w' => ∃ v, e = .returned (.tuple #[v, .int .i64 (endOf (textsP s))]) ∧ OwnS w' w.heap.size v ((textsP s).map (·.2)) ∧ Fp [] w w' := by
 have HT := Lib.hid ht
 clear ht
 have HFN := Lib.hid (fun w => textsfn_any w s)
 rw [← callsIn_wide (n := 5)]
 refine callsIn_of_wp_marks Tryz.func37 rfl trivial ?_ rfl
 simp only [Tryz.ntmps37, List.size_toArray, List.length_cons, List.length_nil, Nat.reduceAdd, Nat.reduceSub, Array.replicate_succ, Array.replicate_zero, List.push_toArray, List.append_toArray, List.nil_append, List.cons_append]
 gi_wp2_with (fail)
 refine ⟨trivial, ?_⟩
 (with_reducible refine ((callsIn_wide (n := 4)).2 (HFN.out _)).mono ?_)
 rintro e w1 ⟨rfl, hbx, hf1⟩
 have hl0 : w1.heap[w.heap.size]? = some (.cells #[.slice none 0 0] 40 (0, 0)) := (hf1.block _ (by simp; omega) (by simp)).trans (heap_alloc_old (heap_alloc_at rfl _))
 have hl1 : w1.heap[w.heap.size + 1]? = some (.cells #[.int .i64 0] 3 (0, 0)) := (hf1.block _ (by simp) (by simp)).trans (heap_alloc_at (by simp) _)
 have hsz0 : w.heap.size + 2 < w1.heap.size := heap_lt (by simpa using hbx)
 have HBX : Hid (w1.heap[w.heap.size + 1 + 1]? = some (.cells #[.string s] 9 (0, 0))) := by show w1.heap[w.heap.size + 1 + 1]? = _; simpa using hbx
 have HF1 : Hid (Fp [] w w1) := ((Fp.alloc _ _).alloc' _).trans hf1 (by simp)
 have HT1 := Lib.hid (HT.out.fp HF1.out (by simp))
 have HL0 := Lib.hid hl0
 have HL1 := Lib.hid hl1
 have htb : 0 < w1.heap.size := World.block_lt_of_cell? _ _ (HT1.out 0 (by decide))
 have htb0 : 0 < w.heap.size := World.block_lt_of_cell? _ _ (HT.out 0 (by decide))
 clear hbx hf1 hl0 hl1
 gi_wp2_with (fail)
 refine range_reader (α := Nat × ByteArray) (encs := encT) rfl (enters_of Tryz.func149 (by kernel_rfl) rfl) (fun _ => rfl) 157 [w.heap.size, w.heap.size + 1] [] (by simp; omega) (by simp) (w.heap.size + 2) (by omega) 0
  (fun pre x => ∃ post, textsP s = pre ++ x :: post) (RangeT w w1) (fun _ _ => False) (fun xs _ => xs = textsP s)
  (fun _ => True) (fun s A B k h hf hk => h.on hf (by simp; omega)) (fun s A B h hf _ => h.on hf (by simp; omega)) (fun _ _ _ h _ => h) (fun _ _ _ h _ => h) ?_ ?_ (fun x a' _ => a' = actT w s x) (fun _ _ _ _ h _ => h) ?_ ?_ ?_ (fun _ _ h => h.elim)
 ·intro J Jx W1 hf1 hsz1 hJ hY hJ0
  exact texts_any (w1.heap.size + 2) (w1.heap.size + 1) (5 - 1) (w.heap.size + 1 + 1) W1 s (by decide) ((hf1.block _ (by omega) (by simp)).trans HBX.out) hs (HT1.out.fp hf1 (by simp)) (by omega) (by omega) (by omega) (by omega) [w.heap.size, w.heap.size + 1] (by intro k hk; simp only [List.mem_cons, List.not_mem_nil, or_false] at hk; omega) J Jx (fun s A B h hf => hJ s A B h (hf.mono (by simp)) trivial) hY hJ0
 ·exact ⟨⟨.slice none 0 0, HL0.out, OwnS.nil _ _⟩, HL1.out, HF1.out⟩
 ·intro l x W K hW hK
  simp only [encT]
  gi_wp2_with (fail)
  exact hK _ _ (Fp.refl _ _) rfl
 ·rintro l pre ⟨xa, t⟩ a' W ⟨post, hpost⟩ hI hW rfl
  have hpl : pre.length ≤ 100000001 := by
   have h1 := textsF_length (s.size + 1) 0 s
   have h2 : (textsP s).length = pre.length + (post.length + 1) := by rw [hpost, List.length_append, List.length_cons]
   unfold textsP at h2
   omega
  obtain ⟨v, hv, ho⟩ := hI.ex
  have q0 : ∀ X : Obj, (W.alloc X).cell? ⟨w.heap.size, 0, none⟩ = some v := fun X => cell_of_block (heap_alloc_old hv) 0
  have q00 : W.cell? ⟨w.heap.size, 0, none⟩ = some v := cell_of_block hv 0
  have HI := Lib.hid hI
  have HV := Lib.hid hv
  have HO := Lib.hid ho
  have HEN := Lib.hid hI.en
  clear hI hv ho hpost
  unfold actT
  gi_wp2_with (gi_at_builtin; (refine wpListIn_append_one rfl _ _ rfl (w1.heap.size + 2) _ (pre.map (·.2)) rfl (HO.out.fp (Fp.alloc _ _) (by simp)) _ t rfl (by rw [cell_of_block (heap_alloc_at rfl _)]; rfl) (by simp; omega) (by simp; omega) ?_); intro v3 w3 ho3 hg3 hb3; obtain ⟨a3, n3, cap3, rfl⟩ := ho3.slice; have HO3 := Lib.hid ho3; have HB3 := Lib.hid hb3; have HK3 := Lib.hid (kept_row (show 157 ≠ 9 by decide) (HO.out.fp (Fp.alloc _ _) (by simp)) hg3 (by simp; omega)); have HV3 := Lib.hid ((hb3.block _ (by omega)).trans (heap_alloc_old HV.out)); have HEN3 := Lib.hid ((hb3.block _ (by omega)).trans (heap_alloc_old HEN.out)); have f1 : w3.frozen? ⟨w.heap.size, 0, none⟩ = false := frozen_of_block HV3.out 0; have f2 : w3.frozen? ⟨w.heap.size + 1, 0, none⟩ = false := frozen_of_block HEN3.out 0; have c1 : w3.cell? ⟨w.heap.size, 0, none⟩ = some v := cell_of_block HV3.out 0; have c2 : w3.cell? ⟨w.heap.size + 1, 0, none⟩ = some (.int .i64 (endOf pre)) := cell_of_block HEN3.out 0; clear ho3 hg3 hb3)
  have hk0 := ((Kept.of (Fp.alloc W (.cells #[.string t] 9)) (by simp) : Kept 157 (w1.heap.size + 2) [] W _).trans HK3.out (by simp)).mono (S' := [w.heap.size, w.heap.size + 1]) (by simp)
  have hf5 : Fp [w.heap.size, w.heap.size + 1] w3 ((w3.setCell ⟨w.heap.size, 0, none⟩ (.slice a3 n3 cap3)).setCell ⟨w.heap.size + 1, 0, none⟩ (.int .i64 xa)) := ((Fp.setCell w3 ⟨w.heap.size, 0, none⟩ (.slice a3 n3 cap3)).mono (by simp)).setCell' (Or.inl (by simp)) _
  have h4 : (w3.setCell ⟨w.heap.size, 0, none⟩ (.slice a3 n3 cap3)).heap[w.heap.size]? = some (.cells #[.slice a3 n3 cap3] 40 (0, 0)) := (heap_setCell_same HV3.out _).trans rfl
  have h5 : (w3.setCell ⟨w.heap.size, 0, none⟩ (.slice a3 n3 cap3)).heap[w.heap.size + 1]? = some (.cells #[.int .i64 (endOf pre)] 3 (0, 0)) := ((Fp.setCell w3 ⟨w.heap.size, 0, none⟩ (.slice a3 n3 cap3)).block _ (heap_lt HEN3.out) (by simp)).trans HEN3.out
  refine ⟨hk0.trans (Kept.of hf5 (by intro k hk; simp only [List.mem_cons, List.not_mem_nil, or_false] at hk; omega)) (by simp), ⟨.slice a3 n3 cap3, ?_, ?_⟩, ?_, ?_⟩
  ·exact ((Fp.setCell (w3.setCell ⟨w.heap.size, 0, none⟩ (.slice a3 n3 cap3)) ⟨w.heap.size + 1, 0, none⟩ (.int .i64 xa)).block _ (heap_lt h4) (by simp)).trans h4
  ·rw [List.map_append]
   exact HO3.out.fp hf5 (by intro k hk; simp only [List.mem_cons, List.not_mem_nil, or_false] at hk; omega)
  ·rw [endOf_snoc]
   exact (heap_setCell_same h5 _).trans rfl
  ·exact (((HI.out.fp.alloc' _).belowTrans (HB3.out.mono (by omega))).setCell' (Or.inr (Nat.le_refl _)) _).setCell' (Or.inr (by show w.heap.size ≤ w.heap.size + 1; omega)) _
 ·rintro xs W rfl hI hK
  obtain ⟨v, hv, ho⟩ := hI.ex
  obtain ⟨va, vn, vc, rfl⟩ := ho.slice
  have HI := Lib.hid hI
  have HK := Lib.hid hK
  have HV := Lib.hid hv
  have HO := Lib.hid ho
  clear hI hK hv ho
  gi_wp2_with (fail)
  refine wpIn_wide.2 ?_
  refine wp_region_n (fun _ w' => AllC W w.heap.size (.slice va vn vc) (endOf (textsP s)) w') (fun _ _ => True) (by kernel_rfl) (by kernel_rfl) ⟨HV.out, HI.out.en, (Fp.drew W).mono (by simp)⟩ ?_
  iterate 2
   apply nx_plain (fun _ _ h => h) rfl rfl rfl
   ·intro b a w hC hA K hK
    have := hA.f 2
    have := hA.f 3
    have q0 := hC.q0
    have q1 := hC.q1
    simp only [Oper.wp, execOp]; go_simp
    exact hK _ hC trivial
  apply nx_effect (fun _ => True) rfl rfl
  ·intro b a w hC hA K hK
   have h2 := hA.f 2
   have h15 := hA.e 0 15
   have q0 := hC.q0
   have z0 := hC.z0
   simp only [Oper.wp, execOp]; go_simp
   exact hK undef _ hC.st0 trivial trivial
  apply nx_effect (fun _ => True) rfl rfl
  ·intro b a w hC hA K hK
   have h3 := hA.f 3
   have h16 := hA.e 1 16
   have q1 := hC.q1
   have z1 := hC.z1
   simp only [Oper.wp, execOp]; go_simp
   exact hK undef _ hC.st1 trivial trivial
  refine ⟨?_, ?_⟩
  ·refine ⟨fun _ _ _ _ _ => trivial, ?_⟩
   refine ⟨fun _ _ _ _ _ => trivial, ?_⟩
   refine stabN_val _ ?_
   refine stabN_val _ ?_
   exact trivial
  ·intro wa bb hC hbb
   simp only [List.reverse_cons, List.reverse_nil, List.nil_append, List.cons_append]
   iterate 2 (refine all_val ?_)
   refine all_some ?_
   intro v2 u2
   refine all_some ?_
   intro v3 u3
   refine all_nil ?_
   simp only [putAll, Act.put, List.setIfInBounds_toArray, List.set_cons_succ, List.set_cons_zero]
   have HA := Lib.hid hC
   have q0 := hC.q0
   have q1 := hC.q1
   clear hC hbb u2 u3
   have hk2 : wa.heap[w1.heap.size]? = some (.deferred (some [])) := (HA.out.fp.block _ (heap_lt HK.out) (by simp; omega)).trans HK.out
   have hp := Fp.putObj wa w1.heap.size (.deferred none)
   gi_wp2_with (fail)
   refine ⟨by simp, .inl ⟨_, _, rfl, run_takeDeferred hk2, ?_⟩⟩
   have c0 : (wa.putObj w1.heap.size (.deferred none)).cell? ⟨w.heap.size, 0, none⟩ = some (.slice va vn vc) := cell_of_block ((hp.block _ (heap_lt HA.out.h0) (by simp; omega)).trans HA.out.h0) 0
   have c1 : (wa.putObj w1.heap.size (.deferred none)).cell? ⟨w.heap.size + 1, 0, none⟩ = some (.int .i64 (endOf (textsP s))) := cell_of_block ((hp.block _ (heap_lt HA.out.h1) (by simp; omega)).trans HA.out.h1) 0
   have hfa := HA.out.fp
   exact ⟨.tuple #[.slice va vn vc, .int .i64 (endOf (textsP s))], by simp [results, Tryz.results37, go_sem, c0, c1], .slice va vn vc, rfl, ((HO.out.fp hfa (by simp; omega)).mono (by omega)).kept (fun k hk => hp.block k (((HO.out.fp hfa (by simp; omega)).lt k hk).2) (by have := ((HO.out.fp hfa (by simp; omega)).lt k hk).1; simp; omega)), ((HI.out.fp.trans hfa (by intro i hi; right; simp at hi; omega)).trans hp (by intro i hi; right; simp at hi; omega))⟩
end
section
open Go.RowKit
def leL (n k : Nat) : List UInt8 := (List.range k).map (byteN n)
def leB (n k : Nat) : ByteArray := bl (leL n k)
theorem leL_length (n k : Nat) : (leL n k).length = k := by simp [leL]
theorem leB_size (n k : Nat) : (leB n k).size = k := by unfold leB; rw [bl_size, leL_length]
theorem leL_succ (n k : Nat) : leL n (k + 1) = leL n k ++ [byteN n k] := by unfold leL; rw [List.range_succ, List.map_append]; rfl
theorem tlittle_any (w : World) (n m : Nat) (hn : n < 18446744073709551616) (hm : m ≤ 8) :
  Calls Tryz.prog 88 #[.int .u64 n, .int .i64 m] w fun e w' => e = .returned (.string (leB n m)) ∧ Fp [] w w' := by
 have HN := Lib.hid hn
 clear hn
 go_enter Tryz.func88, Tryz.ntmps88
 go_wp2
 go_loopg [5, 8] m (fun g v' i wr => ∃ k : Nat, g + k = m ∧ i = .int .i64 k ∧ Owned wr w.heap.size v' (leL n k) ∧ Below w.heap.size w wr)
 case atStart => exact ⟨0, by omega, rfl, Owned.nil _ _, Below.refl _ _⟩
 case round =>
  obtain ⟨k, hg, rfl, ho, hbel⟩ := hrel
  have HO := Lib.hid ho
  have HB := Lib.hid hbel
  clear ho hbel
  by_cases hk : k < m
  ·have hk8 : k < 8 := by omega
   have hcl : (wr.alloc (.cells #[.int .u8 ((n : Int) / 2 ^ (8 * k) % 256)] 5)).cell? ⟨wr.heap.size, 0, none⟩ = some (byteV (byteN n k)) := by
    rw [byteV_byteN]; exact cell_of_block (heap_alloc_at rfl _) 0
   have HCL := Lib.hid hcl
   have hbw : w.heap.size ≤ wr.heap.size := HB.out.size
   have hlk : (leL n k).length + 1 ≤ 1000000000 := by rw [leL_length]; omega
   have HLK := Lib.hid hlk
   have zk : (k : Int) < (m : Int) := by omega
   clear hcl hlk
   go_wp2_with (at_builtin; refine wpList_append_bytes rfl _ _ rfl w.heap.size _ _ rfl (HO.out.alloc _) wr.heap.size 0 1 1 [byteN n k] rfl rfl (one_news HCL.out) HLK.out (by simp; omega) ?_; intro v2 w2 hown2 hbel2)
   have HO2 := Lib.hid hown2
   have HB2 := Lib.hid hbel2
   clear hown2 hbel2
   go_wp2
   go_roundg (gk - 1)
   case measure => omega
   case rel => exact ⟨k + 1, by omega, by go_num, by rw [leL_succ]; exact HO2.out, (HB.out.alloc hbw _).trans HB2.out⟩
  ·obtain rfl : k = m := by omega
   have hcv := run_str_of HO.out
   rw [show (⟨(leL n k).toArray⟩ : ByteArray) = leB n k from rfl] at hcv
   have zk : ¬ (k : Int) < (k : Int) := by omega
   go_wp2_with (fail)
   go_ret
   exact ⟨rfl, Fp.refl _ _ |>.belowTrans HB.out⟩
def recP (s : ByteArray) : ByteArray := (putP s).1
theorem tput_any (s : ByteArray) (w : World) (hs : s.size ≤ 100000000) (ht : TabAt w) :
  Calls Tryz.prog 89 #[.string s] w fun e w' => e = .returned (.string (recP s)) ∧ Fp [] w w' := by
 have HP := Lib.hid (put_any s w hs ht)
 have HR : Hid (recP s = (putP s).1) := rfl
 obtain ⟨⟨t, n⟩, hp⟩ : ∃ x, putP s = x := ⟨_, rfl⟩
 rw [hp] at HP HR
 clear hp ht
 go_enter Tryz.func89, Tryz.ntmps89
 go_wp2_with (fail)
 (with_reducible refine HP.out.mono ?_)
 rintro e w1 ⟨rfl, hf⟩
 have HF := Lib.hid hf
 clear hf
 go_wp2_with (fail)
 go_ret
 exact ⟨by rw [HR.out]; rfl, HF.out⟩
structure Foot where
 blocks : Nat
 index : Nat
 filter : Nat
 seq : Nat
def Foot.text (f : Foot) : ByteArray := leB f.blocks 4 ++ leB f.index 4 ++ leB f.filter 4 ++ leB f.seq 8
def footV (f : Foot) : Value := .agg #[.int .i64 f.blocks, .int .i64 f.index, .int .i64 f.filter, .int .u64 f.seq]
theorem foottext_any (f : Foot) (w : World) (h1 : f.blocks ≤ 1000000000) (h2 : f.index ≤ 1000000000) (h3 : f.filter ≤ 1000000000) (h4 : f.seq < 18446744073709551616) :
  Calls Tryz.prog 93 #[footV f] w fun e w' => e = .returned (.string f.text) ∧ Fp [] w w' := by
 obtain ⟨b, i, t, q⟩ := f
 simp only at h1 h2 h3 h4
 have HX : Hid (Foot.text ⟨b, i, t, q⟩ = leB b 4 ++ leB i 4 ++ leB t 4 ++ leB q 8) := rfl
 have s1 := leB_size b 4
 have s2 := leB_size i 4
 have s3 := leB_size t 4
 have s4 := leB_size q 8
 have M1 := Lib.hid (show ∀ w, Calls Tryz.prog 88 #[.int .u64 b, .int .i64 4] w (fun e w' => e = .returned (.string (leB b 4)) ∧ Fp [] w w') from fun w => tlittle_any w b 4 (by omega) (by decide))
 have M2 := Lib.hid (show ∀ w, Calls Tryz.prog 88 #[.int .u64 i, .int .i64 4] w (fun e w' => e = .returned (.string (leB i 4)) ∧ Fp [] w w') from fun w => tlittle_any w i 4 (by omega) (by decide))
 have M3 := Lib.hid (show ∀ w, Calls Tryz.prog 88 #[.int .u64 t, .int .i64 4] w (fun e w' => e = .returned (.string (leB t 4)) ∧ Fp [] w w') from fun w => tlittle_any w t 4 (by omega) (by decide))
 have M4 := Lib.hid (show ∀ w, Calls Tryz.prog 88 #[.int .u64 q, .int .i64 8] w (fun e w' => e = .returned (.string (leB q 8)) ∧ Fp [] w w') from fun w => tlittle_any w q 8 h4 (by decide))
 obtain ⟨x1, hx1⟩ : ∃ x, leB b 4 = x := ⟨_, rfl⟩
 obtain ⟨x2, hx2⟩ : ∃ x, leB i 4 = x := ⟨_, rfl⟩
 obtain ⟨x3, hx3⟩ : ∃ x, leB t 4 = x := ⟨_, rfl⟩
 obtain ⟨x4, hx4⟩ : ∃ x, leB q 8 = x := ⟨_, rfl⟩
 rw [hx1] at s1 HX M1
 rw [hx2] at s2 HX M2
 rw [hx3] at s3 HX M3
 rw [hx4] at s4 HX M4
 clear hx1 hx2 hx3 hx4
 have w1 : IntKind.u64.wrap (b : Int) = b := by rw [IntKind.wrap_u64]; omega
 have w2 : IntKind.u64.wrap (i : Int) = i := by rw [IntKind.wrap_u64]; omega
 have w3 : IntKind.u64.wrap (t : Int) = t := by rw [IntKind.wrap_u64]; omega
 have HC0 : Hid ((w.alloc (.cells #[.int .i64 b, .int .i64 i, .int .i64 t, .int .u64 q] 84)).heap[w.heap.size]? = some (.cells #[.int .i64 b, .int .i64 i, .int .i64 t, .int .u64 q] 84 (0, 0))) := heap_alloc_at rfl _
 unfold footV
 go_enter Tryz.func93, Tryz.ntmps93
 go_wp2_with (fail)
 refine wp_region_calm (by kernel_rfl) (by kernel_rfl) ?_
 iterate 19
  apply ex_plain rfl rfl rfl
  ·intro a w hC hA K hK
   have := hA.f 1
   try have := hA.e 0 3
   try have := hA.e 1 4
   try have := hA.e 2 5
   try have := hA.e 4 7
   try have := hA.e 5 8
   try have := hA.e 6 9
   try have := hA.e 3 6
   try have := hA.e 7 10
   try have := hA.e 9 12
   try have := hA.e 10 13
   try have := hA.e 11 14
   try have := hA.e 8 11
   try have := hA.e 12 15
   try have := hA.e 14 17
   try have := hA.e 15 18
   try have := hA.e 13 16
   try have := hA.e 16 19
   try have := hA.e 17 20
   have hb := (hC.block _ (by simp) (by simp)).trans HC0.out
   have q0 := cell_of_block hb 0
   have q1 := cell_of_block hb 1
   have q2 := cell_of_block hb 2
   have q3 := cell_of_block hb 3
   simp only [List.getElem?_toArray, List.getElem?_cons_succ, List.getElem?_cons_zero] at q0 q1 q2 q3
   simp only [Oper.wp, execOp]; go_simp
   first
   |exact hK _ hC (Fp.refl _ _)
   |first
     |((with_reducible refine (M1.out _).mono ?_); rintro e w2 ⟨rfl, hf⟩; exact hK _ (hC.trans hf (by simp)) hf)
     |((with_reducible refine (M2.out _).mono ?_); rintro e w2 ⟨rfl, hf⟩; exact hK _ (hC.trans hf (by simp)) hf)
     |((with_reducible refine (M3.out _).mono ?_); rintro e w2 ⟨rfl, hf⟩; exact hK _ (hC.trans hf (by simp)) hf)
     |((with_reducible refine (M4.out _).mono ?_); rintro e w2 ⟨rfl, hf⟩; exact hK _ (hC.trans hf (by simp)) hf)
 refine ex_end ?_
 iterate 19 refine end_val ?_
 refine end_nil fun w' hC => ?_
 ·simp only [putAll, Act.put, List.setIfInBounds_toArray, List.set_cons_succ, List.set_cons_zero]
  have HF := Lib.hid ((Fp.alloc w _).trans hC (by simp))
  clear hC
  go_wp2_with (fail)
  go_ret
  exact ⟨by rw [HX.out]; rfl, HF.out⟩
end
section
open Go.RowKit
def partsI (len : Nat) : List (Nat × Nat) := (List.range ((len + 7) / 8)).map fun k => (8 * k, min 8 (len - 8 * k))
theorem partsI_length (len : Nat) : (partsI len).length = (len + 7) / 8 := by simp [partsI]
theorem partsI_split {len k : Nat} (h : 8 * k < len) : partsI len = (partsI len).take k ++ (8 * k, min 8 (len - 8 * k)) :: (partsI len).drop (k + 1) := by
 have hk : k < (partsI len).length := by rw [partsI_length]; omega
 have e : (partsI len)[k] = (8 * k, min 8 (len - 8 * k)) := by simp [partsI]
 conv => lhs; rw [← List.take_append_drop k (partsI len), List.drop_eq_getElem_cons hk, e]
def partV (b o : Nat) (x : Nat × Nat) : Value := .slice (some ⟨b, o + x.1 * 6, none⟩) x.2 x.2
def encP (b o : Nat) (x : Nat × Nat) : Array Value := #[partV b o x]
theorem chunks_any (base L n bs bn : Nat) (w : World) (b o len cap : Nat) (hn : 1 ≤ n) (hbs : w.heap[bs]? = some (.cells #[.slice (some ⟨b, o, none⟩) len cap] 33 (0, 0))) (hbn : w.heap[bn]? = some (.cells #[.int .i64 8] 3 (0, 0)))
  (hlc : len ≤ cap) (hcm : len ≤ 1000000000) (hbsl : bs < base) (hbnl : bn < base) (hsL : bs ≠ L) (hnL : bn ≠ L)
  (S0 : List Nat) (hS0 : ∀ k ∈ S0, k < base ∧ k ≠ bs ∧ k ≠ bn) (J Jx : List (Nat × Nat) → World → Prop)
  (hJ : ∀ s A B, J s A → Fp [] A B → J s B)
  (hy : ∀ pre x W, (∃ post, partsI len = pre ++ x :: post) → J pre W → YieldAt Fence.wide (n - 1) Tryz.prog L (encP b o x) W fun e W' => (e = .returned (.bool true) ∧ J (pre ++ [x]) W' ∧ Kept 157 base (L :: S0) W W') ∨ (e = .returned (.bool false) ∧ Jx (pre ++ [x]) W'))
  (h0 : J [] w) :
  CallsIn Fence.wide n Tryz.prog 117 #[.func (.yield L) #[] #[], .pointer (some ⟨bs, 0, none⟩), .pointer (some ⟨bn, 0, none⟩)] w fun e w' => (∃ v, e = .returned v) ∧ ((∃ xs, xs = partsI len ∧ J xs w') ∨ ∃ pre, Jx pre w') := by
 rw [callsIn_wide]
 have HY := Lib.hid hy
 have HJ := Lib.hid hJ
 have HS0 := Lib.hid hS0
 have HBS := Lib.hid hbs
 have HBN := Lib.hid hbn
 clear hy hJ hS0 hbs hbn
 go_enter Tryz.func117, Tryz.ntmps117
 go_wp2_with (fail)
 go_loopg [4] ((len + 7) / 8) (fun g vi wr => ∃ (k i : Nat), g + k = (len + 7) / 8 ∧ i = 8 * k ∧ vi = .int .i64 i ∧ J ((partsI len).take k) wr ∧ Kept 157 base (L :: S0) w wr)
 case atStart => exact ⟨0, 0, by omega, rfl, rfl, by simpa using h0, Kept.of (Fp.refl [] _) (by simp) |>.mono (by simp)⟩
 case round =>
  obtain ⟨k, i, hg, hik, rfl, hj, hf⟩ := hrel
  have HFW := Lib.hid hf
  have HJK := Lib.hid hj
  clear hf hj
  have hbs1 : wr.heap[bs]? = some (.cells #[.slice (some ⟨b, o, none⟩) len cap] 33 (0, 0)) := (HFW.out.low _ hbsl (heap_lt HBS.out) (by intro h; rcases List.mem_cons.1 h with h | h; exact hsL h; exact (HS0.out _ h).2.1 rfl)).trans HBS.out
  have hbn1 : wr.heap[bn]? = some (.cells #[.int .i64 8] 3 (0, 0)) := (HFW.out.low _ hbnl (heap_lt HBN.out) (by intro h; rcases List.mem_cons.1 h with h | h; exact hnL h; exact (HS0.out _ h).2.2 rfl)).trans HBN.out
  have q0 : wr.cell? ⟨bs, 0, none⟩ = some (.slice (some ⟨b, o, none⟩) len cap) := cell_of_block hbs1 0
  have HBS1 := Lib.hid hbs1
  have HBN1 := Lib.hid hbn1
  clear hbs1 hbn1
  by_cases hlt : i < len
  ·have z0 : (i : Int) < (len : Int) := by omega
   have z1 : (i : Int) ≤ (len : Int) := by omega
   have z2 : (len : Int) ≤ (cap : Int) := by omega
   have hci : ¬ cap = i := by omega
   obtain ⟨m, hm⟩ : ∃ m, min 8 (len - i) = m := ⟨_, rfl⟩
   have hmin : min (8 : Int) ((len - i : Nat) : Int) = (m : Int) := by omega
   have hm0 : 0 < m := by omega
   have HSP := Lib.hid (partsI_split (len := len) (k := k) (by omega))
   rw [← hik, hm] at HSP
   obtain ⟨d, hd⟩ : ∃ d, len - i = d := ⟨_, rfl⟩
   rw [hd] at hmin
   obtain ⟨e2, he2⟩ : ∃ e2, i + m = e2 := ⟨_, rfl⟩
   have n1 : IntKind.i64.wrap ((i : Int) + (m : Int)) = (e2 : Int) := by rw [IntKind.wrap_i64]; omega
   have z3 : (e2 : Int) ≤ (cap : Int) := by omega
   have z4 : (i : Int) ≤ (e2 : Int) := by omega
   have hde : e2 - i = m := by omega
   have hei : ¬ e2 = i := by omega
   have n2 : IntKind.i64.wrap ((i : Int) + 8) = ((i + 8 : Nat) : Int) := by rw [IntKind.wrap_i64]; omega
   obtain ⟨j, hj2⟩ : ∃ j, i + 8 = j := ⟨_, rfl⟩
   rw [hj2] at n2
   have HIK := Lib.hid hik
   have HE2 := Lib.hid he2
   have HJJ := Lib.hid hj2
   clear hik hm he2 hj2
   go_wp2_with (fail)
   refine wp_region_calm (by kernel_rfl) (by kernel_rfl) ?_
   iterate 7
    apply ex_plain rfl rfl rfl
    ·intro a w hC hA K hK
     have := hA.f 2
     have := hA.f 1
     have := hA.f 4
     try have := hA.e 1 14
     try have := hA.e 2 15
     try have := hA.e 3 16
     try have := hA.e 0 13
     try have := hA.e 4 17
     try have := hA.e 5 18
     have r0 := cell_of_block ((hC.block _ (heap_lt HBS1.out) (by simp)).trans HBS1.out) 0
     have r1 := cell_of_block ((hC.block _ (heap_lt HBN1.out) (by simp)).trans HBN1.out) 0
     simp only [List.getElem?_toArray, List.getElem?_cons_zero] at r0 r1
     simp only [Oper.wp, execOp]; go_simp
     exact hK _ hC (Fp.refl _ _)
   refine ex_end ?_
   iterate 7 refine end_val ?_
   refine end_nil fun w' hC => ?_
   ·simp only [putAll, Act.put, List.setIfInBounds_toArray, List.set_cons_succ, List.set_cons_zero]
    have HF1 := Lib.hid (HFW.out.trans (Kept.of (hC.mono (by simp) : Fp [] wr w') (by simp)) (by simp))
    have HJ1 := Lib.hid (HJ.out _ _ _ HJK.out hC)
    have hbs2 := (hC.block _ (heap_lt HBS1.out) (by simp)).trans HBS1.out
    have q1 : w'.cell? ⟨bs, 0, none⟩ = some (.slice (some ⟨b, o, none⟩) len cap) := cell_of_block hbs2 0
    have HBN2 := Lib.hid ((hC.block _ (heap_lt HBN1.out) (by simp)).trans HBN1.out)
    clear hC hbs2
    obtain ⟨fn, tm, asg, bd, hyl, hrd⟩ := HY.out ((partsI len).take k) (i, m) w' ⟨_, HSP.out⟩ HJ1.out
    have HRD := Lib.hid hrd
    clear hrd
    unfold encP partV at hyl
    simp only at hyl
    go_upto_region 4 with (fail)
    refine (wpIn_wide (n := n)).1 ?_
    gi_wp2_with (fail)
    (with_reducible refine HRD.out.mono ?_)
    rintro e W1 (⟨rfl, hj1, hf1⟩ | ⟨rfl, hjx⟩)
    ·have HJ2 := Lib.hid hj1
     have HFW2 := Lib.hid (HF1.out.trans hf1 (by intro i hi; exact hi))
     have r2 : W1.cell? ⟨bn, 0, none⟩ = some (.int .i64 8) := cell_of_block ((HFW2.out.low _ hbnl (heap_lt HBN.out) (by intro h; rcases List.mem_cons.1 h with h | h; exact hnL h; exact (HS0.out _ h).2.2 rfl)).trans HBN.out) 0
     clear hj1 hf1
     gi_wp2_with (fail)
     go_wp2_with (fail)
     go_roundg (gk - 1)
     case measure => have := HIK.out; omega
     case rel =>
      refine ⟨k + 1, j, by have := HIK.out; omega, by have := HIK.out; have := HJJ.out; omega, rfl, ?_, HFW2.out⟩
      have h1 := HJ2.out
      have h2 := HSP.out
      have h3 : (partsI len).take (k + 1) = (partsI len).take k ++ [(i, m)] := by
       have hk : k < (partsI len).length := by rw [partsI_length]; have := HIK.out; omega
       have e : (partsI len)[k]? = ((partsI len).take k ++ (i, m) :: (partsI len).drop (k + 1))[k]? := congrArg (fun l => l[k]?) h2
       rw [List.getElem?_append_right (by rw [List.length_take]; exact Nat.min_le_left _ _)] at e
       rw [List.length_take, Nat.min_eq_left (by omega), Nat.sub_self, List.getElem?_cons_zero, List.getElem?_eq_getElem hk] at e
       rw [List.take_succ_eq_append_getElem hk, Option.some.inj e]
      rw [h3]
      exact h1
    ·have HJX := Lib.hid hjx
     clear hjx
     gi_wp2_with (fail)
     go_wp2_with (fail)
     refine bodyPost_ret (results_none rfl _ _ _) rfl ?_
     exact ⟨⟨_, rfl⟩, Or.inr ⟨_, HJX.out⟩⟩
  ·have z0 : ¬ (i : Int) < (len : Int) := by omega
   have HIK := Lib.hid hik
   have HG := Lib.hid hg
   clear hik hg
   go_wp2_with (fail)
   go_end0
   refine ⟨⟨_, rfl⟩, Or.inl ?_⟩
   have h1 := HJK.out
   rwa [List.take_of_length_le (by rw [partsI_length]; have := HIK.out; omega)] at h1
theorem chunkfn_any (w : World) (v : Value) (a : Option Addr) (len cap : Nat) (hv : v = .slice a len cap) : Calls Tryz.prog 53 #[v, .int .i64 8] w fun e w' => e = .returned (.func (.func 117) #[] #[.pointer (some ⟨w.heap.size, 0, none⟩), .pointer (some ⟨w.heap.size + 1, 0, none⟩)]) ∧
  w'.heap[w.heap.size]? = some (.cells #[v] 33 (0, 0)) ∧ w'.heap[w.heap.size + 1]? = some (.cells #[.int .i64 8] 3 (0, 0)) ∧ Fp [] w w' := by
 subst hv
 have q : ((w.alloc (.cells #[.slice a len cap] 33)).alloc (.cells #[.int .i64 8] 3)).cell? ⟨w.heap.size + 1, 0, none⟩ = some (.int .i64 8) := cell_of_block (heap_alloc_at (by simp) _) 0
 go_enter Tryz.func53, Tryz.ntmps53
 go_wp2_with (fail)
 go_ret
 exact ⟨rfl, heap_alloc_old (heap_alloc_at rfl _), heap_alloc_at (by simp) _, (Fp.alloc _ _).alloc' _⟩
def OwnP (w : World) (base : Nat) (v : Value) (l : List Value) : Prop := w.ownsRow base 33 1 v l.length l
theorem OwnP.nil (w : World) (base : Nat) : OwnP w base (.slice none 0 0) [] := World.ownsRow_nil w base _ _
theorem OwnP.mono {w : World} {base base' : Nat} {v : Value} {l : List Value} (h : OwnP w base v l) (hb : base' ≤ base) : OwnP w base' v l := by
 obtain ⟨h1, h2⟩ := h
 refine ⟨h1, ?_⟩
 rcases h2 with h2 | ⟨g, cap, cur, hv, hg, r⟩
 ·exact Or.inl h2
 ·exact Or.inr ⟨g, cap, cur, hv, Nat.le_trans hb hg, r⟩
theorem OwnP.lt {w : World} {base : Nat} {v : Value} {l : List Value} (h : OwnP w base v l) : ∀ k, v.ownBlock = some k → base ≤ k ∧ k < w.heap.size := World.ownsRow.lt h
theorem OwnP.kept {w w' : World} {base : Nat} {v : Value} {l : List Value} (h : OwnP w base v l) (hf : ∀ k, v.ownBlock = some k → w'.heap[k]? = w.heap[k]?) : OwnP w' base v l := by
 obtain ⟨h1, h2⟩ := h
 refine ⟨h1, ?_⟩
 rcases h2 with h2 | ⟨g, cap, cur, hv, hg, hh, r⟩
 ·exact Or.inl h2
 ·exact Or.inr ⟨g, cap, cur, hv, hg, (hf g (by rw [hv]; rfl)).trans hh, r⟩
theorem OwnP.fp {w w' : World} {base : Nat} {v : Value} {l : List Value} {S : List Nat} (h : OwnP w base v l) (hf : Fp S w w') (hS : ∀ i ∈ S, i < base) : OwnP w' base v l :=
 h.kept fun k hk => hf.block k (h.lt k hk).2 (fun hm => by have := hS k hm; have := (h.lt k hk).1; omega)
theorem OwnP.slice {w : World} {base : Nat} {v : Value} {l : List Value} (h : OwnP w base v l) : ∃ a n cap, v = .slice a n cap := by
 rcases h.2 with ⟨rfl, _⟩ | ⟨g, cap, cur, rfl, _⟩
 ·exact ⟨_, _, _, rfl⟩
 ·exact ⟨_, _, _, rfl⟩
theorem Tryz.infoP : (Tryz.prog.info? 33).map (fun i => (i.zero, i.size, i.bytes)) = some (some (.slice none 0 0), 1, 24) := by kernel_rfl
theorem wpListIn_append_part {F : Fence} {n : Nat} {w : World} {ops : Array Oper} {rest : List Oper} {o : Oper} {a : Act} {Q : Exit → Act → World → Prop} (hgd : o.guard = none) (s x : Operand)
  (ho : o.op = .call { callee := .builtin .append, args := #[s, x], argTypes := #[90, 90] }) (base : Nat) (v : Value) (l : List Value) (hs : a.eval s = v) (hown : OwnP w base v l)
  (g : Nat) (t : Value) (ht : t.oneCell' = true) (hx : a.eval x = .slice (some ⟨g, 0, none⟩) 1 1) (hg : w.cell? ⟨g, 0, none⟩ = some t) (hlen : l.length + 1 ≤ 1000000000) (hbase : base ≤ w.heap.size)
  (h : ∀ v' w', OwnP w' base v' (l ++ [t]) → w.grownBy w' v.ownBlock → Below base w w' → wpListIn F n Tryz.prog ops Q rest (a.put o.dst v') w') : wpListIn F n Tryz.prog ops Q (o :: rest) a w := by
 obtain ⟨i0, hi, hz0, hz1, hz2⟩ := info_parts Tryz.infoP
 refine wpListIn_append_own w hgd s x 90 ho base 33 i0 _ 1 24 Tryz.underlying90 hi hz0 hz1 hz2 rfl (by decide) v l.length l hs hown ⟨g, 0, none⟩ 1 1 [t] hx rfl ?_ (by intro u hu; simp at hu; subst hu; exact ht) (by unfold maxLen; omega) (by omega) hbase ?_
 ·intro j u hu
  have hj : j = 0 := by
   have := (List.getElem?_eq_some_iff.1 hu).1
   simpa using this
  subst hj
  simp at hu
  subst hu
  have e1 : (⟨g, 0, none⟩ : Addr).add 0 = ⟨g, 0, none⟩ := by unfold Addr.add; split <;> simp_all
  rw [e1]; exact hg
 ·intro v' w' h1 h2 _
  refine h v' w' ?_ h2 ((Below.refl base w).grown h2 hbase (fun k hk => (hown.lt k hk).1))
  unfold OwnP
  rw [List.length_append]
  exact h1
structure RangeP (w w1 : World) (b o : Nat) (pre : List (Nat × Nat)) (W : World) : Prop where
 ex : ∃ v, W.heap[w.heap.size]? = some (.cells #[v] 90 (0, 0)) ∧ OwnP W (w1.heap.size + 2) v (pre.map (partV b o))
 fp : Fp [] w W
theorem RangeP.on {w w1 A B : World} {b o : Nat} {pre : List (Nat × Nat)} {S : List Nat} (h : RangeP w w1 b o pre A) (hf : Fp S A B) (hS : ∀ k ∈ S, w.heap.size + 1 ≤ k ∧ k < w1.heap.size + 2) : RangeP w w1 b o pre B := by
 obtain ⟨v, hv, ho⟩ := h.ex
 refine ⟨⟨v, (hf.block _ (heap_lt hv) fun hm => by have := hS _ hm; omega).trans hv, ho.fp hf fun k hk => (hS k hk).2⟩, h.fp.trans hf fun k hk => Or.inr (by have := hS k hk; omega)⟩
def actP (w : World) (b o len cap : Nat) (x : Nat × Nat) : Act := { tmps := #[.slice (some ⟨b, o, none⟩) len cap, .int .i64 8, undef, undef, .pointer (some ⟨w.heap.size, 0, none⟩), partV b o x, .slice (some ⟨b, o, none⟩) len cap, .int .i64 8, .func (.func 117) #[] #[.pointer (some ⟨w.heap.size + 1, 0, none⟩), .pointer (some ⟨w.heap.size + 1 + 1, 0, none⟩)], partV b o x, undef, undef, undef, undef, undef], defers := [] }
attribute [local go_sem] Oper.semAt_some
theorem parted_any (w : World) (b o len cap : Nat) (hlc : len ≤ cap) (hcm : len ≤ 1000000000) :
  Calls Tryz.prog 40 #[.slice (some ⟨b, o, none⟩) len cap, .int .i64 8] w fun e w' => ∃ v, e = .returned v ∧ OwnP w' w.heap.size v ((partsI len).map (partV b o)) ∧ Fp [] w w' := by
 have HFN := Lib.hid (fun w => chunkfn_any w (.slice (some ⟨b, o, none⟩) len cap) _ _ _ rfl)
 rw [← callsIn_wide (n := 5)]
 refine callsIn_of_wp_marks Tryz.func40 rfl trivial ?_ rfl
 simp only [Tryz.ntmps40, List.size_toArray, List.length_cons, List.length_nil, Nat.reduceAdd, Nat.reduceSub, Array.replicate_succ, Array.replicate_zero, List.push_toArray, List.append_toArray, List.nil_append, List.cons_append]
 gi_wp2_with (fail)
 refine ⟨trivial, ?_⟩
 (with_reducible refine ((callsIn_wide (n := 4)).2 (HFN.out _)).mono ?_)
 rintro e w1 ⟨rfl, hbs, hbn, hf1⟩
 have hl0 : w1.heap[w.heap.size]? = some (.cells #[.slice none 0 0] 90 (0, 0)) := (hf1.block _ (by simp) (by simp)).trans (heap_alloc_at rfl _)
 have hsz0 : w.heap.size + 2 < w1.heap.size := heap_lt (by simpa using hbn)
 have HBS : Hid (w1.heap[w.heap.size + 1]? = some (.cells #[.slice (some ⟨b, o, none⟩) len cap] 33 (0, 0))) := by show w1.heap[w.heap.size + 1]? = _; simpa using hbs
 have HBN : Hid (w1.heap[w.heap.size + 1 + 1]? = some (.cells #[.int .i64 8] 3 (0, 0))) := by show w1.heap[w.heap.size + 1 + 1]? = _; simpa using hbn
 have HF1 : Hid (Fp [] w w1) := (Fp.alloc _ _).trans hf1 (by simp)
 have HL0 := Lib.hid hl0
 clear hbs hbn hf1 hl0
 gi_wp2_with (fail)
 refine range_reader (α := Nat × Nat) (encs := encP b o) rfl (enters_of Tryz.func117 (by kernel_rfl) rfl) (fun _ => rfl) 157 [w.heap.size] [] (by simp; omega) (by simp) (w.heap.size + 1) (by omega) 0
  (fun pre x => ∃ post, partsI len = pre ++ x :: post) (RangeP w w1 b o) (fun _ _ => False) (fun xs _ => xs = partsI len)
  (fun _ => True) (fun s A B k h hf hk => h.on hf (by simp; omega)) (fun s A B h hf _ => h.on hf (by simp; omega)) (fun _ _ _ h _ => h) (fun _ _ _ h _ => h) ?_ ?_ (fun x a' _ => a' = actP w b o len cap x) (fun _ _ _ _ h _ => h) ?_ ?_ ?_ (fun _ _ h => h.elim)
 ·intro J Jx W1 hf1 hsz1 hJ hY hJ0
  exact chunks_any (w1.heap.size + 2) (w1.heap.size + 1) (5 - 1) (w.heap.size + 1) (w.heap.size + 1 + 1) W1 b o len cap (by decide) ((hf1.block _ (by omega) (by simp)).trans HBS.out) ((hf1.block _ (by omega) (by simp)).trans HBN.out) hlc hcm (by omega) (by omega) (by omega) (by omega) [w.heap.size] (by intro k hk; simp only [List.mem_cons, List.not_mem_nil, or_false] at hk; omega) J Jx (fun s A B h hf => hJ s A B h (hf.mono (by simp)) trivial) hY hJ0
 ·exact ⟨⟨.slice none 0 0, HL0.out, OwnP.nil _ _⟩, HF1.out⟩
 ·intro l x W K hW hK
  simp only [encP]
  gi_wp2_with (fail)
  exact hK _ _ (Fp.refl _ _) rfl
 ·rintro l pre ⟨xi, xm⟩ a' W ⟨post, hpost⟩ hI hW rfl
  have hpl : pre.length + 1 ≤ 1000000000 := by
   have h1 := partsI_length len
   have h2 : (partsI len).length = pre.length + (post.length + 1) := by rw [hpost, List.length_append, List.length_cons]
   omega
  obtain ⟨v, hv, ho⟩ := hI.ex
  have q0 : ∀ X : Obj, (W.alloc X).cell? ⟨w.heap.size, 0, none⟩ = some v := fun X => cell_of_block (heap_alloc_old hv) 0
  have q00 : W.cell? ⟨w.heap.size, 0, none⟩ = some v := cell_of_block hv 0
  have HI := Lib.hid hI
  have HV := Lib.hid hv
  have HO := Lib.hid ho
  clear hI hv ho hpost
  unfold actP partV
  simp only
  gi_wp2_with (gi_at_builtin; (refine wpListIn_append_part rfl _ _ rfl (w1.heap.size + 2) _ (pre.map (partV b o)) rfl (HO.out.fp (Fp.alloc _ _) (by simp)) _ (partV b o (xi, xm)) rfl rfl (by rw [cell_of_block (heap_alloc_at rfl _)]; rfl) (by simp; omega) (by simp; omega) ?_); intro v3 w3 ho3 hg3 hb3; obtain ⟨a3, n3, cap3, rfl⟩ := ho3.slice; have HO3 := Lib.hid ho3; have HB3 := Lib.hid hb3; have HK3 := Lib.hid (kept_row (show 157 ≠ 33 by decide) (HO.out.fp (Fp.alloc _ _) (by simp)) hg3 (by simp; omega)); have HV3 := Lib.hid ((hb3.block _ (by omega)).trans (heap_alloc_old HV.out)); have f1 : w3.frozen? ⟨w.heap.size, 0, none⟩ = false := frozen_of_block HV3.out 0; have c1 : w3.cell? ⟨w.heap.size, 0, none⟩ = some v := cell_of_block HV3.out 0; clear ho3 hg3 hb3)
  have hk0 := ((Kept.of (Fp.alloc W (.cells #[partV b o (xi, xm)] 33)) (by simp) : Kept 157 (w1.heap.size + 2) [] W _).trans HK3.out (by simp)).mono (S' := [w.heap.size]) (by simp)
  have hf5 : Fp [w.heap.size] w3 (w3.setCell ⟨w.heap.size, 0, none⟩ (.slice a3 n3 cap3)) := Fp.setCell w3 ⟨w.heap.size, 0, none⟩ (.slice a3 n3 cap3)
  have h4 : (w3.setCell ⟨w.heap.size, 0, none⟩ (.slice a3 n3 cap3)).heap[w.heap.size]? = some (.cells #[.slice a3 n3 cap3] 90 (0, 0)) := (heap_setCell_same HV3.out _).trans rfl
  refine ⟨hk0.trans (Kept.of hf5 (by simp; omega)) (by simp), ⟨.slice a3 n3 cap3, h4, ?_⟩, ?_⟩
  ·rw [List.map_append]
   exact HO3.out.fp hf5 (by simp; omega)
  ·exact (((HI.out.fp.alloc' _).belowTrans (HB3.out.mono (by omega))).setCell' (Or.inr (Nat.le_refl _)) _)
 ·rintro xs W rfl hI hK
  obtain ⟨v, hv, ho⟩ := hI.ex
  obtain ⟨va, vn, vc, rfl⟩ := ho.slice
  have HI := Lib.hid hI
  have HK := Lib.hid hK
  have q0 : W.cell? ⟨w.heap.size, 0, none⟩ = some (.slice va vn vc) := cell_of_block hv 0
  have f0 : W.frozen? ⟨w.heap.size, 0, none⟩ = false := frozen_of_block hv 0
  have HV := Lib.hid hv
  have HO := Lib.hid ho
  clear hI hK hv ho
  gi_wp2_with (fail)
  have hf5 : Fp [w.heap.size] W (W.setCell ⟨w.heap.size, 0, none⟩ (.slice va vn vc)) := Fp.setCell W ⟨w.heap.size, 0, none⟩ (.slice va vn vc)
  have h4 : (W.setCell ⟨w.heap.size, 0, none⟩ (.slice va vn vc)).heap[w.heap.size]? = some (.cells #[.slice va vn vc] 90 (0, 0)) := (heap_setCell_same HV.out _).trans rfl
  obtain ⟨wa, hwa⟩ : ∃ wa, W.setCell ⟨w.heap.size, 0, none⟩ (.slice va vn vc) = wa := ⟨_, rfl⟩
  rw [hwa] at hf5 h4 ⊢
  have hk2 : wa.heap[w1.heap.size]? = some (.deferred (some [])) := (hf5.block _ (heap_lt HK.out) (by simp; omega)).trans HK.out
  have hp := Fp.putObj wa w1.heap.size (.deferred none)
  refine ⟨by simp, .inl ⟨_, _, rfl, run_takeDeferred hk2, ?_⟩⟩
  have c0 : (wa.putObj w1.heap.size (.deferred none)).cell? ⟨w.heap.size, 0, none⟩ = some (.slice va vn vc) := cell_of_block ((hp.block _ (heap_lt h4) (by simp; omega)).trans h4) 0
  exact ⟨.slice va vn vc, by simp [results, Tryz.results40, go_sem, c0], .slice va vn vc, rfl, ((HO.out.fp hf5 (by simp; omega)).mono (by omega)).kept (fun k hk => hp.block k (((HO.out.fp hf5 (by simp; omega)).lt k hk).2) (by have := ((HO.out.fp hf5 (by simp; omega)).lt k hk).1; simp; omega)), ((HI.out.fp.trans hf5 (by intro i hi; right; simp at hi; omega)).trans hp (by intro i hi; right; simp at hi; omega))⟩
end
end Go.Proofs.YtkjmgbifoaoefaaGreatDoor
