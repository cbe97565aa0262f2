/-
  The reference of layer 1: Decode.
-/
import Derived.Test.YtlpfijkchbpdmaaDoorRefC
namespace Go.Proofs.YtlpfijkchbpdmaaDoor
open Go.RowKit

def zr : Cel × ByteArray × Int → Prop := fun _ => True
def decR3 (row col s2 : ByteArray) : Cel × ByteArray × Int :=
  if 1 < (atB s2 16).toNat then (zeroC, ⟨#[]⟩, 1)
  else if (shortR (s2.extract 17 s2.size)).2.2 = true then
    (if mayB ⟨row, col, valV s2 false 8, valV (s2.extract 8 s2.size) false 8, atB s2 16 == 1, (shortR (s2.extract 17 s2.size)).1⟩ = true
     then (⟨row, col, valV s2 false 8, valV (s2.extract 8 s2.size) false 8, atB s2 16 == 1, (shortR (s2.extract 17 s2.size)).1⟩, (shortR (s2.extract 17 s2.size)).2.1, 0) else (zeroC, ⟨#[]⟩, 1))
  else (zeroC, ⟨#[]⟩, 10)
def decR2 (row s1 : ByteArray) : Cel × ByteArray × Int :=
  if (shortR s1).2.2 = true ∧ 17 ≤ (shortR s1).2.1.size then decR3 row (shortR s1).1 (shortR s1).2.1 else (zeroC, ⟨#[]⟩, 10)
def decR (s : ByteArray) : Cel × ByteArray × Int :=
  if (shortR s).2.2 = true then decR2 (shortR s).1 (shortR s).2.1 else (zeroC, ⟨#[]⟩, 10)

theorem shortR_sizes (s : ByteArray) : (shortR s).1.size ≤ 255 ∧ (shortR s).2.1.size ≤ s.size := by
  unfold shortR
  have : (atB s 0).toNat < 256 := (atB s 0).toNat_lt
  split
  · exact ⟨Nat.zero_le _, Nat.zero_le _⟩
  · exact ⟨by simp; omega, by simp⟩

/-- the blocks of the result and of the cell in the making -/
structure Two (w W : World) (l : Array Value) : Prop where
  a : W.heap[w.heap.size]? = some (.cells #[.string ⟨#[]⟩, .string ⟨#[]⟩, .int .u64 0, .int .u64 0, .bool false, .string ⟨#[]⟩] 24 (0, 0))
  b : W.heap[w.heap.size + 1]? = some (.cells l 24 (0, 0))
  f : Fp [] w W
theorem Two.fp {w W W' : World} {l : Array Value} (h : Two w W l) (hf : Fp [] W W') : Two w W' l :=
  ⟨(hf.block _ (heap_lt h.a) (by simp)).trans h.a, (hf.block _ (heap_lt h.b) (by simp)).trans h.b, h.f.trans hf (by simp)⟩
theorem Two.set {w W : World} {l : Array Value} (h : Two w W l) (o : Nat) (v : Value) : Two w (W.setCell ⟨w.heap.size + 1, o, none⟩ v) (l.setIfInBounds o v) :=
  ⟨(heap_setCell_other (by omega) v).trans h.a, heap_setCell_same h.b v, h.f.setCell' (Or.inr (by simp)) _⟩
theorem two_start (w : World) : Two w ((w.alloc (.cells #[.string ⟨#[]⟩, .string ⟨#[]⟩, .int .u64 0, .int .u64 0, .bool false, .string ⟨#[]⟩] 24)).alloc (.cells #[.string ⟨#[]⟩, .string ⟨#[]⟩, .int .u64 0, .int .u64 0, .bool false, .string ⟨#[]⟩] 24)) #[.string ⟨#[]⟩, .string ⟨#[]⟩, .int .u64 0, .int .u64 0, .bool false, .string ⟨#[]⟩] :=
  ⟨heap_alloc_old (heap_alloc_at rfl _), heap_alloc_at (by simp) _, (Fp.alloc _ _).alloc' _⟩
theorem Two.cellA {w W : World} {l : Array Value} (h : Two w W l) : (W.cell? ⟨w.heap.size, 0, none⟩ = some (.string ⟨#[]⟩) ∧ W.cell? ⟨w.heap.size, 1, none⟩ = some (.string ⟨#[]⟩) ∧ W.cell? ⟨w.heap.size, 2, none⟩ = some (.int .u64 0) ∧ W.cell? ⟨w.heap.size, 3, none⟩ = some (.int .u64 0) ∧ W.cell? ⟨w.heap.size, 4, none⟩ = some (.bool false) ∧ W.cell? ⟨w.heap.size, 5, none⟩ = some (.string ⟨#[]⟩)) ∧
    (W.frozen? ⟨w.heap.size, 0, none⟩ = false ∧ W.frozen? ⟨w.heap.size, 1, none⟩ = false ∧ W.frozen? ⟨w.heap.size, 2, none⟩ = false ∧ W.frozen? ⟨w.heap.size, 3, none⟩ = false ∧ W.frozen? ⟨w.heap.size, 4, none⟩ = false ∧ W.frozen? ⟨w.heap.size, 5, none⟩ = false) :=
  ⟨⟨cell_of_block h.a 0, cell_of_block h.a 1, cell_of_block h.a 2, cell_of_block h.a 3, cell_of_block h.a 4, cell_of_block h.a 5⟩, ⟨frozen_of_block h.a 0, frozen_of_block h.a 1, frozen_of_block h.a 2, frozen_of_block h.a 3, frozen_of_block h.a 4, frozen_of_block h.a 5⟩⟩
theorem Two.cellB {w W : World} {v0 v1 v2 v3 v4 v5 : Value} (h : Two w W #[v0, v1, v2, v3, v4, v5]) : (W.cell? ⟨w.heap.size + 1, 0, none⟩ = some v0 ∧ W.cell? ⟨w.heap.size + 1, 1, none⟩ = some v1 ∧ W.cell? ⟨w.heap.size + 1, 2, none⟩ = some v2 ∧ W.cell? ⟨w.heap.size + 1, 3, none⟩ = some v3 ∧ W.cell? ⟨w.heap.size + 1, 4, none⟩ = some v4 ∧ W.cell? ⟨w.heap.size + 1, 5, none⟩ = some v5) ∧
    (W.frozen? ⟨w.heap.size + 1, 0, none⟩ = false ∧ W.frozen? ⟨w.heap.size + 1, 1, none⟩ = false ∧ W.frozen? ⟨w.heap.size + 1, 2, none⟩ = false ∧ W.frozen? ⟨w.heap.size + 1, 3, none⟩ = false ∧ W.frozen? ⟨w.heap.size + 1, 4, none⟩ = false ∧ W.frozen? ⟨w.heap.size + 1, 5, none⟩ = false) :=
  ⟨⟨cell_of_block h.b 0, cell_of_block h.b 1, cell_of_block h.b 2, cell_of_block h.b 3, cell_of_block h.b 4, cell_of_block h.b 5⟩, ⟨frozen_of_block h.b 0, frozen_of_block h.b 1, frozen_of_block h.b 2, frozen_of_block h.b 3, frozen_of_block h.b 4, frozen_of_block h.b 5⟩⟩

set_option maxRecDepth 100000 in
set_option maxHeartbeats 8000000 in
theorem rdec_any (s : ByteArray) (w : World) (hs : s.size ≤ 9223372036854775807) :
    Calls Tryd.prog 16 #[.string s] w fun e w' => e = .returned (.tuple #[cellV (decR s).1, .string (decR s).2.1, .int .i64 (decR s).2.2]) ∧ Fp [] w w' := by
  have HT0 := Lib.hid (two_start w)
  have t1 := fun w => rshort_any s w hs
  have HD : Hid (decR s = if (shortR s).2.2 = true then decR2 (shortR s).1 (shortR s).2.1 else (zeroC, ⟨#[]⟩, 10)) := rfl
  have y1 := shortR_sizes s
  obtain ⟨⟨row, s1, b1⟩, q1⟩ : ∃ q, shortR s = q := ⟨_, rfl⟩
  rw [q1] at t1 HD y1
  simp only at t1 HD y1
  clear q1
  cases b1
  · have HO : Hid (decR s = (zeroC, ⟨#[]⟩, 10)) := HD.out
    have T1 := Lib.hid t1
    clear t1
    go_enter Tryd.func16, Tryd.ntmps16
    go_wp2_with (fail)
    refine (T1.out _).mono ?_
    rintro e w1 ⟨rfl, hf⟩
    have H1 := Lib.hid (HT0.out.fp hf)
    clear hf
    obtain ⟨⟨a0, a1, a2, a3, a4, a5⟩, ⟨g0, g1, g2, g3, g4, g5⟩⟩ := H1.out.cellA
    obtain ⟨⟨c0, c1, c2, c3, c4, c5⟩, ⟨f0, f1, f2, f3, f4, f5⟩⟩ := H1.out.cellB
    go_wp2_with (fail)
    rw [HO.out]
    refine bodyPost_ret (v := .tuple #[cellV zeroC, .string ⟨#[]⟩, .int .i64 10]) (by simp [results, Tryd.results16, cellV, zeroC, go_sem, *]) rfl ⟨rfl, ?_⟩
    repeat (first | (with_reducible refine Fp.drew' ?_) | (with_reducible refine Fp.setCell' ?_ (Or.inr (by first | exact Nat.le_refl _ | exact Nat.le_succ _)) _) | (with_reducible exact H1.out.f))
  have HD2 : Hid (decR s = decR2 row s1) := HD.out
  have HD3 : Hid (decR2 row s1 = if (shortR s1).2.2 = true ∧ 17 ≤ (shortR s1).2.1.size then decR3 row (shortR s1).1 (shortR s1).2.1 else (zeroC, ⟨#[]⟩, 10)) := rfl
  have t2 := fun w => rshort_any s1 w (by omega)
  have y2 := shortR_sizes s1
  obtain ⟨⟨col, s2, b2⟩, q2⟩ : ∃ q, shortR s1 = q := ⟨_, rfl⟩
  rw [q2] at t2 HD3 y2
  simp only at t2 HD3 y2
  clear q2
  cases b2
  · have HO : Hid (decR s = (zeroC, ⟨#[]⟩, 10)) := by unfold Hid; rw [HD2.out, HD3.out, if_neg (by simp)]
    have T2 := Lib.hid t2
    clear t2
    have T1 := Lib.hid t1
    clear t1
    go_enter Tryd.func16, Tryd.ntmps16
    go_wp2_with (fail)
    refine (T1.out _).mono ?_
    rintro e w1 ⟨rfl, hf⟩
    have H1 := Lib.hid (HT0.out.fp hf)
    clear hf
    go_wp2_with (fail)
    refine (T2.out _).mono ?_
    rintro e w2 ⟨rfl, hf⟩
    have H2 := Lib.hid (H1.out.fp hf)
    clear hf
    obtain ⟨⟨a0, a1, a2, a3, a4, a5⟩, ⟨g0, g1, g2, g3, g4, g5⟩⟩ := H2.out.cellA
    obtain ⟨⟨c0, c1, c2, c3, c4, c5⟩, ⟨f0, f1, f2, f3, f4, f5⟩⟩ := H2.out.cellB
    go_wp2_with (fail)
    rw [HO.out]
    refine bodyPost_ret (v := .tuple #[cellV zeroC, .string ⟨#[]⟩, .int .i64 10]) (by simp [results, Tryd.results16, cellV, zeroC, go_sem, *]) rfl ⟨rfl, ?_⟩
    repeat (first | (with_reducible refine Fp.drew' ?_) | (with_reducible refine Fp.setCell' ?_ (Or.inr (by first | exact Nat.le_refl _ | exact Nat.le_succ _)) _) | (with_reducible exact H2.out.f))
  by_cases h17 : 17 ≤ s2.size
  case neg =>
    have h17' : s2.size < 17 := by omega
    have HO : Hid (decR s = (zeroC, ⟨#[]⟩, 10)) := by unfold Hid; rw [HD2.out, HD3.out, if_neg (by simp; omega)]
    have T2 := Lib.hid t2
    clear t2
    have T1 := Lib.hid t1
    clear t1
    go_enter Tryd.func16, Tryd.ntmps16
    go_wp2_with (fail)
    refine (T1.out _).mono ?_
    rintro e w1 ⟨rfl, hf⟩
    have H1 := Lib.hid (HT0.out.fp hf)
    clear hf
    go_wp2_with (fail)
    refine (T2.out _).mono ?_
    rintro e w2 ⟨rfl, hf⟩
    have H2 := Lib.hid (H1.out.fp hf)
    clear hf
    obtain ⟨⟨a0, a1, a2, a3, a4, a5⟩, ⟨g0, g1, g2, g3, g4, g5⟩⟩ := H2.out.cellA
    obtain ⟨⟨c0, c1, c2, c3, c4, c5⟩, ⟨f0, f1, f2, f3, f4, f5⟩⟩ := H2.out.cellB
    go_wp2_with (fail)
    rw [HO.out]
    refine bodyPost_ret (v := .tuple #[cellV zeroC, .string ⟨#[]⟩, .int .i64 10]) (by simp [results, Tryd.results16, cellV, zeroC, go_sem, *]) rfl ⟨rfl, ?_⟩
    repeat (first | (with_reducible refine Fp.drew' ?_) | (with_reducible refine Fp.setCell' ?_ (Or.inr (by first | exact Nat.le_refl _ | exact Nat.le_succ _)) _) | (with_reducible exact H2.out.f))
  have HD4 : Hid (decR s = decR3 row col s2) := by unfold Hid; rw [HD2.out, HD3.out, if_pos ⟨rfl, h17⟩]
  have HD5 : Hid (decR3 row col s2 = _) := decR3.eq_1 row col s2
  have hat := at_any (s := s2) (k := 16) (by omega)
  have v1 := fun w => rvalue_any s2 false w (by omega) (by omega)
  have v2 := fun w => rvalue_any (s2.extract 8 s2.size) false w (by simp; omega) (by simp; omega)
  have l1 := valV_lt s2 false 8
  have l2 := valV_lt (s2.extract 8 s2.size) false 8
  have t3 := fun w => rshort_any (s2.extract 17 s2.size) w (by simp; omega)
  have y3 := shortR_sizes (s2.extract 17 s2.size)
  obtain ⟨ts, hts⟩ : ∃ x, valV s2 false 8 = x := ⟨_, rfl⟩
  obtain ⟨seq, hseq⟩ : ∃ x, valV (s2.extract 8 s2.size) false 8 = x := ⟨_, rfl⟩
  obtain ⟨⟨val, s3, b3⟩, q3⟩ : ∃ q, shortR (s2.extract 17 s2.size) = q := ⟨_, rfl⟩
  obtain ⟨y, hy⟩ : ∃ y, atB s2 16 = y := ⟨_, rfl⟩
  rw [hts, hseq, q3, hy] at HD5
  rw [hts] at v1 l1
  rw [hseq] at v2 l2
  rw [q3] at t3 y3
  rw [hy] at hat
  simp only at HD5 t3 y3
  have hyl : y.toNat < 256 := y.toNat_lt
  have hone : ((y.toNat : Int) == 1) = (y == 1) := by
    by_cases e : y = 1
    · subst e; rfl
    · have h2 : y.toNat ≠ 1 := fun h => e (UInt8.toNat_inj.1 h)
      have h3 : ¬ (y.toNat : Int) = 1 := by omega
      rw [beq_eq_false_iff_ne.2 e, beq_eq_false_iff_ne.2 h3]
  have e256 : (256 : Nat) ^ 8 = 18446744073709551616 := by decide
  have n1 := fun w => rmay_any ⟨row, col, ts, seq, y == 1, val⟩ w ⟨by show ts < _; omega, by show seq < _; omega, by show row.size ≤ _; omega, by show col.size ≤ _; omega, by show val.size ≤ _; omega⟩
  unfold cellV at n1
  have h16a : (16 : Int) < (s2.size : Int) := by omega
  have h17a : (17 : Int) ≤ (s2.size : Int) := by omega
  have h8a : (8 : Int) ≤ (s2.size : Int) := by omega
  clear hts hseq q3 hy e256 l1 l2
  by_cases h1 : 1 < y.toNat
  · have HO : Hid (decR s = (zeroC, ⟨#[]⟩, 1)) := by unfold Hid; rw [HD4.out, HD5.out, if_pos h1]
    have hi1 : (1 : Int) < (y.toNat : Int) := by omega
    clear t3 n1
    have V1 := Lib.hid v1
    have V2 := Lib.hid v2
    clear v1 v2
    have HONE := Lib.hid hone
    clear hone
    have T2 := Lib.hid t2
    clear t2
    have T1 := Lib.hid t1
    clear t1
    go_enter Tryd.func16, Tryd.ntmps16
    go_wp2_with (fail)
    refine (T1.out _).mono ?_
    rintro e w1 ⟨rfl, hf⟩
    have H1 := Lib.hid (HT0.out.fp hf)
    clear hf
    go_wp2_with (fail)
    refine (T2.out _).mono ?_
    rintro e w2 ⟨rfl, hf⟩
    have H2 := Lib.hid (H1.out.fp hf)
    clear hf
    obtain ⟨⟨a0, a1, a2, a3, a4, a5⟩, ⟨g0, g1, g2, g3, g4, g5⟩⟩ := H2.out.cellA
    obtain ⟨⟨c0, c1, c2, c3, c4, c5⟩, ⟨f0, f1, f2, f3, f4, f5⟩⟩ := H2.out.cellB
    go_wp2_with (fail)
    clear a0 a1 a2 a3 a4 a5 g0 g1 g2 g3 g4 g5 c0 c1 c2 c3 c4 c5 f0 f1 f2 f3 f4 f5
    have H3 : Hid (Two w ((w2.setCell ⟨w.heap.size + 1, 0, none⟩ (.string row)).setCell ⟨w.heap.size + 1, 1, none⟩ (.string col)) #[.string row, .string col, .int .u64 0, .int .u64 0, .bool false, .string ⟨#[]⟩]) := Lib.hid ((H2.out.set 0 (.string row)).set 1 (.string col))
    refine (V1.out _).mono ?_
    rintro e w3 ⟨rfl, rfl⟩
    obtain ⟨⟨a0, a1, a2, a3, a4, a5⟩, ⟨g0, g1, g2, g3, g4, g5⟩⟩ := H3.out.cellA
    obtain ⟨⟨c0, c1, c2, c3, c4, c5⟩, ⟨f0, f1, f2, f3, f4, f5⟩⟩ := H3.out.cellB
    go_wp2_with (fail)
    clear a0 a1 a2 a3 a4 a5 g0 g1 g2 g3 g4 g5 c0 c1 c2 c3 c4 c5 f0 f1 f2 f3 f4 f5
    have H4 : Hid (Two w (((w2.setCell ⟨w.heap.size + 1, 0, none⟩ (.string row)).setCell ⟨w.heap.size + 1, 1, none⟩ (.string col)).setCell ⟨w.heap.size + 1, 2, none⟩ (.int .u64 ts)) #[.string row, .string col, .int .u64 ts, .int .u64 0, .bool false, .string ⟨#[]⟩]) := Lib.hid (H3.out.set 2 (.int .u64 ts))
    refine (V2.out _).mono ?_
    rintro e w4 ⟨rfl, rfl⟩
    obtain ⟨⟨a0, a1, a2, a3, a4, a5⟩, ⟨g0, g1, g2, g3, g4, g5⟩⟩ := H4.out.cellA
    obtain ⟨⟨c0, c1, c2, c3, c4, c5⟩, ⟨f0, f1, f2, f3, f4, f5⟩⟩ := H4.out.cellB
    go_wp2_with (fail)
    rw [HO.out]
    refine bodyPost_ret (v := .tuple #[cellV zeroC, .string ⟨#[]⟩, .int .i64 1]) (by simp [results, Tryd.results16, cellV, zeroC, go_sem, *]) rfl ⟨rfl, ?_⟩
    repeat (first | (with_reducible refine Fp.drew' ?_) | (with_reducible refine Fp.setCell' ?_ (Or.inr (by first | exact Nat.le_refl _ | exact Nat.le_succ _)) _) | (with_reducible exact H2.out.f))
  have hi1 : ¬ (1 : Int) < (y.toNat : Int) := by omega
  rw [if_neg h1] at HD5
  cases b3
  · have HO : Hid (decR s = (zeroC, ⟨#[]⟩, 10)) := by unfold Hid; rw [HD4.out, HD5.out]; rfl
    clear n1
    have T3 := Lib.hid t3
    clear t3
    have V1 := Lib.hid v1
    have V2 := Lib.hid v2
    clear v1 v2
    have HONE := Lib.hid hone
    clear hone
    have T2 := Lib.hid t2
    clear t2
    have T1 := Lib.hid t1
    clear t1
    go_enter Tryd.func16, Tryd.ntmps16
    go_wp2_with (fail)
    refine (T1.out _).mono ?_
    rintro e w1 ⟨rfl, hf⟩
    have H1 := Lib.hid (HT0.out.fp hf)
    clear hf
    go_wp2_with (fail)
    refine (T2.out _).mono ?_
    rintro e w2 ⟨rfl, hf⟩
    have H2 := Lib.hid (H1.out.fp hf)
    clear hf
    obtain ⟨⟨a0, a1, a2, a3, a4, a5⟩, ⟨g0, g1, g2, g3, g4, g5⟩⟩ := H2.out.cellA
    obtain ⟨⟨c0, c1, c2, c3, c4, c5⟩, ⟨f0, f1, f2, f3, f4, f5⟩⟩ := H2.out.cellB
    go_wp2_with (fail)
    clear a0 a1 a2 a3 a4 a5 g0 g1 g2 g3 g4 g5 c0 c1 c2 c3 c4 c5 f0 f1 f2 f3 f4 f5
    have H3 : Hid (Two w ((w2.setCell ⟨w.heap.size + 1, 0, none⟩ (.string row)).setCell ⟨w.heap.size + 1, 1, none⟩ (.string col)) #[.string row, .string col, .int .u64 0, .int .u64 0, .bool false, .string ⟨#[]⟩]) := Lib.hid ((H2.out.set 0 (.string row)).set 1 (.string col))
    refine (V1.out _).mono ?_
    rintro e w3 ⟨rfl, rfl⟩
    obtain ⟨⟨a0, a1, a2, a3, a4, a5⟩, ⟨g0, g1, g2, g3, g4, g5⟩⟩ := H3.out.cellA
    obtain ⟨⟨c0, c1, c2, c3, c4, c5⟩, ⟨f0, f1, f2, f3, f4, f5⟩⟩ := H3.out.cellB
    go_wp2_with (fail)
    clear a0 a1 a2 a3 a4 a5 g0 g1 g2 g3 g4 g5 c0 c1 c2 c3 c4 c5 f0 f1 f2 f3 f4 f5
    have H4 : Hid (Two w (((w2.setCell ⟨w.heap.size + 1, 0, none⟩ (.string row)).setCell ⟨w.heap.size + 1, 1, none⟩ (.string col)).setCell ⟨w.heap.size + 1, 2, none⟩ (.int .u64 ts)) #[.string row, .string col, .int .u64 ts, .int .u64 0, .bool false, .string ⟨#[]⟩]) := Lib.hid (H3.out.set 2 (.int .u64 ts))
    refine (V2.out _).mono ?_
    rintro e w4 ⟨rfl, rfl⟩
    obtain ⟨⟨a0, a1, a2, a3, a4, a5⟩, ⟨g0, g1, g2, g3, g4, g5⟩⟩ := H4.out.cellA
    obtain ⟨⟨c0, c1, c2, c3, c4, c5⟩, ⟨f0, f1, f2, f3, f4, f5⟩⟩ := H4.out.cellB
    have hone := HONE.out
    go_wp2_with (fail)
    clear a0 a1 a2 a3 a4 a5 g0 g1 g2 g3 g4 g5 c0 c1 c2 c3 c4 c5 f0 f1 f2 f3 f4 f5
    clear hone
    have H5 : Hid (Two w ((((((w2.setCell ⟨w.heap.size + 1, 0, none⟩ (.string row)).setCell ⟨w.heap.size + 1, 1, none⟩ (.string col))).setCell ⟨w.heap.size + 1, 2, none⟩ (.int .u64 ts)).setCell ⟨w.heap.size + 1, 3, none⟩ (.int .u64 seq)).setCell ⟨w.heap.size + 1, 4, none⟩ (.bool (y == 1))) #[.string row, .string col, .int .u64 ts, .int .u64 seq, .bool (y == 1), .string ⟨#[]⟩]) := Lib.hid ((H4.out.set 3 (.int .u64 seq)).set 4 (.bool (y == 1)))
    refine (T3.out _).mono ?_
    rintro e w6 ⟨rfl, hf⟩
    have H6 := Lib.hid (H5.out.fp hf)
    clear hf
    obtain ⟨⟨a0, a1, a2, a3, a4, a5⟩, ⟨g0, g1, g2, g3, g4, g5⟩⟩ := H6.out.cellA
    obtain ⟨⟨c0, c1, c2, c3, c4, c5⟩, ⟨f0, f1, f2, f3, f4, f5⟩⟩ := H6.out.cellB
    go_wp2_with (fail)
    rw [HO.out]
    refine bodyPost_ret (v := .tuple #[cellV zeroC, .string ⟨#[]⟩, .int .i64 10]) (by simp [results, Tryd.results16, cellV, zeroC, go_sem, *]) rfl ⟨rfl, ?_⟩
    repeat (first | (with_reducible refine Fp.drew' ?_) | (with_reducible refine Fp.setCell' ?_ (Or.inr (by first | exact Nat.le_refl _ | exact Nat.le_succ _)) _) | (with_reducible exact H6.out.f))
  cases hm : mayB ⟨row, col, ts, seq, y == 1, val⟩
  · have HO : Hid (decR s = (zeroC, ⟨#[]⟩, 1)) := by unfold Hid; rw [HD4.out, HD5.out]; simp only [hm]; rfl
    rw [hm] at n1
    have N1 := Lib.hid n1
    clear n1 hm
    have T3 := Lib.hid t3
    clear t3
    have V1 := Lib.hid v1
    have V2 := Lib.hid v2
    clear v1 v2
    have HONE := Lib.hid hone
    clear hone
    have T2 := Lib.hid t2
    clear t2
    have T1 := Lib.hid t1
    clear t1
    go_enter Tryd.func16, Tryd.ntmps16
    go_wp2_with (fail)
    refine (T1.out _).mono ?_
    rintro e w1 ⟨rfl, hf⟩
    have H1 := Lib.hid (HT0.out.fp hf)
    clear hf
    go_wp2_with (fail)
    refine (T2.out _).mono ?_
    rintro e w2 ⟨rfl, hf⟩
    have H2 := Lib.hid (H1.out.fp hf)
    clear hf
    obtain ⟨⟨a0, a1, a2, a3, a4, a5⟩, ⟨g0, g1, g2, g3, g4, g5⟩⟩ := H2.out.cellA
    obtain ⟨⟨c0, c1, c2, c3, c4, c5⟩, ⟨f0, f1, f2, f3, f4, f5⟩⟩ := H2.out.cellB
    go_wp2_with (fail)
    clear a0 a1 a2 a3 a4 a5 g0 g1 g2 g3 g4 g5 c0 c1 c2 c3 c4 c5 f0 f1 f2 f3 f4 f5
    have H3 : Hid (Two w ((w2.setCell ⟨w.heap.size + 1, 0, none⟩ (.string row)).setCell ⟨w.heap.size + 1, 1, none⟩ (.string col)) #[.string row, .string col, .int .u64 0, .int .u64 0, .bool false, .string ⟨#[]⟩]) := Lib.hid ((H2.out.set 0 (.string row)).set 1 (.string col))
    refine (V1.out _).mono ?_
    rintro e w3 ⟨rfl, rfl⟩
    obtain ⟨⟨a0, a1, a2, a3, a4, a5⟩, ⟨g0, g1, g2, g3, g4, g5⟩⟩ := H3.out.cellA
    obtain ⟨⟨c0, c1, c2, c3, c4, c5⟩, ⟨f0, f1, f2, f3, f4, f5⟩⟩ := H3.out.cellB
    go_wp2_with (fail)
    clear a0 a1 a2 a3 a4 a5 g0 g1 g2 g3 g4 g5 c0 c1 c2 c3 c4 c5 f0 f1 f2 f3 f4 f5
    have H4 : Hid (Two w (((w2.setCell ⟨w.heap.size + 1, 0, none⟩ (.string row)).setCell ⟨w.heap.size + 1, 1, none⟩ (.string col)).setCell ⟨w.heap.size + 1, 2, none⟩ (.int .u64 ts)) #[.string row, .string col, .int .u64 ts, .int .u64 0, .bool false, .string ⟨#[]⟩]) := Lib.hid (H3.out.set 2 (.int .u64 ts))
    refine (V2.out _).mono ?_
    rintro e w4 ⟨rfl, rfl⟩
    obtain ⟨⟨a0, a1, a2, a3, a4, a5⟩, ⟨g0, g1, g2, g3, g4, g5⟩⟩ := H4.out.cellA
    obtain ⟨⟨c0, c1, c2, c3, c4, c5⟩, ⟨f0, f1, f2, f3, f4, f5⟩⟩ := H4.out.cellB
    have hone := HONE.out
    go_wp2_with (fail)
    clear a0 a1 a2 a3 a4 a5 g0 g1 g2 g3 g4 g5 c0 c1 c2 c3 c4 c5 f0 f1 f2 f3 f4 f5
    clear hone
    have H5 : Hid (Two w ((((((w2.setCell ⟨w.heap.size + 1, 0, none⟩ (.string row)).setCell ⟨w.heap.size + 1, 1, none⟩ (.string col))).setCell ⟨w.heap.size + 1, 2, none⟩ (.int .u64 ts)).setCell ⟨w.heap.size + 1, 3, none⟩ (.int .u64 seq)).setCell ⟨w.heap.size + 1, 4, none⟩ (.bool (y == 1))) #[.string row, .string col, .int .u64 ts, .int .u64 seq, .bool (y == 1), .string ⟨#[]⟩]) := Lib.hid ((H4.out.set 3 (.int .u64 seq)).set 4 (.bool (y == 1)))
    refine (T3.out _).mono ?_
    rintro e w6 ⟨rfl, hf⟩
    have H6 := Lib.hid (H5.out.fp hf)
    clear hf
    obtain ⟨⟨a0, a1, a2, a3, a4, a5⟩, ⟨g0, g1, g2, g3, g4, g5⟩⟩ := H6.out.cellA
    obtain ⟨⟨c0, c1, c2, c3, c4, c5⟩, ⟨f0, f1, f2, f3, f4, f5⟩⟩ := H6.out.cellB
    go_wp2_with (fail)
    clear a0 a1 a2 a3 a4 a5 g0 g1 g2 g3 g4 g5 c0 c1 c2 c3 c4 c5 f0 f1 f2 f3 f4 f5
    have H7 : Hid (Two w (w6.setCell ⟨w.heap.size + 1, 5, none⟩ (.string val)) #[.string row, .string col, .int .u64 ts, .int .u64 seq, .bool (y == 1), .string val]) := Lib.hid (H6.out.set 5 (.string val))
    refine (N1.out _).mono ?_
    rintro e w8 ⟨rfl, hf⟩
    have H8 := Lib.hid (H7.out.fp hf)
    clear hf
    obtain ⟨⟨a0, a1, a2, a3, a4, a5⟩, ⟨g0, g1, g2, g3, g4, g5⟩⟩ := H8.out.cellA
    obtain ⟨⟨c0, c1, c2, c3, c4, c5⟩, ⟨f0, f1, f2, f3, f4, f5⟩⟩ := H8.out.cellB
    go_wp2_with (fail)
    rw [HO.out]
    refine bodyPost_ret (v := .tuple #[cellV zeroC, .string ⟨#[]⟩, .int .i64 1]) (by simp [results, Tryd.results16, cellV, zeroC, go_sem, *]) rfl ⟨rfl, ?_⟩
    repeat (first | (with_reducible refine Fp.drew' ?_) | (with_reducible refine Fp.setCell' ?_ (Or.inr (by first | exact Nat.le_refl _ | exact Nat.le_succ _)) _) | (with_reducible exact H8.out.f))
  · have HO : Hid (decR s = (⟨row, col, ts, seq, y == 1, val⟩, s3, 0)) := by unfold Hid; rw [HD4.out, HD5.out]; simp only [hm]; rfl
    rw [hm] at n1
    have N1 := Lib.hid n1
    clear n1 hm
    have T3 := Lib.hid t3
    clear t3
    have V1 := Lib.hid v1
    have V2 := Lib.hid v2
    clear v1 v2
    have HONE := Lib.hid hone
    clear hone
    have T2 := Lib.hid t2
    clear t2
    have T1 := Lib.hid t1
    clear t1
    go_enter Tryd.func16, Tryd.ntmps16
    go_wp2_with (fail)
    refine (T1.out _).mono ?_
    rintro e w1 ⟨rfl, hf⟩
    have H1 := Lib.hid (HT0.out.fp hf)
    clear hf
    go_wp2_with (fail)
    refine (T2.out _).mono ?_
    rintro e w2 ⟨rfl, hf⟩
    have H2 := Lib.hid (H1.out.fp hf)
    clear hf
    obtain ⟨⟨a0, a1, a2, a3, a4, a5⟩, ⟨g0, g1, g2, g3, g4, g5⟩⟩ := H2.out.cellA
    obtain ⟨⟨c0, c1, c2, c3, c4, c5⟩, ⟨f0, f1, f2, f3, f4, f5⟩⟩ := H2.out.cellB
    go_wp2_with (fail)
    clear a0 a1 a2 a3 a4 a5 g0 g1 g2 g3 g4 g5 c0 c1 c2 c3 c4 c5 f0 f1 f2 f3 f4 f5
    have H3 : Hid (Two w ((w2.setCell ⟨w.heap.size + 1, 0, none⟩ (.string row)).setCell ⟨w.heap.size + 1, 1, none⟩ (.string col)) #[.string row, .string col, .int .u64 0, .int .u64 0, .bool false, .string ⟨#[]⟩]) := Lib.hid ((H2.out.set 0 (.string row)).set 1 (.string col))
    refine (V1.out _).mono ?_
    rintro e w3 ⟨rfl, rfl⟩
    obtain ⟨⟨a0, a1, a2, a3, a4, a5⟩, ⟨g0, g1, g2, g3, g4, g5⟩⟩ := H3.out.cellA
    obtain ⟨⟨c0, c1, c2, c3, c4, c5⟩, ⟨f0, f1, f2, f3, f4, f5⟩⟩ := H3.out.cellB
    go_wp2_with (fail)
    clear a0 a1 a2 a3 a4 a5 g0 g1 g2 g3 g4 g5 c0 c1 c2 c3 c4 c5 f0 f1 f2 f3 f4 f5
    have H4 : Hid (Two w (((w2.setCell ⟨w.heap.size + 1, 0, none⟩ (.string row)).setCell ⟨w.heap.size + 1, 1, none⟩ (.string col)).setCell ⟨w.heap.size + 1, 2, none⟩ (.int .u64 ts)) #[.string row, .string col, .int .u64 ts, .int .u64 0, .bool false, .string ⟨#[]⟩]) := Lib.hid (H3.out.set 2 (.int .u64 ts))
    refine (V2.out _).mono ?_
    rintro e w4 ⟨rfl, rfl⟩
    obtain ⟨⟨a0, a1, a2, a3, a4, a5⟩, ⟨g0, g1, g2, g3, g4, g5⟩⟩ := H4.out.cellA
    obtain ⟨⟨c0, c1, c2, c3, c4, c5⟩, ⟨f0, f1, f2, f3, f4, f5⟩⟩ := H4.out.cellB
    have hone := HONE.out
    go_wp2_with (fail)
    clear a0 a1 a2 a3 a4 a5 g0 g1 g2 g3 g4 g5 c0 c1 c2 c3 c4 c5 f0 f1 f2 f3 f4 f5
    clear hone
    have H5 : Hid (Two w ((((((w2.setCell ⟨w.heap.size + 1, 0, none⟩ (.string row)).setCell ⟨w.heap.size + 1, 1, none⟩ (.string col))).setCell ⟨w.heap.size + 1, 2, none⟩ (.int .u64 ts)).setCell ⟨w.heap.size + 1, 3, none⟩ (.int .u64 seq)).setCell ⟨w.heap.size + 1, 4, none⟩ (.bool (y == 1))) #[.string row, .string col, .int .u64 ts, .int .u64 seq, .bool (y == 1), .string ⟨#[]⟩]) := Lib.hid ((H4.out.set 3 (.int .u64 seq)).set 4 (.bool (y == 1)))
    refine (T3.out _).mono ?_
    rintro e w6 ⟨rfl, hf⟩
    have H6 := Lib.hid (H5.out.fp hf)
    clear hf
    obtain ⟨⟨a0, a1, a2, a3, a4, a5⟩, ⟨g0, g1, g2, g3, g4, g5⟩⟩ := H6.out.cellA
    obtain ⟨⟨c0, c1, c2, c3, c4, c5⟩, ⟨f0, f1, f2, f3, f4, f5⟩⟩ := H6.out.cellB
    go_wp2_with (fail)
    clear a0 a1 a2 a3 a4 a5 g0 g1 g2 g3 g4 g5 c0 c1 c2 c3 c4 c5 f0 f1 f2 f3 f4 f5
    have H7 : Hid (Two w (w6.setCell ⟨w.heap.size + 1, 5, none⟩ (.string val)) #[.string row, .string col, .int .u64 ts, .int .u64 seq, .bool (y == 1), .string val]) := Lib.hid (H6.out.set 5 (.string val))
    refine (N1.out _).mono ?_
    rintro e w8 ⟨rfl, hf⟩
    have H8 := Lib.hid (H7.out.fp hf)
    clear hf
    obtain ⟨⟨a0, a1, a2, a3, a4, a5⟩, ⟨g0, g1, g2, g3, g4, g5⟩⟩ := H8.out.cellA
    obtain ⟨⟨c0, c1, c2, c3, c4, c5⟩, ⟨f0, f1, f2, f3, f4, f5⟩⟩ := H8.out.cellB
    go_wp2_with (fail)
    rw [HO.out]
    refine bodyPost_ret (v := .tuple #[cellV ⟨row, col, ts, seq, y == 1, val⟩, .string s3, .int .i64 0]) (by simp [results, Tryd.results16, cellV, go_sem, *]) rfl ⟨rfl, ?_⟩
    repeat (first | (with_reducible refine Fp.drew' ?_) | (with_reducible refine Fp.setCell' ?_ (Or.inr (by first | exact Nat.le_refl _ | exact Nat.le_succ _)) _) | (with_reducible exact H8.out.f))
end Go.Proofs.YtlpfijkchbpdmaaDoor
