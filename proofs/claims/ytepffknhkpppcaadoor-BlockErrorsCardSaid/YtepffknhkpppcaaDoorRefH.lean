/-
  The reference of layer 1: FromKey.
-/
import Derived.Test.YtepffknhkpppcaaDoorRefG
import Derived.Test.YtepffknhkpppcaaDoorRefD
namespace Go.Proofs.YtepffknhkpppcaaDoor
open Go.RowKit

theorem toList_inj' {a b : ByteArray} (h : a.toList = b.toList) : a = b := by
  rw [ByteArray.toList_eq, ByteArray.toList_eq] at h
  rw [← Lib.mk_data a, ← Lib.mk_data b, h]
def coordC (row col : ByteArray) (ts seq : Nat) : Cel := ⟨row, col, ts, seq, false, ⟨#[]⟩⟩
def endK (s : ByteArray) (c : Cel) : Cel × Int := if keyB c = s then (c, 0) else (zeroC, 1)
def fkR2 (s row : ByteArray) (n : Nat) (Q : List UInt8 × Nat) : Cel × Int :=
  if Q.2 = 0 ∨ s.size ≠ n + Q.2 + 16 then (zeroC, 1) else endK s (coordC row (bl Q.1) (M64 - valV (s.extract (n + Q.2) s.size) true 8) (M64 - valV (s.extract (n + Q.2 + 8) s.size) true 8))
def fkR1 (s : ByteArray) (P : List UInt8 × Nat) : Cel × Int :=
  if P.2 = 0 then (zeroC, 1) else fkR2 s (bl P.1) P.2 (partL (s.extract P.2 s.size).data.toList [] 0)
def fkR (s : ByteArray) : Cel × Int := fkR1 s (partL s.data.toList [] 0)

theorem partL_le : ∀ (l acc : List UInt8) (i : Nat), (partL l acc i).2 ≤ i + l.length ∧ (partL l acc i).1.length ≤ acc.length + l.length
  | [], acc, i => by simp [partL]
  | [x], acc, i => by simp [partL]
  | x :: y :: l, acc, i => by
    by_cases h : x = 0
    · subst h
      rw [partL_zero]
      by_cases h1 : y = 1
      · rw [if_pos h1]; simp
      · by_cases h2 : y = 255
        · rw [if_neg h1, if_pos h2]
          have := partL_le l (acc ++ [0]) (i + 2)
          simp only [List.length_append, List.length_cons, List.length_nil] at *
          omega
        · rw [if_neg h1, if_neg h2]; simp
    · rw [partL_step h]
      have := partL_le (y :: l) (acc ++ [x]) (i + 1)
      simp only [List.length_append, List.length_cons, List.length_nil] at *
      omega

set_option maxRecDepth 100000 in
set_option maxHeartbeats 8000000 in
theorem rfromkey_any (s : ByteArray) (w : World) (hs : s.size ≤ 100000) :
    Calls Tryd.prog 36 #[.string s] w fun e w' => e = .returned (.tuple #[cellV (fkR s).1, .int .i64 (fkR s).2]) ∧ Fp [] w w' := by
  have HT0 := Lib.hid (two_start w)
  have t1 := fun w => rpart_any s w hs
  have HD : Hid (fkR s = fkR1 s (partL s.data.toList [] 0)) := rfl
  have y1 := partL_le s.data.toList [] 0
  obtain ⟨⟨r, n⟩, q1⟩ : ∃ q, partL s.data.toList [] 0 = q := ⟨_, rfl⟩
  rw [q1] at t1 HD y1
  simp only [List.length_nil, Nat.zero_add] at t1 y1
  rw [← Lib.size_eq] at y1
  obtain ⟨row, hrow⟩ : ∃ x, bl r = x := ⟨_, rfl⟩
  have hrs : row.size ≤ 100000 := by rw [← hrow, bl_size]; omega
  rw [hrow] at t1
  have HR := Lib.hid hrow
  have hns : n ≤ s.size := y1.1
  clear q1 hrow y1
  by_cases h0 : n = 0
  · subst h0
    have HO : Hid (fkR s = (zeroC, 1)) := HD.out
    rw [show ((0 : Nat) : Int) = 0 from rfl] at t1
    have T1 := Lib.hid t1
    clear t1
    go_enter Tryd.func36, Tryd.ntmps36
    go_wp2_with (fail)
    (with_reducible refine (T1.out _).mono ?_)
    rintro e w1 ⟨rfl, hf⟩
    have H1 := Lib.hid (HT0.out.fp hf)
    clear hf
    obtain ⟨⟨a0, a1, a2, a3, a4, a5⟩, ⟨g0, g1, g2, g3, g4, g5⟩⟩ := H1.out.cellA
    obtain ⟨⟨c0, c1, c2, c3, c4, c5⟩, ⟨f0, f1, f2, f3, f4, f5⟩⟩ := H1.out.cellB
    go_wp2_with (fail)
    rw [HO.out]
    refine bodyPost_ret (v := .tuple #[cellV zeroC, .int .i64 1]) (by simp [results, Tryd.results36, cellV, zeroC, go_sem, *]) rfl ⟨rfl, ?_⟩
    repeat (first | (with_reducible refine Fp.drew' ?_) | (with_reducible refine Fp.setCell' ?_ (Or.inr (by first | exact Nat.le_refl _ | exact Nat.le_succ _)) _) | (with_reducible exact H1.out.f))
  have HD2 : Hid (fkR s = fkR2 s row n (partL (s.extract n s.size).data.toList [] 0)) := by
    unfold Hid; rw [HD.out, ← HR.out]; exact if_neg h0
  have t2 := fun w => rpart_any (s.extract n s.size) w (by simp; omega)
  have y2 := partL_le (s.extract n s.size).data.toList [] 0
  obtain ⟨⟨q, m⟩, q2⟩ : ∃ x, partL (s.extract n s.size).data.toList [] 0 = x := ⟨_, rfl⟩
  rw [q2] at t2 HD2 y2
  simp only [List.length_nil, Nat.zero_add] at t2 y2
  rw [← Lib.size_eq, ByteArray.size_extract] at y2
  obtain ⟨col, hcol⟩ : ∃ x, bl q = x := ⟨_, rfl⟩
  have hcs : col.size ≤ 100000 := by rw [← hcol, bl_size]; omega
  rw [hcol] at t2
  have HCC := Lib.hid hcol
  have hms : n + m ≤ s.size := by omega
  have i0 : ((n : Int) == 0) = false := by rw [beq_eq_false_iff_ne]; omega
  have i1 : (n : Int) ≤ (s.size : Int) := by omega
  have i2 : (0 : Int) ≤ (n : Int) := by omega
  clear q2 hcol y2
  by_cases h1 : m = 0
  · subst h1
    have HO : Hid (fkR s = (zeroC, 1)) := by unfold Hid; rw [HD2.out]; exact if_pos (Or.inl rfl)
    rw [show ((0 : Nat) : Int) = 0 from rfl] at t2
    have T2 := Lib.hid t2
    clear t2
    have T1 := Lib.hid t1
    clear t1
    go_enter Tryd.func36, Tryd.ntmps36
    go_wp2_with (fail)
    (with_reducible refine (T1.out _).mono ?_)
    rintro e w1 ⟨rfl, hf⟩
    have H1 := Lib.hid (HT0.out.fp hf)
    clear hf
    go_wp2_with (fail)
    (with_reducible refine (T2.out _).mono ?_)
    rintro e w2 ⟨rfl, hf⟩
    have H2 := Lib.hid (H1.out.fp hf)
    clear hf
    obtain ⟨⟨a0, a1, a2, a3, a4, a5⟩, ⟨g0, g1, g2, g3, g4, g5⟩⟩ := H2.out.cellA
    obtain ⟨⟨c0, c1, c2, c3, c4, c5⟩, ⟨f0, f1, f2, f3, f4, f5⟩⟩ := H2.out.cellB
    go_wp2_with (fail)
    rw [HO.out]
    refine bodyPost_ret (v := .tuple #[cellV zeroC, .int .i64 1]) (by simp [results, Tryd.results36, cellV, zeroC, go_sem, *]) rfl ⟨rfl, ?_⟩
    repeat (first | (with_reducible refine Fp.drew' ?_) | (with_reducible refine Fp.setCell' ?_ (Or.inr (by first | exact Nat.le_refl _ | exact Nat.le_succ _)) _) | (with_reducible exact H2.out.f))
  have j0 : ((m : Int) == 0) = false := by rw [beq_eq_false_iff_ne]; omega
  have j1 : IntKind.i64.wrap ((n : Int) + (m : Int)) = (n : Int) + (m : Int) := IntWalk.i64_in _ (by omega)
  by_cases h2 : s.size = n + m + 16
  case neg =>
    have HO : Hid (fkR s = (zeroC, 1)) := by unfold Hid; rw [HD2.out]; exact if_pos (Or.inr h2)
    have j2 : ((s.size : Int) == (n : Int) + (m : Int) + 16) = false := by rw [beq_eq_false_iff_ne]; omega
    have j3 : ¬ (s.size : Int) = (n : Int) + (m : Int) + 16 := by omega
    have T2 := Lib.hid t2
    clear t2
    have T1 := Lib.hid t1
    clear t1
    go_enter Tryd.func36, Tryd.ntmps36
    go_wp2_with (fail)
    (with_reducible refine (T1.out _).mono ?_)
    rintro e w1 ⟨rfl, hf⟩
    have H1 := Lib.hid (HT0.out.fp hf)
    clear hf
    go_wp2_with (fail)
    (with_reducible refine (T2.out _).mono ?_)
    rintro e w2 ⟨rfl, hf⟩
    have H2 := Lib.hid (H1.out.fp hf)
    clear hf
    obtain ⟨⟨a0, a1, a2, a3, a4, a5⟩, ⟨g0, g1, g2, g3, g4, g5⟩⟩ := H2.out.cellA
    obtain ⟨⟨c0, c1, c2, c3, c4, c5⟩, ⟨f0, f1, f2, f3, f4, f5⟩⟩ := H2.out.cellB
    go_wp2_with (fail)
    rw [HO.out]
    refine bodyPost_ret (v := .tuple #[cellV zeroC, .int .i64 1]) (by simp [results, Tryd.results36, cellV, zeroC, go_sem, *]) rfl ⟨rfl, ?_⟩
    repeat (first | (with_reducible refine Fp.drew' ?_) | (with_reducible refine Fp.setCell' ?_ (Or.inr (by first | exact Nat.le_refl _ | exact Nat.le_succ _)) _) | (with_reducible exact H2.out.f))
  obtain ⟨p, hp⟩ : ∃ p, n + m = p := ⟨_, rfl⟩
  have hpi : (n : Int) + (m : Int) = (p : Int) := by omega
  have HD3 : Hid (fkR s = endK s (coordC row col (M64 - valV (s.extract p s.size) true 8) (M64 - valV (s.extract (p + 8) s.size) true 8))) := by
    unfold Hid; rw [HD2.out, ← HCC.out, ← hp]; exact if_neg (by simp only; omega)
  have v1 := fun w => rvalue_any (s.extract p s.size) true w (by simp; omega) (by simp; omega)
  have v2 := fun w => rvalue_any (s.extract (p + 8) s.size) true w (by simp; omega) (by simp; omega)
  have l1 := valV_lt (s.extract p s.size) true 8
  have l2 := valV_lt (s.extract (p + 8) s.size) true 8
  have e256 : (256 : Nat) ^ 8 = 18446744073709551616 := by decide
  rw [e256] at l1 l2
  obtain ⟨x1, hx1⟩ : ∃ x, valV (s.extract p s.size) true 8 = x := ⟨_, rfl⟩
  obtain ⟨x2, hx2⟩ : ∃ x, valV (s.extract (p + 8) s.size) true 8 = x := ⟨_, rfl⟩
  rw [hx1, hx2] at HD3
  rw [hx1] at v1 l1
  rw [hx2] at v2 l2
  have w1 := wrap_most l1
  have w2 := wrap_most l2
  have k1 := fun w => rkey_any (coordC row col (M64 - x1) (M64 - x2)) w ⟨by show M64 - x1 < _; unfold M64; omega, by show M64 - x2 < _; unfold M64; omega, by show row.size ≤ _; omega, by show col.size ≤ _; omega, by show (0 : Nat) ≤ _; omega⟩
  unfold cellV at k1
  simp only [coordC] at k1
  obtain ⟨z1, hz1⟩ : ∃ x, M64 - x1 = x := ⟨_, rfl⟩
  obtain ⟨z2, hz2⟩ : ∃ x, M64 - x2 = x := ⟨_, rfl⟩
  rw [hz1, hz2] at HD3 k1
  rw [hz1] at w1
  rw [hz2] at w2
  obtain ⟨kb, hkb⟩ : ∃ x, keyB ⟨row, col, z1, z2, false, ⟨#[]⟩⟩ = x := ⟨_, rfl⟩
  rw [hkb] at k1
  have HKB := Lib.hid hkb
  have j2 : ((s.size : Int) == (p : Int) + 16) = true := by rw [beq_iff_eq]; omega
  have j3 : p ≤ 100000 := by omega
  have H2E := Lib.hid h2
  have j4 : (p : Int) ≤ (s.size : Int) := by omega
  have j5 : (p : Int) + 8 ≤ (s.size : Int) := by omega
  have j6 : ((p : Int) + 8).toNat = p + 8 := by omega
  have j7 : (0 : Int) ≤ (p : Int) + 8 := by omega
  clear hx1 hx2 hz1 hz2 hkb hp l1 l2 e256 h2
  by_cases hk : kb = s
  · have HO : Hid (fkR s = (⟨row, col, z1, z2, false, ⟨#[]⟩⟩, 0)) := by unfold Hid; rw [HD3.out]; exact if_pos (by rw [coordC, HKB.out, hk])
    have hkt : (kb.toList == s.toList) = true := by rw [hk]; simp
    have HKK := Lib.hid hk
    clear hk
    have V1 := Lib.hid v1
    have V2 := Lib.hid v2
    have K1 := Lib.hid k1
    clear v1 v2 k1
    have W1 := Lib.hid w1
    have W2 := Lib.hid w2
    clear w1 w2
    have T2 := Lib.hid t2
    clear t2
    have T1 := Lib.hid t1
    clear t1
    go_enter Tryd.func36, Tryd.ntmps36
    go_wp2_with (fail)
    (with_reducible refine (T1.out _).mono ?_)
    rintro e w1 ⟨rfl, hf⟩
    have H1 := Lib.hid (HT0.out.fp hf)
    clear hf
    go_wp2_with (fail)
    (with_reducible refine (T2.out _).mono ?_)
    rintro e w2 ⟨rfl, hf⟩
    have H2 := Lib.hid (H1.out.fp hf)
    clear hf
    obtain ⟨⟨a0, a1, a2, a3, a4, a5⟩, ⟨g0, g1, g2, g3, g4, g5⟩⟩ := H2.out.cellA
    obtain ⟨⟨c0, c1, c2, c3, c4, c5⟩, ⟨f0, f1, f2, f3, f4, f5⟩⟩ := H2.out.cellB
    have j8 := W1.out
    have j9 := W2.out
    go_wp2_with (fail)
    clear a0 a1 a2 a3 a4 a5 g0 g1 g2 g3 g4 g5 c0 c1 c2 c3 c4 c5 f0 f1 f2 f3 f4 f5
    have H3 : Hid (Two w (((w2.setCell ⟨w.heap.size + 1, 0, none⟩ (.string row)).setCell ⟨w.heap.size + 1, 1, none⟩ (.string col))) #[.string row, .string col, .int .u64 0, .int .u64 0, .bool false, .string ⟨#[]⟩]) := Lib.hid ((H2.out.set 0 (.string row)).set 1 (.string col))
    (with_reducible refine (V1.out _).mono ?_)
    rintro e w3 ⟨rfl, rfl⟩
    obtain ⟨⟨a0, a1, a2, a3, a4, a5⟩, ⟨g0, g1, g2, g3, g4, g5⟩⟩ := H3.out.cellA
    obtain ⟨⟨c0, c1, c2, c3, c4, c5⟩, ⟨f0, f1, f2, f3, f4, f5⟩⟩ := H3.out.cellB
    go_wp2_with (fail)
    clear a0 a1 a2 a3 a4 a5 g0 g1 g2 g3 g4 g5 c0 c1 c2 c3 c4 c5 f0 f1 f2 f3 f4 f5
    have H4 : Hid (Two w (((w2.setCell ⟨w.heap.size + 1, 0, none⟩ (.string row)).setCell ⟨w.heap.size + 1, 1, none⟩ (.string col)).setCell ⟨w.heap.size + 1, 2, none⟩ (.int .u64 z1)) #[.string row, .string col, .int .u64 z1, .int .u64 0, .bool false, .string ⟨#[]⟩]) := Lib.hid (H3.out.set 2 (.int .u64 z1))
    (with_reducible refine (V2.out _).mono ?_)
    rintro e w4 ⟨rfl, rfl⟩
    obtain ⟨⟨a0, a1, a2, a3, a4, a5⟩, ⟨g0, g1, g2, g3, g4, g5⟩⟩ := H4.out.cellA
    obtain ⟨⟨c0, c1, c2, c3, c4, c5⟩, ⟨f0, f1, f2, f3, f4, f5⟩⟩ := H4.out.cellB
    go_wp2_with (fail)
    clear a0 a1 a2 a3 a4 a5 g0 g1 g2 g3 g4 g5 c0 c1 c2 c3 c4 c5 f0 f1 f2 f3 f4 f5
    have H5 : Hid (Two w ((((w2.setCell ⟨w.heap.size + 1, 0, none⟩ (.string row)).setCell ⟨w.heap.size + 1, 1, none⟩ (.string col)).setCell ⟨w.heap.size + 1, 2, none⟩ (.int .u64 z1)).setCell ⟨w.heap.size + 1, 3, none⟩ (.int .u64 z2)) #[.string row, .string col, .int .u64 z1, .int .u64 z2, .bool false, .string ⟨#[]⟩]) := Lib.hid (H4.out.set 3 (.int .u64 z2))
    (with_reducible refine (K1.out _).mono ?_)
    rintro e w6 ⟨rfl, hf⟩
    have H6 := Lib.hid (H5.out.fp hf)
    clear hf
    obtain ⟨⟨a0, a1, a2, a3, a4, a5⟩, ⟨g0, g1, g2, g3, g4, g5⟩⟩ := H6.out.cellA
    obtain ⟨⟨c0, c1, c2, c3, c4, c5⟩, ⟨f0, f1, f2, f3, f4, f5⟩⟩ := H6.out.cellB
    go_wp2_with (fail)
    rw [HO.out]
    refine bodyPost_ret (v := .tuple #[cellV ⟨row, col, z1, z2, false, ⟨#[]⟩⟩, .int .i64 0]) (by simp [results, Tryd.results36, cellV, go_sem, *]) rfl ⟨rfl, ?_⟩
    repeat (first | (with_reducible refine Fp.drew' ?_) | (with_reducible refine Fp.setCell' ?_ (Or.inr (by first | exact Nat.le_refl _ | exact Nat.le_succ _)) _) | (with_reducible exact H6.out.f))
  · have HO : Hid (fkR s = (zeroC, 1)) := by unfold Hid; rw [HD3.out]; exact if_neg (by rw [coordC, HKB.out]; exact hk)
    have hkt : (kb.toList == s.toList) = false := by rw [beq_eq_false_iff_ne]; exact fun e => hk (toList_inj' e)
    clear hk
    have V1 := Lib.hid v1
    have V2 := Lib.hid v2
    have K1 := Lib.hid k1
    clear v1 v2 k1
    have W1 := Lib.hid w1
    have W2 := Lib.hid w2
    clear w1 w2
    have T2 := Lib.hid t2
    clear t2
    have T1 := Lib.hid t1
    clear t1
    go_enter Tryd.func36, Tryd.ntmps36
    go_wp2_with (fail)
    (with_reducible refine (T1.out _).mono ?_)
    rintro e w1 ⟨rfl, hf⟩
    have H1 := Lib.hid (HT0.out.fp hf)
    clear hf
    go_wp2_with (fail)
    (with_reducible refine (T2.out _).mono ?_)
    rintro e w2 ⟨rfl, hf⟩
    have H2 := Lib.hid (H1.out.fp hf)
    clear hf
    obtain ⟨⟨a0, a1, a2, a3, a4, a5⟩, ⟨g0, g1, g2, g3, g4, g5⟩⟩ := H2.out.cellA
    obtain ⟨⟨c0, c1, c2, c3, c4, c5⟩, ⟨f0, f1, f2, f3, f4, f5⟩⟩ := H2.out.cellB
    have j8 := W1.out
    have j9 := W2.out
    go_wp2_with (fail)
    clear a0 a1 a2 a3 a4 a5 g0 g1 g2 g3 g4 g5 c0 c1 c2 c3 c4 c5 f0 f1 f2 f3 f4 f5
    have H3 : Hid (Two w (((w2.setCell ⟨w.heap.size + 1, 0, none⟩ (.string row)).setCell ⟨w.heap.size + 1, 1, none⟩ (.string col))) #[.string row, .string col, .int .u64 0, .int .u64 0, .bool false, .string ⟨#[]⟩]) := Lib.hid ((H2.out.set 0 (.string row)).set 1 (.string col))
    (with_reducible refine (V1.out _).mono ?_)
    rintro e w3 ⟨rfl, rfl⟩
    obtain ⟨⟨a0, a1, a2, a3, a4, a5⟩, ⟨g0, g1, g2, g3, g4, g5⟩⟩ := H3.out.cellA
    obtain ⟨⟨c0, c1, c2, c3, c4, c5⟩, ⟨f0, f1, f2, f3, f4, f5⟩⟩ := H3.out.cellB
    go_wp2_with (fail)
    clear a0 a1 a2 a3 a4 a5 g0 g1 g2 g3 g4 g5 c0 c1 c2 c3 c4 c5 f0 f1 f2 f3 f4 f5
    have H4 : Hid (Two w (((w2.setCell ⟨w.heap.size + 1, 0, none⟩ (.string row)).setCell ⟨w.heap.size + 1, 1, none⟩ (.string col)).setCell ⟨w.heap.size + 1, 2, none⟩ (.int .u64 z1)) #[.string row, .string col, .int .u64 z1, .int .u64 0, .bool false, .string ⟨#[]⟩]) := Lib.hid (H3.out.set 2 (.int .u64 z1))
    (with_reducible refine (V2.out _).mono ?_)
    rintro e w4 ⟨rfl, rfl⟩
    obtain ⟨⟨a0, a1, a2, a3, a4, a5⟩, ⟨g0, g1, g2, g3, g4, g5⟩⟩ := H4.out.cellA
    obtain ⟨⟨c0, c1, c2, c3, c4, c5⟩, ⟨f0, f1, f2, f3, f4, f5⟩⟩ := H4.out.cellB
    go_wp2_with (fail)
    clear a0 a1 a2 a3 a4 a5 g0 g1 g2 g3 g4 g5 c0 c1 c2 c3 c4 c5 f0 f1 f2 f3 f4 f5
    have H5 : Hid (Two w ((((w2.setCell ⟨w.heap.size + 1, 0, none⟩ (.string row)).setCell ⟨w.heap.size + 1, 1, none⟩ (.string col)).setCell ⟨w.heap.size + 1, 2, none⟩ (.int .u64 z1)).setCell ⟨w.heap.size + 1, 3, none⟩ (.int .u64 z2)) #[.string row, .string col, .int .u64 z1, .int .u64 z2, .bool false, .string ⟨#[]⟩]) := Lib.hid (H4.out.set 3 (.int .u64 z2))
    (with_reducible refine (K1.out _).mono ?_)
    rintro e w6 ⟨rfl, hf⟩
    have H6 := Lib.hid (H5.out.fp hf)
    clear hf
    obtain ⟨⟨a0, a1, a2, a3, a4, a5⟩, ⟨g0, g1, g2, g3, g4, g5⟩⟩ := H6.out.cellA
    obtain ⟨⟨c0, c1, c2, c3, c4, c5⟩, ⟨f0, f1, f2, f3, f4, f5⟩⟩ := H6.out.cellB
    go_wp2_with (fail)
    rw [HO.out]
    refine bodyPost_ret (v := .tuple #[cellV zeroC, .int .i64 1]) (by simp [results, Tryd.results36, cellV, zeroC, go_sem, *]) rfl ⟨rfl, ?_⟩
    repeat (first | (with_reducible refine Fp.drew' ?_) | (with_reducible refine Fp.setCell' ?_ (Or.inr (by first | exact Nat.le_refl _ | exact Nat.le_succ _)) _) | (with_reducible exact H6.out.f))
end Go.Proofs.YtepffknhkpppcaaDoor
