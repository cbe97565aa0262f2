/-
  Decode.
-/
import Derived.Test.YtlpfijkchbpdmaaDoorCellKey
import Derived.Test.YtlpfijkchbpdmaaDoorCellRead2
import Derived.Deep.RegionHeld3
namespace Go.Proofs.YtlpfijkchbpdmaaDoor
open Go.RowKit

def zeroC : Cel := ⟨⟨#[]⟩, ⟨#[]⟩, 0, 0, false, ⟨#[]⟩⟩
def decO (c : Cel) (r : Rd) : Cel × ByteArray × Int :=
  if r.e = 0 then (if mayB c = true then (c, r.rest, 0) else (zeroC, ⟨#[]⟩, 1)) else (zeroC, ⟨#[]⟩, r.e)
def decP (s : ByteArray) : Cel × ByteArray × Int :=
  decO ⟨(⟨s, 0⟩ : Rd).text.1, (⟨s, 0⟩ : Rd).text.2.text.1, (⟨s, 0⟩ : Rd).text.2.text.2.number.1, (⟨s, 0⟩ : Rd).text.2.text.2.number.2.number.1, (⟨s, 0⟩ : Rd).text.2.text.2.number.2.number.2.flag.1, (⟨s, 0⟩ : Rd).text.2.text.2.number.2.number.2.flag.2.text.1⟩
    (⟨s, 0⟩ : Rd).text.2.text.2.number.2.number.2.flag.2.text.2

theorem text_size (r : Rd) : r.text.1.size ≤ 255 := by
  unfold Rd.text
  rw [take_size]
  have : (atB (r.take 1).1 0).toNat < 256 := (atB (r.take 1).1 0).toNat_lt
  omega
theorem text_rest (r : Rd) : r.text.2.rest.size ≤ r.rest.size := Nat.le_trans (take_rest _ _) (take_rest _ _)
theorem number_rest (r : Rd) : r.number.2.rest.size ≤ r.rest.size := take_rest _ _
theorem flag_rest (r : Rd) : r.flag.2.rest.size ≤ r.rest.size := by
  unfold Rd.flag
  show (if _ then _ else _ : Rd).rest.size ≤ _
  split
  · exact take_rest r 1
  · exact take_rest r 1
theorem number_lt (r : Rd) : r.number.1 < 18446744073709551616 := leN_lt _ 8

set_option maxRecDepth 100000 in
set_option maxHeartbeats 4000000 in
theorem dec_any (s : ByteArray) (w : World) (hs : s.size ≤ 9223372036854775807) :
    Calls Tryd.prog 15 #[.string s] w fun e w' => e = .returned (.tuple #[cellV (decP s).1, .string (decP s).2.1, .int .i64 (decP s).2.2]) ∧ Fp [] w w' := by
  have HD : decP s = decO ⟨(⟨s, 0⟩ : Rd).text.1, (⟨s, 0⟩ : Rd).text.2.text.1, (⟨s, 0⟩ : Rd).text.2.text.2.number.1, (⟨s, 0⟩ : Rd).text.2.text.2.number.2.number.1, (⟨s, 0⟩ : Rd).text.2.text.2.number.2.number.2.flag.1, (⟨s, 0⟩ : Rd).text.2.text.2.number.2.number.2.flag.2.text.1⟩
    (⟨s, 0⟩ : Rd).text.2.text.2.number.2.number.2.flag.2.text.2 := rfl
  have t1 := fun w b hr => text_any w b ⟨s, 0⟩ hr hs
  have z1 := text_size ⟨s, 0⟩
  have y1 := text_rest ⟨s, 0⟩
  obtain ⟨⟨row, r1⟩, q1⟩ : ∃ q, (⟨s, 0⟩ : Rd).text = q := ⟨_, rfl⟩
  rw [q1] at HD t1 z1 y1
  simp only at HD t1 z1 y1
  have t2 := fun w b hr => text_any w b r1 hr (by omega)
  have z2 := text_size r1
  have y2 := text_rest r1
  obtain ⟨⟨col, r2⟩, q2⟩ : ∃ q, r1.text = q := ⟨_, rfl⟩
  rw [q2] at HD t2 z2 y2
  simp only at HD t2 z2 y2
  have t3 := fun w b hr => rnumber_any w b r2 hr (by omega)
  have z3 := number_lt r2
  have y3 := number_rest r2
  obtain ⟨⟨ts, r3⟩, q3⟩ : ∃ q, r2.number = q := ⟨_, rfl⟩
  rw [q3] at HD t3 z3 y3
  simp only at HD t3 z3 y3
  have t4 := fun w b hr => rnumber_any w b r3 hr (by omega)
  have z4 := number_lt r3
  have y4 := number_rest r3
  obtain ⟨⟨seq, r4⟩, q4⟩ : ∃ q, r3.number = q := ⟨_, rfl⟩
  rw [q4] at HD t4 z4 y4
  simp only at HD t4 z4 y4
  have t5 := fun w b hr => flag_any w b r4 hr (by omega)
  have y5 := flag_rest r4
  obtain ⟨⟨del, r5⟩, q5⟩ : ∃ q, r4.flag = q := ⟨_, rfl⟩
  rw [q5] at HD t5 y5
  simp only at HD t5 y5
  have t6 := fun w b hr => text_any w b r5 hr (by omega)
  have z6 := text_size r5
  have y6 := text_rest r5
  obtain ⟨⟨val, r6⟩, q6⟩ : ∃ q, r5.text = q := ⟨_, rfl⟩
  rw [q6] at HD t6 z6 y6
  simp only at HD t6 z6 y6
  have n1 := fun w => may_any ⟨row, col, ts, seq, del, val⟩ w ⟨z3, z4, by show row.size ≤ _; omega, by show col.size ≤ _; omega, by show val.size ≤ _; omega⟩
  rw [HD]
  clear HD
  have T1 := Lib.hid t1
  have T2 := Lib.hid t2
  have T3 := Lib.hid t3
  have T4 := Lib.hid t4
  have T5 := Lib.hid t5
  have T6 := Lib.hid t6
  have N1 := Lib.hid n1
  clear t1 t2 t3 t4 t5 t6 n1 q1 q2 q3 q4 q5 q6 y1 y2 y3 y4 y5
  go_enter Tryd.func15, Tryd.ntmps15
  go_wp2_with (fail)
  have ha0 : w.heap.size ≠ w.heap.size + 1 := by omega
  refine (T1.out _ _ (heap_alloc_at (by simp) _)).mono ?_
  rintro e w1 ⟨rfl, hr1, hf1⟩
  have hA1 : w1.heap[w.heap.size]? = some (.cells #[.string ⟨#[]⟩, .string ⟨#[]⟩, .int .u64 0, .int .u64 0, .bool false, .string ⟨#[]⟩] 24 (0, 0)) := by
    rw [hf1.block _ (by simp; omega) (by simp)]
    exact heap_alloc_old (heap_alloc_at rfl _)
  have hlt1 := heap_lt hr1
  have HR1 := Lib.hid (heap_alloc_old (o' := .cells #[.string row, .string ⟨#[]⟩, .int .u64 0, .int .u64 0, .bool false, .string ⟨#[]⟩] 24) hr1)
  have HA1 := Lib.hid (heap_alloc_old (o' := .cells #[.string row, .string ⟨#[]⟩, .int .u64 0, .int .u64 0, .bool false, .string ⟨#[]⟩] 24) hA1)
  have HB1 := Lib.hid (heap_alloc_at (w := w1) rfl (.cells #[.string row, .string ⟨#[]⟩, .int .u64 0, .int .u64 0, .bool false, .string ⟨#[]⟩] 24))
  have HF1 := Lib.hid ((((Fp.alloc w _).alloc' _).trans hf1 (by simp)).alloc' (.cells #[.string row, .string ⟨#[]⟩, .int .u64 0, .int .u64 0, .bool false, .string ⟨#[]⟩] 24))
  obtain ⟨B, hB⟩ : ∃ B, B = w1.heap.size := ⟨_, rfl⟩
  have hBR : B ≠ w.heap.size + 1 := by omega
  have hBA : B ≠ w.heap.size := by omega
  have hBw : w.heap.size ≤ B := by omega
  clear hr1 hf1 hA1 hlt1
  go_wp2_with (fail)
  rw [← hB] at HB1 ⊢
  have HBB := Lib.hid hB
  clear hB
  refine (T2.out _ _ HR1.out).mono ?_
  rintro e w2 ⟨rfl, hr2, hf2⟩
  have hB2 := (hf2.block B (heap_lt HB1.out) (by simpa using hBR)).trans HB1.out
  have HA2 := Lib.hid ((hf2.block _ (heap_lt HA1.out) (by simp)).trans HA1.out)
  have HF2 := Lib.hid (HF1.out.trans hf2 (by simp))
  have HR2 := Lib.hid hr2
  have HB2 := Lib.hid hB2
  have c2_1 := cell_of_block hB2 1
  have f2_1 := frozen_of_block hB2 1
  simp only [List.getElem?_toArray, List.getElem?_cons_succ, List.getElem?_cons_zero] at c2_1
  clear hB2 hr2 hf2
  go_wp2_with (fail)
  clear c2_1 f2_1
  have HB2s : Hid ((w2.setCell ⟨B, 1, none⟩ (.string col)).heap[B]? = some (.cells #[.string row, .string col, .int .u64 0, .int .u64 0, .bool false, .string ⟨#[]⟩] 24 (0, 0))) := Lib.hid (heap_setCell_same HB2.out (o := 1) (.string col))
  have HR2s : Hid (RdAt (w2.setCell ⟨B, 1, none⟩ (.string col)) (w.heap.size + 1) _) := Lib.hid ((heap_setCell_other (o := 1) (Ne.symm hBR) (.string col)).trans HR2.out)
  have HA2s := Lib.hid ((heap_setCell_other (o := 1) (Ne.symm hBA) (.string col)).trans HA2.out)
  have HF2s := Lib.hid (HF2.out.setCell' (p := ⟨B, 1, none⟩) (Or.inr hBw) (.string col))
  refine (T3.out _ _ HR2s.out).mono ?_
  rintro e w3 ⟨rfl, hr3, hf3⟩
  have hB3 := (hf3.block B (heap_lt HB2s.out) (by simpa using hBR)).trans HB2s.out
  have HA3 := Lib.hid ((hf3.block _ (heap_lt HA2s.out) (by simp)).trans HA2s.out)
  have HF3 := Lib.hid (HF2s.out.trans hf3 (by simp))
  have HR3 := Lib.hid hr3
  have HB3 := Lib.hid hB3
  clear hB3 hr3 hf3
  go_wp2_with (fail)
  refine (T4.out _ _ HR3.out).mono ?_
  rintro e w4 ⟨rfl, hr4, hf4⟩
  have hB4 := (hf4.block B (heap_lt HB3.out) (by simpa using hBR)).trans HB3.out
  have HA4 := Lib.hid ((hf4.block _ (heap_lt HA3.out) (by simp)).trans HA3.out)
  have HF4 := Lib.hid (HF3.out.trans hf4 (by simp))
  have HR4 := Lib.hid hr4
  have HB4 := Lib.hid hB4
  have c4_2 := cell_of_block hB4 2
  have f4_2 := frozen_of_block hB4 2
  simp only [List.getElem?_toArray, List.getElem?_cons_succ, List.getElem?_cons_zero] at c4_2
  have c4_3 := cell_of_block hB4 3
  have f4_3 := frozen_of_block hB4 3
  simp only [List.getElem?_toArray, List.getElem?_cons_succ, List.getElem?_cons_zero] at c4_3
  clear hB4 hr4 hf4
  go_wp2_with (fail)
  clear c4_2 f4_2 c4_3 f4_3
  have HB4s : Hid (((w4.setCell ⟨B, 2, none⟩ (.int .u64 ts)).setCell ⟨B, 3, none⟩ (.int .u64 seq)).heap[B]? = some (.cells #[.string row, .string col, .int .u64 ts, .int .u64 seq, .bool false, .string ⟨#[]⟩] 24 (0, 0))) := Lib.hid (heap_setCell_same (heap_setCell_same HB4.out (o := 2) (.int .u64 ts)) (o := 3) (.int .u64 seq))
  have HR4s : Hid (RdAt ((w4.setCell ⟨B, 2, none⟩ (.int .u64 ts)).setCell ⟨B, 3, none⟩ (.int .u64 seq)) (w.heap.size + 1) _) := Lib.hid ((heap_setCell_other (o := 3) (Ne.symm hBR) (.int .u64 seq)).trans ((heap_setCell_other (o := 2) (Ne.symm hBR) (.int .u64 ts)).trans HR4.out))
  have HA4s := Lib.hid ((heap_setCell_other (o := 3) (Ne.symm hBA) (.int .u64 seq)).trans ((heap_setCell_other (o := 2) (Ne.symm hBA) (.int .u64 ts)).trans HA4.out))
  have HF4s := Lib.hid ((HF4.out.setCell' (p := ⟨B, 2, none⟩) (Or.inr hBw) (.int .u64 ts)).setCell' (p := ⟨B, 3, none⟩) (Or.inr hBw) (.int .u64 seq))
  refine (T5.out _ _ HR4s.out).mono ?_
  rintro e w5 ⟨rfl, hr5, hf5⟩
  have hB5 := (hf5.block B (heap_lt HB4s.out) (by simpa using hBR)).trans HB4s.out
  have HA5 := Lib.hid ((hf5.block _ (heap_lt HA4s.out) (by simp)).trans HA4s.out)
  have HF5 := Lib.hid (HF4s.out.trans hf5 (by simp))
  have HR5 := Lib.hid hr5
  have HB5 := Lib.hid hB5
  have c5_4 := cell_of_block hB5 4
  have f5_4 := frozen_of_block hB5 4
  simp only [List.getElem?_toArray, List.getElem?_cons_succ, List.getElem?_cons_zero] at c5_4
  clear hB5 hr5 hf5
  go_wp2_with (fail)
  clear c5_4 f5_4
  have HB5s : Hid ((w5.setCell ⟨B, 4, none⟩ (.bool del)).heap[B]? = some (.cells #[.string row, .string col, .int .u64 ts, .int .u64 seq, .bool del, .string ⟨#[]⟩] 24 (0, 0))) := Lib.hid (heap_setCell_same HB5.out (o := 4) (.bool del))
  have HR5s : Hid (RdAt (w5.setCell ⟨B, 4, none⟩ (.bool del)) (w.heap.size + 1) _) := Lib.hid ((heap_setCell_other (o := 4) (Ne.symm hBR) (.bool del)).trans HR5.out)
  have HA5s := Lib.hid ((heap_setCell_other (o := 4) (Ne.symm hBA) (.bool del)).trans HA5.out)
  have HF5s := Lib.hid (HF5.out.setCell' (p := ⟨B, 4, none⟩) (Or.inr hBw) (.bool del))
  refine (T6.out _ _ HR5s.out).mono ?_
  rintro e w6 ⟨rfl, hr6, hf6⟩
  have hB6 := (hf6.block B (heap_lt HB5s.out) (by simpa using hBR)).trans HB5s.out
  have HA6 := Lib.hid ((hf6.block _ (heap_lt HA5s.out) (by simp)).trans HA5s.out)
  have HF6 := Lib.hid (HF5s.out.trans hf6 (by simp))
  have HR6 := Lib.hid hr6
  have HB6 := Lib.hid hB6
  have c6_5 := cell_of_block hB6 5
  have f6_5 := frozen_of_block hB6 5
  simp only [List.getElem?_toArray, List.getElem?_cons_succ, List.getElem?_cons_zero] at c6_5
  have b0 := cell_of_block hB6 0
  have b1 := cell_of_block hB6 1
  have b2 := cell_of_block hB6 2
  have b3 := cell_of_block hB6 3
  have b4 := cell_of_block hB6 4
  have hA6 := HA6.out
  have a0 := cell_of_block hA6 0
  have a1 := cell_of_block hA6 1
  have a2 := cell_of_block hA6 2
  have a3 := cell_of_block hA6 3
  have a4 := cell_of_block hA6 4
  have a5 := cell_of_block hA6 5
  have g0 := frozen_of_block hA6 0
  have g1 := frozen_of_block hA6 1
  have g2 := frozen_of_block hA6 2
  have g3 := frozen_of_block hA6 3
  have g4 := frozen_of_block hA6 4
  have g5 := frozen_of_block hA6 5
  simp only [List.getElem?_toArray, List.getElem?_cons_succ, List.getElem?_cons_zero] at b0 b1 b2 b3 b4 a0 a1 a2 a3 a4 a5
  obtain ⟨rest6, e6⟩ := r6
  have r0 : w6.cell? ⟨w.heap.size + 1, 0, none⟩ = some (.string rest6) := cell_of_block hr6 0
  have r1' : w6.cell? ⟨w.heap.size + 1, 1, none⟩ = some (.int .i64 e6) := cell_of_block hr6 1
  clear hB6 hr6 hf6 hA6
  by_cases he : e6 = 0
  case neg =>
    have HO : Hid (decO ⟨row, col, ts, seq, del, val⟩ ⟨rest6, e6⟩ = (zeroC, ⟨#[]⟩, e6)) := if_neg he
    have t1 : (e6 == 0) = false := by simpa using he
    have t2 : (e6 != 0) = true := by simpa using he
    clear he
    go_wp2_with (fail)
    go_region
    go_wp2_with (fail)
    rw [HO.out]
    refine bodyPost_ret (v := .tuple #[cellV zeroC, .string ⟨#[]⟩, .int .i64 e6]) (by simp [results, Tryd.results15, cellV, zeroC, go_sem, *]) rfl ⟨rfl, ?_⟩
    repeat (first | (with_reducible refine Fp.drew' ?_) | (with_reducible refine Fp.setCell' ?_ (Or.inr (by first | exact hBw | exact Nat.le_refl _)) _) | (with_reducible exact HF6.out))
  case pos =>
    subst he
    by_cases hm : mayB ⟨row, col, ts, seq, del, val⟩ = true
    case neg =>
      have hm2 : mayB ⟨row, col, ts, seq, del, val⟩ = false := by simpa using hm
      have HO : Hid (decO ⟨row, col, ts, seq, del, val⟩ ⟨rest6, 0⟩ = (zeroC, ⟨#[]⟩, 1)) := by
        unfold Hid decO; rw [if_pos rfl, if_neg hm]
      have n2 := N1.out
      rw [hm2] at n2
      have N2 := Lib.hid n2
      clear n2 hm hm2
      go_wp2_with (fail)
      clear b0 b1 b2 b3 b4 a0 a1 a2 a3 a4 a5 g0 g1 g2 g3 g4 g5 r0 c6_5 f6_5 r1'
      refine (N2.out _).mono ?_
      rintro e w7 ⟨rfl, hf7⟩
      have hB7 := (hf7.block B (heap_lt (heap_setCell_same HB6.out (o := 5) (.string val))) (by simp)).trans (heap_setCell_same HB6.out (o := 5) (.string val))
      have hA7 := (hf7.block w.heap.size (heap_lt ((heap_setCell_other (o := 5) (Ne.symm hBA) (.string val)).trans HA6.out)) (by simp)).trans ((heap_setCell_other (o := 5) (Ne.symm hBA) (.string val)).trans HA6.out)
      have hR7 := (hf7.block (w.heap.size + 1) (heap_lt ((heap_setCell_other (o := 5) (Ne.symm hBR) (.string val)).trans HR6.out)) (by simp)).trans ((heap_setCell_other (o := 5) (Ne.symm hBR) (.string val)).trans HR6.out)
      have HF7 := Lib.hid ((HF6.out.setCell' (p := ⟨B, 5, none⟩) (Or.inr hBw) (.string val)).trans hf7 (by simp))
      have b0 := cell_of_block hB7 0
      have b1 := cell_of_block hB7 1
      have b2 := cell_of_block hB7 2
      have b3 := cell_of_block hB7 3
      have b4 := cell_of_block hB7 4
      have b5 := cell_of_block hB7 5
      have a0 := cell_of_block hA7 0
      have a1 := cell_of_block hA7 1
      have a2 := cell_of_block hA7 2
      have a3 := cell_of_block hA7 3
      have a4 := cell_of_block hA7 4
      have a5 := cell_of_block hA7 5
      have g0 := frozen_of_block hA7 0
      have g1 := frozen_of_block hA7 1
      have g2 := frozen_of_block hA7 2
      have g3 := frozen_of_block hA7 3
      have g4 := frozen_of_block hA7 4
      have g5 := frozen_of_block hA7 5
      have r0 : w7.cell? ⟨w.heap.size + 1, 0, none⟩ = some (.string rest6) := cell_of_block hR7 0
      simp only [List.getElem?_toArray, List.getElem?_cons_succ, List.getElem?_cons_zero, List.setIfInBounds_toArray, List.set_cons_succ, List.set_cons_zero] at b0 b1 b2 b3 b4 b5 a0 a1 a2 a3 a4 a5
      clear hB7 hA7 hR7 hf7
      go_wp2_with (fail)
      rw [HO.out]
      refine bodyPost_ret (v := .tuple #[cellV zeroC, .string ⟨#[]⟩, .int .i64 1]) (by simp [results, Tryd.results15, cellV, zeroC, go_sem, *]) rfl ⟨rfl, ?_⟩
      repeat (first | (with_reducible refine Fp.drew' ?_) | (with_reducible refine Fp.setCell' ?_ (Or.inr (by first | exact hBw | exact Nat.le_refl _)) _) | (with_reducible exact HF7.out))
    case pos =>
      have HO : Hid (decO ⟨row, col, ts, seq, del, val⟩ ⟨rest6, 0⟩ = (⟨row, col, ts, seq, del, val⟩, rest6, 0)) := by
        unfold Hid decO; rw [if_pos rfl, if_pos hm]
      have n2 := N1.out
      rw [hm] at n2
      have N2 := Lib.hid n2
      clear n2 hm
      go_wp2_with (fail)
      clear b0 b1 b2 b3 b4 a0 a1 a2 a3 a4 a5 g0 g1 g2 g3 g4 g5 r0 c6_5 f6_5 r1'
      refine (N2.out _).mono ?_
      rintro e w7 ⟨rfl, hf7⟩
      have hB7 := (hf7.block B (heap_lt (heap_setCell_same HB6.out (o := 5) (.string val))) (by simp)).trans (heap_setCell_same HB6.out (o := 5) (.string val))
      have hA7 := (hf7.block w.heap.size (heap_lt ((heap_setCell_other (o := 5) (Ne.symm hBA) (.string val)).trans HA6.out)) (by simp)).trans ((heap_setCell_other (o := 5) (Ne.symm hBA) (.string val)).trans HA6.out)
      have hR7 := (hf7.block (w.heap.size + 1) (heap_lt ((heap_setCell_other (o := 5) (Ne.symm hBR) (.string val)).trans HR6.out)) (by simp)).trans ((heap_setCell_other (o := 5) (Ne.symm hBR) (.string val)).trans HR6.out)
      have HF7 := Lib.hid ((HF6.out.setCell' (p := ⟨B, 5, none⟩) (Or.inr hBw) (.string val)).trans hf7 (by simp))
      have b0 := cell_of_block hB7 0
      have b1 := cell_of_block hB7 1
      have b2 := cell_of_block hB7 2
      have b3 := cell_of_block hB7 3
      have b4 := cell_of_block hB7 4
      have b5 := cell_of_block hB7 5
      have a0 := cell_of_block hA7 0
      have a1 := cell_of_block hA7 1
      have a2 := cell_of_block hA7 2
      have a3 := cell_of_block hA7 3
      have a4 := cell_of_block hA7 4
      have a5 := cell_of_block hA7 5
      have g0 := frozen_of_block hA7 0
      have g1 := frozen_of_block hA7 1
      have g2 := frozen_of_block hA7 2
      have g3 := frozen_of_block hA7 3
      have g4 := frozen_of_block hA7 4
      have g5 := frozen_of_block hA7 5
      have r0 : w7.cell? ⟨w.heap.size + 1, 0, none⟩ = some (.string rest6) := cell_of_block hR7 0
      simp only [List.getElem?_toArray, List.getElem?_cons_succ, List.getElem?_cons_zero, List.setIfInBounds_toArray, List.set_cons_succ, List.set_cons_zero] at b0 b1 b2 b3 b4 b5 a0 a1 a2 a3 a4 a5
      clear hB7 hA7 hR7 hf7
      go_wp2_with (fail)
      go_region
      go_wp2_with (fail)
      rw [HO.out]
      refine bodyPost_ret (v := .tuple #[cellV ⟨row, col, ts, seq, del, val⟩, .string rest6, .int .i64 0]) (by simp [results, Tryd.results15, cellV, go_sem, *]) rfl ⟨rfl, ?_⟩
      repeat (first | (with_reducible refine Fp.drew' ?_) | (with_reducible refine Fp.setCell' ?_ (Or.inr (by first | exact hBw | exact Nat.le_refl _)) _) | (with_reducible exact HF7.out))
end Go.Proofs.YtlpfijkchbpdmaaDoor
