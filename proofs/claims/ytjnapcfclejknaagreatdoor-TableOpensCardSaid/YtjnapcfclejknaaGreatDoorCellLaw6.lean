/-
  FromKey. The reference decodes as the program does. Keys come back; the reference's FromKey is the program's.
-/
import Derived.Test.YtjnapcfclejknaaGreatDoorRefH
import Derived.Test.YtjnapcfclejknaaGreatDoorCellRead
namespace Go.Proofs.YtjnapcfclejknaaGreatDoor
section
open Go.RowKit

def cutP (s : ByteArray) : List UInt8 × List UInt8 × Bool := Lib.cut s.data.toList [0, 1]
def unP (l : List UInt8) : ByteArray := bl (Lib.replaceAll l [0, 255] [0])
theorem cutP_le (s : ByteArray) : (cutP s).1.length ≤ s.size ∧ (cutP s).2.1.length ≤ s.size := by
  unfold cutP Lib.cut
  rw [Lib.size_eq]
  split
  · exact ⟨by simp only [List.length_take]; omega, by simp only [List.length_drop]; omega⟩
  · exact ⟨Nat.le_refl _, Nat.zero_le _⟩
theorem unP_le (l : List UInt8) : (unP l).size ≤ l.length := by
  unfold unP; rw [bl_size]; exact repl_length _ _ _ (by decide)

theorem cut_any (s : ByteArray) (w : World) (hm : MaxAt w) (hs : s.size ≤ 100000) :
    Calls Tryz.prog 102 #[.string s, .string ⟨#[0, 1]⟩] w fun e w' => e = .returned (.tuple #[.string (bl (cutP s).1), .string (bl (cutP s).2.1), .bool (cutP s).2.2]) ∧ Fp [] w w' := by
  obtain ⟨m, hm⟩ := hm
  refine (Tryz.strings_Cut s ⟨#[0, 1]⟩ m w (by omega) hm).mono ?_
  rintro e w' ⟨rfl, n, rfl⟩
  exact ⟨rfl, Fp.drewN _ _⟩
theorem unesc_any (l : List UInt8) (w : World) (hm : MaxAt w) (hs : l.length ≤ 100000) :
    Calls Tryz.prog 91 #[.string (bl l), .string ⟨#[0, 255]⟩, .string ⟨#[0]⟩] w fun e w' => e = .returned (.string (unP l)) ∧ Fp [] w w' := by
  obtain ⟨m, hm⟩ := hm
  have hz : (bl l).size ≤ 100000 := by rw [bl_size]; exact hs
  have hcb : Lib.countB (bl l) ⟨#[0, 255]⟩ ≤ (bl l).size := Lib.countB_le ⟨#[0, 255]⟩ (by decide) _ _ (Nat.le_refl _)
  have h2 : (⟨#[0]⟩ : ByteArray).size = 1 := rfl
  refine (Tryz.strings_ReplaceAll (bl l) ⟨#[0, 255]⟩ ⟨#[0]⟩ m w (by omega) hm (by decide) (by rw [h2]; omega)).mono ?_
  rintro e w' ⟨rfl, hb⟩
  refine ⟨?_, Below.toFp hb⟩
  rw [bl_toList]
  rfl
theorem index_ptr0 (a b : Option Addr) (w : World) : (Instr.index 140 (.agg #[.pointer a, .pointer b]) (.int .i64 0)).run Tryz.prog w = .ok (.pointer a) w := by
  simp [Instr.index, run_underlying Tryz.underlying140, asIntOf, go_sem]
theorem index_ptr1 (a b : Option Addr) (w : World) : (Instr.index 140 (.agg #[.pointer a, .pointer b]) (.int .i64 1)).run Tryz.prog w = .ok (.pointer b) w := by
  simp [Instr.index, run_underlying Tryz.underlying140, asIntOf, go_sem]

theorem key_all (c : Cel) (w : World) (hc : CelOK c) (hm : MaxAt w) : Calls Tryz.prog 60 #[cellV c] w fun e w' => e = .returned (.string (keyB c)) ∧ Fp [] w w' := by
  unfold keyB
  cases h : mayB c
  · exact key_no c w hc h
  · exact key_yes c w hc h hm
def revB (s : ByteArray) : ByteArray := ⟨s.data.toList.reverse.toArray⟩
def fkP3 (s row col s2 : ByteArray) : Cel × Int :=
  if s2.size = 16 then endK s (coordC row col (M64 - leN (revB (s2.extract 0 8)) 8) (M64 - leN (revB (s2.extract 8 s2.size)) 8)) else (zeroC, 1)
def fkP2 (s row : ByteArray) (Q : List UInt8 × List UInt8 × Bool) : Cel × Int := if Q.2.2 = true then fkP3 s row (unP Q.1) (bl Q.2.1) else (zeroC, 1)
def fkP1 (s : ByteArray) (P : List UInt8 × List UInt8 × Bool) : Cel × Int := if P.2.2 = true then fkP2 s (unP P.1) (cutP (bl P.2.1)) else (zeroC, 1)
def fkP (s : ByteArray) : Cel × Int := fkP1 s (cutP s)

/-- while the numbers are written -/
structure KC (A : Nat) (w : World) (row col : ByteArray) (w' : World) : Prop where
  f : Fp [] w w'
  blk : ∃ x2 x3, w'.heap[A]? = some (.cells #[.string row, .string col, x2, x3, .bool false, .string ⟨#[]⟩] 34 (0, 0))
def KR (A z1 z2 : Nat) (w w' : World) : Prop :=
  (w.cell? ⟨A, 2, none⟩ = some (.int .u64 z1) → w'.cell? ⟨A, 2, none⟩ = some (.int .u64 z1)) ∧ (w.cell? ⟨A, 3, none⟩ = some (.int .u64 z2) → w'.cell? ⟨A, 3, none⟩ = some (.int .u64 z2))
theorem KR.refl (A z1 z2 : Nat) (w : World) : KR A z1 z2 w w := ⟨id, id⟩
theorem KC.fp {A : Nat} {w : World} {row col : ByteArray} {a b : World} (h : KC A w row col a) (hf : Fp [] a b) : KC A w row col b := by
  obtain ⟨x2, x3, hb⟩ := h.blk
  exact ⟨h.f.trans hf (by simp), x2, x3, (hf.block A (heap_lt hb) (by simp)).trans hb⟩
theorem KC.kr {A z1 z2 : Nat} {w : World} {row col : ByteArray} {a b : World} (h : KC A w row col a) (hf : Fp [] a b) : KR A z1 z2 a b := by
  obtain ⟨x2, x3, hb⟩ := h.blk
  exact ⟨fun h2 => (hf.cell (heap_lt hb) (by simp)).trans h2, fun h2 => (hf.cell (heap_lt hb) (by simp)).trans h2⟩
theorem KC.set2 {A z1 z2 : Nat} {w : World} {row col : ByteArray} {a : World} (h : KC A w row col a) (hA : w.heap.size ≤ A) :
    KC A w row col (a.setCell ⟨A, 2, none⟩ (.int .u64 z1)) ∧ KR A z1 z2 a (a.setCell ⟨A, 2, none⟩ (.int .u64 z1)) ∧ (a.setCell ⟨A, 2, none⟩ (.int .u64 z1)).cell? ⟨A, 2, none⟩ = some (.int .u64 z1) := by
  obtain ⟨x2, x3, hb⟩ := h.blk
  have c2 := cell_of_block hb 2
  have e2 : (a.setCell ⟨A, 2, none⟩ (.int .u64 z1)).cell? ⟨A, 2, none⟩ = some (.int .u64 z1) := World.cell?_setCell_same _ _ _ c2
  refine ⟨⟨h.f.setCell' (Or.inr hA) _, _, _, heap_setCell_same hb _⟩, ⟨fun _ => e2, fun h3 => ?_⟩, e2⟩
  rw [World.cell?_setCell_other _ _ _ _ (fun e => absurd (congrArg Addr.off e) (by show ¬ (2 : Nat) = 3; decide))]
  exact h3
theorem KC.set3 {A z1 z2 : Nat} {w : World} {row col : ByteArray} {a : World} (h : KC A w row col a) (hA : w.heap.size ≤ A) :
    KC A w row col (a.setCell ⟨A, 3, none⟩ (.int .u64 z2)) ∧ KR A z1 z2 a (a.setCell ⟨A, 3, none⟩ (.int .u64 z2)) ∧ (a.setCell ⟨A, 3, none⟩ (.int .u64 z2)).cell? ⟨A, 3, none⟩ = some (.int .u64 z2) := by
  obtain ⟨x2, x3, hb⟩ := h.blk
  have c3 := cell_of_block hb 3
  have e3 : (a.setCell ⟨A, 3, none⟩ (.int .u64 z2)).cell? ⟨A, 3, none⟩ = some (.int .u64 z2) := World.cell?_setCell_same _ _ _ c3
  refine ⟨⟨h.f.setCell' (Or.inr hA) _, _, _, heap_setCell_same hb _⟩, ⟨fun h2 => ?_, fun _ => e3⟩, e3⟩
  rw [World.cell?_setCell_other _ _ _ _ (fun e => absurd (congrArg Addr.off e) (by show ¬ (3 : Nat) = 2; decide))]
  exact h2
theorem KC.done {A z1 z2 : Nat} {w : World} {row col : ByteArray} {a : World} (h : KC A w row col a) (h2 : a.cell? ⟨A, 2, none⟩ = some (.int .u64 z1)) (h3 : a.cell? ⟨A, 3, none⟩ = some (.int .u64 z2)) :
    a.heap[A]? = some (.cells #[.string row, .string col, .int .u64 z1, .int .u64 z2, .bool false, .string ⟨#[]⟩] 34 (0, 0)) := by
  obtain ⟨x2, x3, hb⟩ := h.blk
  have c2 := (cell_of_block hb 2).symm.trans h2
  have c3 := (cell_of_block hb 3).symm.trans h3
  simp only [List.getElem?_toArray, List.getElem?_cons_succ, List.getElem?_cons_zero, Option.some.injEq] at c2 c3
  rw [hb, c2, c3]

/-- the block of the result -/
structure One (w W : World) (l : Array Value) : Prop where
  a : W.heap[w.heap.size]? = some (.cells l 34 (0, 0))
  f : Fp [] w W
theorem One.fp {w W W' : World} {l : Array Value} (h : One w W l) (hf : Fp [] W W') : One w W' l := ⟨(hf.block _ (heap_lt h.a) (by simp)).trans h.a, h.f.trans hf (by simp)⟩
theorem One.set {w W : World} {l : Array Value} (h : One w W l) (o : Nat) (v : Value) : One w (W.setCell ⟨w.heap.size, o, none⟩ v) (l.setIfInBounds o v) := ⟨heap_setCell_same h.a v, h.f.setCell' (Or.inr (Nat.le_refl _)) _⟩
theorem One.cell {w W : World} {v0 v1 v2 v3 v4 v5 : Value} (h : One w W #[v0, v1, v2, v3, v4, v5]) : (W.cell? ⟨w.heap.size, 0, none⟩ = some v0 ∧ W.cell? ⟨w.heap.size, 1, none⟩ = some v1 ∧ W.cell? ⟨w.heap.size, 2, none⟩ = some v2 ∧ W.cell? ⟨w.heap.size, 3, none⟩ = some v3 ∧ W.cell? ⟨w.heap.size, 4, none⟩ = some v4 ∧ W.cell? ⟨w.heap.size, 5, none⟩ = some v5) ∧
    (W.frozen? ⟨w.heap.size, 0, none⟩ = false ∧ W.frozen? ⟨w.heap.size, 1, none⟩ = false ∧ W.frozen? ⟨w.heap.size, 2, none⟩ = false ∧ W.frozen? ⟨w.heap.size, 3, none⟩ = false ∧ W.frozen? ⟨w.heap.size, 4, none⟩ = false ∧ W.frozen? ⟨w.heap.size, 5, none⟩ = false) :=
  ⟨⟨cell_of_block h.a 0, cell_of_block h.a 1, cell_of_block h.a 2, cell_of_block h.a 3, cell_of_block h.a 4, cell_of_block h.a 5⟩, ⟨frozen_of_block h.a 0, frozen_of_block h.a 1, frozen_of_block h.a 2, frozen_of_block h.a 3, frozen_of_block h.a 4, frozen_of_block h.a 5⟩⟩

def pick3 {α : Type} (a b c : α) : Nat → α | 0 => a | 1 => b | _ => c

set_option maxRecDepth 100000 in
set_option maxHeartbeats 16000000 in
theorem fromkey_any (s : ByteArray) (w : World) (hm : MaxAt w) (hs : s.size ≤ 100000) :
    Calls Tryz.prog 81 #[.string s] w fun e w' => e = .returned (.tuple #[cellV (fkP s).1, .int .i64 (fkP s).2]) ∧ Fp [] w w' := by
  have HM := Lib.hid hm
  have HT0 : Hid (One w (w.alloc (.cells #[.string ⟨#[]⟩, .string ⟨#[]⟩, .int .u64 0, .int .u64 0, .bool false, .string ⟨#[]⟩] 34)) #[.string ⟨#[]⟩, .string ⟨#[]⟩, .int .u64 0, .int .u64 0, .bool false, .string ⟨#[]⟩]) := Lib.hid ⟨heap_alloc_at rfl _, Fp.alloc _ _⟩
  have t1 := fun w hm => cut_any s w hm hs
  have HD : Hid (fkP s = fkP1 s (cutP s)) := rfl
  have y1 := cutP_le s
  obtain ⟨⟨l1, m1, b1⟩, q1⟩ : ∃ q, cutP s = q := ⟨_, rfl⟩
  rw [q1] at t1 HD y1
  simp only at t1 y1
  have u1 := fun w hm => unesc_any l1 w hm (by omega)
  have e1 := unP_le l1
  obtain ⟨row, hrow⟩ : ∃ x, unP l1 = x := ⟨_, rfl⟩
  obtain ⟨p1, hp1⟩ : ∃ x, bl l1 = x := ⟨_, rfl⟩
  obtain ⟨s1, hs1⟩ : ∃ x, bl m1 = x := ⟨_, rfl⟩
  have z1 : s1.size ≤ 100000 := by rw [← hs1, bl_size]; omega
  rw [hrow] at u1 e1
  rw [hp1] at u1 t1
  rw [hs1] at t1
  have HROW := Lib.hid hrow
  have HS1 := Lib.hid hs1
  have hrz : row.size ≤ 100000 := by omega
  clear hm q1 hrow hp1 hs1 e1 y1
  cases b1
  · have HO : Hid (fkP s = (zeroC, 1)) := HD.out
    have T1 := Lib.hid t1
    clear t1 u1
    go_enter Tryz.func81, Tryz.ntmps81
    go_wp2_with (fail)
    go_loopg [0, 14] 0 (fun g vs vi wr => g = 0 ∧ vi = .int .i64 0 ∧ vs = .string s ∧ One w wr #[.string ⟨#[]⟩, .string ⟨#[]⟩, .int .u64 0, .int .u64 0, .bool false, .string ⟨#[]⟩])
    case atStart => exact ⟨rfl, rfl, rfl, HT0.out⟩
    case round =>
      obtain ⟨rfl, rfl, rfl, hr⟩ := hrel
      have HR := Lib.hid hr
      clear hr
      have hx := fun W' => index_ptr0 (some ⟨w.heap.size, 0, none⟩) (some ⟨w.heap.size, 1, none⟩) W'
      go_wp2_with (fail)
      (with_reducible refine (T1.out _ (HM.out.fp HR.out.f (by simp))).mono ?_)
      rintro e w11 ⟨rfl, hf⟩
      have H11 := Lib.hid (HR.out.fp hf)
      clear hf
      obtain ⟨⟨a0, a1, a2, a3, a4, a5⟩, ⟨g0, g1, g2, g3, g4, g5⟩⟩ := H11.out.cell
      go_wp2_with (fail)
      rw [HO.out]
      refine bodyPost_ret (v := .tuple #[cellV zeroC, .int .i64 1]) (by simp [results, Tryz.results81, cellV, zeroC, go_sem, *]) rfl ⟨rfl, ?_⟩
      repeat (first | (with_reducible refine Fp.drew' ?_) | (with_reducible refine Fp.setCell' ?_ (Or.inr (Nat.le_refl _)) _) | (with_reducible exact H11.out.f))
  have HD2 : Hid (fkP s = fkP2 s row (cutP s1)) := by unfold Hid; rw [HD.out, ← HROW.out, ← HS1.out]; exact if_pos rfl
  have t2 := fun w hm => cut_any s1 w hm z1
  have y2 := cutP_le s1
  obtain ⟨⟨l2, m2, b2⟩, q2⟩ : ∃ q, cutP s1 = q := ⟨_, rfl⟩
  rw [q2] at t2 HD2 y2
  simp only at t2 y2
  have u2 := fun w hm => unesc_any l2 w hm (by omega)
  have e2 := unP_le l2
  obtain ⟨col, hcol⟩ : ∃ x, unP l2 = x := ⟨_, rfl⟩
  obtain ⟨p2, hp2⟩ : ∃ x, bl l2 = x := ⟨_, rfl⟩
  obtain ⟨s2, hs2⟩ : ∃ x, bl m2 = x := ⟨_, rfl⟩
  have z2 : s2.size ≤ 100000 := by rw [← hs2, bl_size]; omega
  rw [hcol] at u2 e2
  rw [hp2] at u2 t2
  rw [hs2] at t2
  have HCOL := Lib.hid hcol
  have HS2 := Lib.hid hs2
  have hcz : col.size ≤ 100000 := by omega
  have T1 := Lib.hid t1
  have U1 := Lib.hid u1
  have T2 := Lib.hid t2
  have U2 := Lib.hid u2
  clear q2 hcol hp2 hs2 e2 y2 t1 u1 t2 u2
  cases b2
  · have HO : Hid (fkP s = (zeroC, 1)) := HD2.out
    go_enter Tryz.func81, Tryz.ntmps81
    go_wp2_with (fail)
    go_loopg [0, 14] 1 (fun g vs vi wr => ∃ k : Nat, g + k = 1 ∧ vi = .int .i64 k ∧ vs = .string (pick3 s s1 s1 k) ∧ One w wr (pick3 #[.string ⟨#[]⟩, .string ⟨#[]⟩, .int .u64 0, .int .u64 0, .bool false, .string ⟨#[]⟩] #[.string row, .string ⟨#[]⟩, .int .u64 0, .int .u64 0, .bool false, .string ⟨#[]⟩] #[.string row, .string ⟨#[]⟩, .int .u64 0, .int .u64 0, .bool false, .string ⟨#[]⟩] k))
    case atStart => exact ⟨0, rfl, rfl, rfl, HT0.out⟩
    case round =>
      obtain ⟨k, hg, rfl, rfl, hr⟩ := hrel
      have HR0 := Lib.hid hr
      clear hr
      have h2 : k = 0 ∨ k = 1 := by omega
      rcases h2 with rfl | rfl
      · have HR : Hid (One w wr #[.string ⟨#[]⟩, .string ⟨#[]⟩, .int .u64 0, .int .u64 0, .bool false, .string ⟨#[]⟩]) := HR0.out
        rw [show ((0 : Nat) : Int) = 0 from rfl]
        simp only [pick3]
        have hx := fun W' => index_ptr0 (some ⟨w.heap.size, 0, none⟩) (some ⟨w.heap.size, 1, none⟩) W'
        go_wp2_with (fail)
        (with_reducible refine (T1.out _ (HM.out.fp HR.out.f (by simp))).mono ?_)
        rintro e w11 ⟨rfl, hf⟩
        have H11 := Lib.hid (HR.out.fp hf)
        clear hf
        go_wp2_with (fail)
        (with_reducible refine (U1.out _ (HM.out.fp H11.out.f (by simp))).mono ?_)
        rintro e w12 ⟨rfl, hf⟩
        have H12 := Lib.hid (H11.out.fp hf)
        clear hf
        obtain ⟨⟨a0, a1, a2, a3, a4, a5⟩, ⟨g0, g1, g2, g3, g4, g5⟩⟩ := H12.out.cell
        go_wp2_with (fail)
        go_roundg (gk - 1)
        case measure => omega
        case rel => exact ⟨1, by omega, rfl, rfl, H12.out.set 0 (.string row)⟩
      · have HR : Hid (One w wr #[.string row, .string ⟨#[]⟩, .int .u64 0, .int .u64 0, .bool false, .string ⟨#[]⟩]) := HR0.out
        rw [show ((1 : Nat) : Int) = 1 from rfl]
        simp only [pick3]
        have hx := fun W' => index_ptr1 (some ⟨w.heap.size, 0, none⟩) (some ⟨w.heap.size, 1, none⟩) W'
        go_wp2_with (fail)
        (with_reducible refine (T2.out _ (HM.out.fp HR.out.f (by simp))).mono ?_)
        rintro e w21 ⟨rfl, hf⟩
        have H21 := Lib.hid (HR.out.fp hf)
        clear hf
        obtain ⟨⟨a0, a1, a2, a3, a4, a5⟩, ⟨g0, g1, g2, g3, g4, g5⟩⟩ := H21.out.cell
        go_wp2_with (fail)
        rw [HO.out]
        refine bodyPost_ret (v := .tuple #[cellV zeroC, .int .i64 1]) (by simp [results, Tryz.results81, cellV, zeroC, go_sem, *]) rfl ⟨rfl, ?_⟩
        repeat (first | (with_reducible refine Fp.drew' ?_) | (with_reducible refine Fp.setCell' ?_ (Or.inr (Nat.le_refl _)) _) | (with_reducible exact H21.out.f))
  have HD3 : Hid (fkP s = fkP3 s row col s2) := by unfold Hid; rw [HD2.out, ← HCOL.out, ← HS2.out]; exact if_pos rfl
  by_cases h16 : s2.size = 16
  case neg =>
    have HO : Hid (fkP s = (zeroC, 1)) := by unfold Hid; rw [HD3.out]; exact if_neg h16
    have j1 : ((s2.size : Int) == 16) = false := by rw [beq_eq_false_iff_ne]; omega
    have j2 : ¬ (s2.size : Int) = 16 := by omega
    have j3 : ¬ s2.size = 16 := h16
    go_enter Tryz.func81, Tryz.ntmps81
    go_wp2_with (fail)
    go_loopg [0, 14] 2 (fun g vs vi wr => ∃ k : Nat, g + k = 2 ∧ vi = .int .i64 k ∧ vs = .string (pick3 s s1 s2 k) ∧ One w wr (pick3 #[.string ⟨#[]⟩, .string ⟨#[]⟩, .int .u64 0, .int .u64 0, .bool false, .string ⟨#[]⟩] #[.string row, .string ⟨#[]⟩, .int .u64 0, .int .u64 0, .bool false, .string ⟨#[]⟩] #[.string row, .string col, .int .u64 0, .int .u64 0, .bool false, .string ⟨#[]⟩] k))
    case atStart => exact ⟨0, rfl, rfl, rfl, HT0.out⟩
    case round =>
      obtain ⟨k, hg, rfl, rfl, hr⟩ := hrel
      have HR0 := Lib.hid hr
      clear hr
      have h2 : k = 0 ∨ k = 1 ∨ k = 2 := by omega
      rcases h2 with rfl | rfl | rfl
      · have HR : Hid (One w wr #[.string ⟨#[]⟩, .string ⟨#[]⟩, .int .u64 0, .int .u64 0, .bool false, .string ⟨#[]⟩]) := HR0.out
        rw [show ((0 : Nat) : Int) = 0 from rfl]
        simp only [pick3]
        have hx := fun W' => index_ptr0 (some ⟨w.heap.size, 0, none⟩) (some ⟨w.heap.size, 1, none⟩) W'
        go_wp2_with (fail)
        (with_reducible refine (T1.out _ (HM.out.fp HR.out.f (by simp))).mono ?_)
        rintro e w11 ⟨rfl, hf⟩
        have H11 := Lib.hid (HR.out.fp hf)
        clear hf
        go_wp2_with (fail)
        (with_reducible refine (U1.out _ (HM.out.fp H11.out.f (by simp))).mono ?_)
        rintro e w12 ⟨rfl, hf⟩
        have H12 := Lib.hid (H11.out.fp hf)
        clear hf
        obtain ⟨⟨a0, a1, a2, a3, a4, a5⟩, ⟨g0, g1, g2, g3, g4, g5⟩⟩ := H12.out.cell
        go_wp2_with (fail)
        go_roundg (gk - 1)
        case measure => omega
        case rel => exact ⟨1, by omega, rfl, rfl, H12.out.set 0 (.string row)⟩
      · have HR : Hid (One w wr #[.string row, .string ⟨#[]⟩, .int .u64 0, .int .u64 0, .bool false, .string ⟨#[]⟩]) := HR0.out
        rw [show ((1 : Nat) : Int) = 1 from rfl]
        simp only [pick3]
        have hx := fun W' => index_ptr1 (some ⟨w.heap.size, 0, none⟩) (some ⟨w.heap.size, 1, none⟩) W'
        go_wp2_with (fail)
        (with_reducible refine (T2.out _ (HM.out.fp HR.out.f (by simp))).mono ?_)
        rintro e w21 ⟨rfl, hf⟩
        have H21 := Lib.hid (HR.out.fp hf)
        clear hf
        go_wp2_with (fail)
        (with_reducible refine (U2.out _ (HM.out.fp H21.out.f (by simp))).mono ?_)
        rintro e w22 ⟨rfl, hf⟩
        have H22 := Lib.hid (H21.out.fp hf)
        clear hf
        obtain ⟨⟨a0, a1, a2, a3, a4, a5⟩, ⟨g0, g1, g2, g3, g4, g5⟩⟩ := H22.out.cell
        go_wp2_with (fail)
        go_roundg (gk - 1)
        case measure => omega
        case rel => exact ⟨2, by omega, rfl, rfl, H22.out.set 1 (.string col)⟩
      · have HR : Hid (One w wr #[.string row, .string col, .int .u64 0, .int .u64 0, .bool false, .string ⟨#[]⟩]) := HR0.out
        rw [show ((2 : Nat) : Int) = 2 from rfl]
        simp only [pick3]
        obtain ⟨⟨a0, a1, a2, a3, a4, a5⟩, ⟨g0, g1, g2, g3, g4, g5⟩⟩ := HR.out.cell
        go_wp2_with (fail)
        rw [HO.out]
        refine bodyPost_ret (v := .tuple #[cellV zeroC, .int .i64 1]) (by simp [results, Tryz.results81, cellV, zeroC, go_sem, *]) rfl ⟨rfl, ?_⟩
        repeat (first | (with_reducible refine Fp.drew' ?_) | (with_reducible refine Fp.setCell' ?_ (Or.inr (Nat.le_refl _)) _) | (with_reducible exact HR.out.f))
  have HD4 : Hid (fkP s = endK s (coordC row col (M64 - leN (revB (s2.extract 0 8)) 8) (M64 - leN (revB (s2.extract 8 s2.size)) 8))) := by unfold Hid; rw [HD3.out]; exact if_pos h16
  have a1 := fun w => turned_any w (s2.extract 0 8) (by simp; omega)
  have a2 := fun w => turned_any w (s2.extract 8 s2.size) (by simp; omega)
  have rz1 : (revB (s2.extract 0 8)).size = 8 := by show (s2.extract 0 8).data.toList.reverse.toArray.size = 8; rw [List.size_toArray, List.length_reverse, ← Lib.size_eq]; simp; omega
  have rz2 : (revB (s2.extract 8 s2.size)).size = 8 := by show (s2.extract 8 s2.size).data.toList.reverse.toArray.size = 8; rw [List.size_toArray, List.length_reverse, ← Lib.size_eq]; simp; omega
  have n1 := fun w => number_any w (revB (s2.extract 0 8)) (by omega) (by omega)
  have n2 := fun w => number_any w (revB (s2.extract 8 s2.size)) (by omega) (by omega)
  have l1' := leN_lt (revB (s2.extract 0 8)) 8
  have l2' := leN_lt (revB (s2.extract 8 s2.size)) 8
  have e256 : (256 : Nat) ^ 8 = 18446744073709551616 := by decide
  rw [e256] at l1' l2'
  change ∀ w, Calls Tryz.prog _ _ w fun e w' => e = .returned (.string (revB (s2.extract 0 8))) ∧ Fp [] w w' at a1
  change ∀ w, Calls Tryz.prog _ _ w fun e w' => e = .returned (.string (revB (s2.extract 8 s2.size))) ∧ Fp [] w w' at a2
  obtain ⟨v1, hv1⟩ : ∃ x, revB (s2.extract 0 8) = x := ⟨_, rfl⟩
  obtain ⟨v2, hv2⟩ : ∃ x, revB (s2.extract 8 s2.size) = x := ⟨_, rfl⟩
  rw [hv1, hv2] at HD4
  rw [hv1] at a1 n1 l1'
  rw [hv2] at a2 n2 l2'
  obtain ⟨x1, hx1⟩ : ∃ x, leN v1 8 = x := ⟨_, rfl⟩
  obtain ⟨x2, hx2⟩ : ∃ x, leN v2 8 = x := ⟨_, rfl⟩
  rw [hx1, hx2] at HD4
  rw [hx1] at n1 l1'
  rw [hx2] at n2 l2'
  have w1 := not_u64 x1 l1'
  have w2 := not_u64 x2 l2'
  have hok : CelOK ⟨row, col, M64 - x1, M64 - x2, false, ⟨#[]⟩⟩ := ⟨by show M64 - x1 < _; unfold M64; omega, by show M64 - x2 < _; unfold M64; omega, by show row.size ≤ _; omega, by show col.size ≤ _; omega, by show (0 : Nat) ≤ _; omega⟩
  have k1 := fun w hm => key_all ⟨row, col, M64 - x1, M64 - x2, false, ⟨#[]⟩⟩ w hok hm
  unfold cellV at k1
  simp only at k1
  obtain ⟨y1, hy1⟩ : ∃ x, M64 - x1 = x := ⟨_, rfl⟩
  obtain ⟨y2, hy2⟩ : ∃ x, M64 - x2 = x := ⟨_, rfl⟩
  rw [hy1, hy2] at HD4 k1
  rw [hy1] at w1
  rw [hy2] at w2
  have w3 : bits BinOp.xor IntKind.u64 (if IntKind.u64.signed = true then -1 else IntKind.u64.max) (x1 : Int) = (y1 : Int) := by rw [if_neg (by decide)]; exact w1
  have w4 : bits BinOp.xor IntKind.u64 (if IntKind.u64.signed = true then -1 else IntKind.u64.max) (x2 : Int) = (y2 : Int) := by rw [if_neg (by decide)]; exact w2
  obtain ⟨kb, hkb⟩ : ∃ x, keyB ⟨row, col, y1, y2, false, ⟨#[]⟩⟩ = x := ⟨_, rfl⟩
  rw [hkb] at k1
  have HKB := Lib.hid hkb
  have A1 := Lib.hid a1
  have A2 := Lib.hid a2
  have N1 := Lib.hid n1
  have N2 := Lib.hid n2
  have K1 := Lib.hid k1
  have j1 : ((s2.size : Int) == 16) = true := by rw [beq_iff_eq]; omega
  have j2 : 8 ≤ s2.size := by omega
  have j3 : (8 : Int) ≤ (s2.size : Int) := by omega
  clear hx1 hx2 hy1 hy2 hkb hv1 hv2 l1' l2' e256 rz1 rz2 a1 a2 n1 n2 k1 hok h16
  by_cases hk : kb = s
  · have HO : Hid (fkP s = (⟨row, col, y1, y2, false, ⟨#[]⟩⟩, 0)) := by unfold Hid; rw [HD4.out]; exact if_pos (by rw [coordC, HKB.out, hk])
    have hkt : (kb.toList == s.toList) = true := by rw [hk]; simp
    clear hk
    go_enter Tryz.func81, Tryz.ntmps81
    go_wp2_with (fail)
    go_loopg [0, 14] 2 (fun g vs vi wr => ∃ k : Nat, g + k = 2 ∧ vi = .int .i64 k ∧ vs = .string (pick3 s s1 s2 k) ∧ One w wr (pick3 #[.string ⟨#[]⟩, .string ⟨#[]⟩, .int .u64 0, .int .u64 0, .bool false, .string ⟨#[]⟩] #[.string row, .string ⟨#[]⟩, .int .u64 0, .int .u64 0, .bool false, .string ⟨#[]⟩] #[.string row, .string col, .int .u64 0, .int .u64 0, .bool false, .string ⟨#[]⟩] k))
    case atStart => exact ⟨0, rfl, rfl, rfl, HT0.out⟩
    case round =>
      obtain ⟨k, hg, rfl, rfl, hr⟩ := hrel
      have HR0 := Lib.hid hr
      clear hr
      have h2 : k = 0 ∨ k = 1 ∨ k = 2 := by omega
      rcases h2 with rfl | rfl | rfl
      · have HR : Hid (One w wr #[.string ⟨#[]⟩, .string ⟨#[]⟩, .int .u64 0, .int .u64 0, .bool false, .string ⟨#[]⟩]) := HR0.out
        rw [show ((0 : Nat) : Int) = 0 from rfl]
        simp only [pick3]
        have hx := fun W' => index_ptr0 (some ⟨w.heap.size, 0, none⟩) (some ⟨w.heap.size, 1, none⟩) W'
        go_wp2_with (fail)
        (with_reducible refine (T1.out _ (HM.out.fp HR.out.f (by simp))).mono ?_)
        rintro e w11 ⟨rfl, hf⟩
        have H11 := Lib.hid (HR.out.fp hf)
        clear hf
        go_wp2_with (fail)
        (with_reducible refine (U1.out _ (HM.out.fp H11.out.f (by simp))).mono ?_)
        rintro e w12 ⟨rfl, hf⟩
        have H12 := Lib.hid (H11.out.fp hf)
        clear hf
        obtain ⟨⟨a0, a1, a2, a3, a4, a5⟩, ⟨g0, g1, g2, g3, g4, g5⟩⟩ := H12.out.cell
        go_wp2_with (fail)
        go_roundg (gk - 1)
        case measure => omega
        case rel => exact ⟨1, by omega, rfl, rfl, H12.out.set 0 (.string row)⟩
      · have HR : Hid (One w wr #[.string row, .string ⟨#[]⟩, .int .u64 0, .int .u64 0, .bool false, .string ⟨#[]⟩]) := HR0.out
        rw [show ((1 : Nat) : Int) = 1 from rfl]
        simp only [pick3]
        have hx := fun W' => index_ptr1 (some ⟨w.heap.size, 0, none⟩) (some ⟨w.heap.size, 1, none⟩) W'
        go_wp2_with (fail)
        (with_reducible refine (T2.out _ (HM.out.fp HR.out.f (by simp))).mono ?_)
        rintro e w21 ⟨rfl, hf⟩
        have H21 := Lib.hid (HR.out.fp hf)
        clear hf
        go_wp2_with (fail)
        (with_reducible refine (U2.out _ (HM.out.fp H21.out.f (by simp))).mono ?_)
        rintro e w22 ⟨rfl, hf⟩
        have H22 := Lib.hid (H21.out.fp hf)
        clear hf
        obtain ⟨⟨a0, a1, a2, a3, a4, a5⟩, ⟨g0, g1, g2, g3, g4, g5⟩⟩ := H22.out.cell
        go_wp2_with (fail)
        go_roundg (gk - 1)
        case measure => omega
        case rel => exact ⟨2, by omega, rfl, rfl, H22.out.set 1 (.string col)⟩
      · have HR : Hid (One w wr #[.string row, .string col, .int .u64 0, .int .u64 0, .bool false, .string ⟨#[]⟩]) := HR0.out
        rw [show ((2 : Nat) : Int) = 2 from rfl]
        simp only [pick3]
        go_wp2_with (fail)
        refine wp_region_each (KC w.heap.size w row col) (KR w.heap.size y1 y2) (by kernel_rfl) (by kernel_rfl) ?_ ?_
        · exact ⟨HR.out.f.trans (Fp.drew _) (by simp), _, _, HR.out.a⟩
        -- 0
        apply ex_plain rfl rfl rfl
        · intro a w hC hA K hK
          have h0 := hA.free 0 _ (by kernel_rfl) rfl
          simp only [Oper.wp, execOp]; go_simp
          exact hK _ hC (KR.refl _ _ _ _)
        -- 1
        apply ex_plain rfl rfl rfl
        · intro a w hC hA K hK
          have h36 : a.tmps[36]?.getD undef = _ := hA.dep 0 36 _ (by kernel_rfl) rfl
          simp only [Oper.wp, execOp]; go_simp
          exact hK _ hC (KR.refl _ _ _ _)
        -- 2
        apply ex_plain rfl rfl rfl
        · intro a w hC hA K hK
          have h37 : a.tmps[37]?.getD undef = _ := hA.dep 1 37 _ (by kernel_rfl) rfl
          simp only [Oper.wp, execOp]; go_simp
          first
            | ((with_reducible refine (A1.out _).mono ?_); rintro e w2 ⟨rfl, hf⟩; exact hK _ (hC.fp hf) (hC.kr hf))
            | ((with_reducible refine (A2.out _).mono ?_); rintro e w2 ⟨rfl, hf⟩; exact hK _ (hC.fp hf) (hC.kr hf))
            | ((with_reducible refine (N1.out _).mono ?_); rintro e w2 ⟨rfl, hf⟩; exact hK _ (hC.fp hf) (hC.kr hf))
            | ((with_reducible refine (N2.out _).mono ?_); rintro e w2 ⟨rfl, hf⟩; exact hK _ (hC.fp hf) (hC.kr hf))
        -- 3
        apply ex_plain rfl rfl rfl
        · intro a w hC hA K hK
          have h38 : a.tmps[38]?.getD undef = _ := hA.dep 2 38 _ (by kernel_rfl) rfl
          simp only [Oper.wp, execOp]; go_simp
          first
            | ((with_reducible refine (A1.out _).mono ?_); rintro e w2 ⟨rfl, hf⟩; exact hK _ (hC.fp hf) (hC.kr hf))
            | ((with_reducible refine (A2.out _).mono ?_); rintro e w2 ⟨rfl, hf⟩; exact hK _ (hC.fp hf) (hC.kr hf))
            | ((with_reducible refine (N1.out _).mono ?_); rintro e w2 ⟨rfl, hf⟩; exact hK _ (hC.fp hf) (hC.kr hf))
            | ((with_reducible refine (N2.out _).mono ?_); rintro e w2 ⟨rfl, hf⟩; exact hK _ (hC.fp hf) (hC.kr hf))
        -- 4
        apply ex_plain rfl rfl rfl
        · intro a w hC hA K hK
          have h39 : a.tmps[39]?.getD undef = _ := hA.dep 3 39 _ (by kernel_rfl) rfl
          simp only [Oper.wp, execOp]; go_simp
          exact hK _ hC (KR.refl _ _ _ _)
        -- 5
        apply ex_plain rfl rfl rfl
        · intro a w hC hA K hK
          have h0 := hA.free 0 _ (by kernel_rfl) rfl
          simp only [Oper.wp, execOp]; go_simp
          exact hK _ hC (KR.refl _ _ _ _)
        -- 6
        apply ex_plain rfl rfl rfl
        · intro a w hC hA K hK
          have h41 : a.tmps[41]?.getD undef = _ := hA.dep 5 41 _ (by kernel_rfl) rfl
          simp only [Oper.wp, execOp]; go_simp
          exact hK _ hC (KR.refl _ _ _ _)
        -- 7
        apply ex_plain rfl rfl rfl
        · intro a w hC hA K hK
          have h42 : a.tmps[42]?.getD undef = _ := hA.dep 6 42 _ (by kernel_rfl) rfl
          simp only [Oper.wp, execOp]; go_simp
          first
            | ((with_reducible refine (A1.out _).mono ?_); rintro e w2 ⟨rfl, hf⟩; exact hK _ (hC.fp hf) (hC.kr hf))
            | ((with_reducible refine (A2.out _).mono ?_); rintro e w2 ⟨rfl, hf⟩; exact hK _ (hC.fp hf) (hC.kr hf))
            | ((with_reducible refine (N1.out _).mono ?_); rintro e w2 ⟨rfl, hf⟩; exact hK _ (hC.fp hf) (hC.kr hf))
            | ((with_reducible refine (N2.out _).mono ?_); rintro e w2 ⟨rfl, hf⟩; exact hK _ (hC.fp hf) (hC.kr hf))
        -- 8
        apply ex_plain rfl rfl rfl
        · intro a w hC hA K hK
          have h43 : a.tmps[43]?.getD undef = _ := hA.dep 7 43 _ (by kernel_rfl) rfl
          simp only [Oper.wp, execOp]; go_simp
          first
            | ((with_reducible refine (A1.out _).mono ?_); rintro e w2 ⟨rfl, hf⟩; exact hK _ (hC.fp hf) (hC.kr hf))
            | ((with_reducible refine (A2.out _).mono ?_); rintro e w2 ⟨rfl, hf⟩; exact hK _ (hC.fp hf) (hC.kr hf))
            | ((with_reducible refine (N1.out _).mono ?_); rintro e w2 ⟨rfl, hf⟩; exact hK _ (hC.fp hf) (hC.kr hf))
            | ((with_reducible refine (N2.out _).mono ?_); rintro e w2 ⟨rfl, hf⟩; exact hK _ (hC.fp hf) (hC.kr hf))
        -- 9
        apply ex_plain rfl rfl rfl
        · intro a w hC hA K hK
          have h44 : a.tmps[44]?.getD undef = _ := hA.dep 8 44 _ (by kernel_rfl) rfl
          simp only [Oper.wp, execOp]; go_simp
          exact hK _ hC (KR.refl _ _ _ _)
        -- 10
        apply ex_plain rfl rfl rfl
        · intro a w hC hA K hK
          have h2 := hA.free 2 _ (by kernel_rfl) rfl
          simp only [Oper.wp, execOp]; go_simp
          exact hK _ hC (KR.refl _ _ _ _)
        -- 11
        apply ex_effect ((fun w' => w'.cell? ⟨w.heap.size, 2, none⟩ = some (.int .u64 y1))) rfl rfl
        · intro a w hC hA K hK
          have h46 : a.tmps[46]?.getD undef = _ := hA.dep 10 46 _ (by kernel_rfl) rfl
          have h40 : a.tmps[40]?.getD undef = _ := hA.dep 4 40 _ (by kernel_rfl) rfl
          obtain ⟨q2, q3, hq⟩ := hC.blk
          have qc := cell_of_block hq 2
          have qf := frozen_of_block hq 2
          simp only [List.getElem?_toArray, List.getElem?_cons_succ, List.getElem?_cons_zero] at qc
          have hset := hC.set2 (z1 := y1) (z2 := y2) (Nat.le_refl _)
          simp only [Oper.wp, execOp]; go_simp
          exact hK undef _ hset.1 hset.2.1 hset.2.2
        -- 12
        apply ex_plain rfl rfl rfl
        · intro a w hC hA K hK
          have h2 := hA.free 2 _ (by kernel_rfl) rfl
          simp only [Oper.wp, execOp]; go_simp
          exact hK _ hC (KR.refl _ _ _ _)
        -- 13
        apply ex_effect ((fun w' => w'.cell? ⟨w.heap.size, 3, none⟩ = some (.int .u64 y2))) rfl rfl
        · intro a w hC hA K hK
          have h47 : a.tmps[47]?.getD undef = _ := hA.dep 12 47 _ (by kernel_rfl) rfl
          have h45 : a.tmps[45]?.getD undef = _ := hA.dep 9 45 _ (by kernel_rfl) rfl
          obtain ⟨q2, q3, hq⟩ := hC.blk
          have qc := cell_of_block hq 3
          have qf := frozen_of_block hq 3
          simp only [List.getElem?_toArray, List.getElem?_cons_succ, List.getElem?_cons_zero] at qc
          have hset := hC.set3 (z1 := y1) (z2 := y2) (Nat.le_refl _)
          simp only [Oper.wp, execOp]; go_simp
          exact hK undef _ hset.1 hset.2.1 hset.2.2
        refine ⟨?_, ?_⟩
        · refine ⟨fun w1 w2 v _ hr h => hr.2 h, ?_⟩
          refine stab_val _ ?_
          refine ⟨fun w1 w2 v _ hr h => hr.1 h, ?_⟩
          refine stab_val _ ?_
          refine stab_val _ ?_
          refine stab_val _ ?_
          refine stab_val _ ?_
          refine stab_val _ ?_
          refine stab_val _ ?_
          refine stab_val _ ?_
          refine stab_val _ ?_
          refine stab_val _ ?_
          refine stab_val _ ?_
          refine stab_val _ ?_
          exact trivial
        · intro w' hC
          simp only [List.reverse_cons, List.reverse_nil, List.nil_append, List.cons_append]
          iterate 11 (refine all_val ?_)
          refine all_some ?_
          intro v11 u11
          iterate 1 (refine all_val ?_)
          refine all_some ?_
          intro v13 u13
          refine all_nil ?_
          simp only [putAll, Act.put, List.setIfInBounds_toArray, List.set_cons_succ, List.set_cons_zero]
          have H5 : Hid (One w w' #[.string row, .string col, .int .u64 y1, .int .u64 y2, .bool false, .string ⟨#[]⟩]) := Lib.hid ⟨hC.done u11 u13, hC.f⟩
          clear hC u11 u13
          obtain ⟨⟨a0, a1, a2, a3, a4, a5⟩, ⟨g0, g1, g2, g3, g4, g5⟩⟩ := H5.out.cell
          go_wp2_with (fail)
          clear a0 a1 a2 a3 a4 a5 g0 g1 g2 g3 g4 g5
          (with_reducible refine (K1.out _ (HM.out.fp H5.out.f (by simp))).mono ?_)
          rintro e w6 ⟨rfl, hf⟩
          have H6 := Lib.hid (H5.out.fp hf)
          clear hf
          obtain ⟨⟨a0, a1, a2, a3, a4, a5⟩, ⟨g0, g1, g2, g3, g4, g5⟩⟩ := H6.out.cell
          go_wp2_with (fail)
          rw [HO.out]
          refine bodyPost_ret (v := .tuple #[cellV ⟨row, col, y1, y2, false, ⟨#[]⟩⟩, .int .i64 0]) (by simp [results, Tryz.results81, cellV, go_sem, *]) rfl ⟨rfl, ?_⟩
          repeat (first | (with_reducible refine Fp.drew' ?_) | (with_reducible refine Fp.setCell' ?_ (Or.inr (Nat.le_refl _)) _) | (with_reducible exact H6.out.f))
  · have HO : Hid (fkP s = (zeroC, 1)) := by unfold Hid; rw [HD4.out]; exact if_neg (by rw [coordC, HKB.out]; exact hk)
    have hkt : (kb.toList == s.toList) = false := by rw [beq_eq_false_iff_ne]; exact fun e => hk (toList_inj' e)
    clear hk
    go_enter Tryz.func81, Tryz.ntmps81
    go_wp2_with (fail)
    go_loopg [0, 14] 2 (fun g vs vi wr => ∃ k : Nat, g + k = 2 ∧ vi = .int .i64 k ∧ vs = .string (pick3 s s1 s2 k) ∧ One w wr (pick3 #[.string ⟨#[]⟩, .string ⟨#[]⟩, .int .u64 0, .int .u64 0, .bool false, .string ⟨#[]⟩] #[.string row, .string ⟨#[]⟩, .int .u64 0, .int .u64 0, .bool false, .string ⟨#[]⟩] #[.string row, .string col, .int .u64 0, .int .u64 0, .bool false, .string ⟨#[]⟩] k))
    case atStart => exact ⟨0, rfl, rfl, rfl, HT0.out⟩
    case round =>
      obtain ⟨k, hg, rfl, rfl, hr⟩ := hrel
      have HR0 := Lib.hid hr
      clear hr
      have h2 : k = 0 ∨ k = 1 ∨ k = 2 := by omega
      rcases h2 with rfl | rfl | rfl
      · have HR : Hid (One w wr #[.string ⟨#[]⟩, .string ⟨#[]⟩, .int .u64 0, .int .u64 0, .bool false, .string ⟨#[]⟩]) := HR0.out
        rw [show ((0 : Nat) : Int) = 0 from rfl]
        simp only [pick3]
        have hx := fun W' => index_ptr0 (some ⟨w.heap.size, 0, none⟩) (some ⟨w.heap.size, 1, none⟩) W'
        go_wp2_with (fail)
        (with_reducible refine (T1.out _ (HM.out.fp HR.out.f (by simp))).mono ?_)
        rintro e w11 ⟨rfl, hf⟩
        have H11 := Lib.hid (HR.out.fp hf)
        clear hf
        go_wp2_with (fail)
        (with_reducible refine (U1.out _ (HM.out.fp H11.out.f (by simp))).mono ?_)
        rintro e w12 ⟨rfl, hf⟩
        have H12 := Lib.hid (H11.out.fp hf)
        clear hf
        obtain ⟨⟨a0, a1, a2, a3, a4, a5⟩, ⟨g0, g1, g2, g3, g4, g5⟩⟩ := H12.out.cell
        go_wp2_with (fail)
        go_roundg (gk - 1)
        case measure => omega
        case rel => exact ⟨1, by omega, rfl, rfl, H12.out.set 0 (.string row)⟩
      · have HR : Hid (One w wr #[.string row, .string ⟨#[]⟩, .int .u64 0, .int .u64 0, .bool false, .string ⟨#[]⟩]) := HR0.out
        rw [show ((1 : Nat) : Int) = 1 from rfl]
        simp only [pick3]
        have hx := fun W' => index_ptr1 (some ⟨w.heap.size, 0, none⟩) (some ⟨w.heap.size, 1, none⟩) W'
        go_wp2_with (fail)
        (with_reducible refine (T2.out _ (HM.out.fp HR.out.f (by simp))).mono ?_)
        rintro e w21 ⟨rfl, hf⟩
        have H21 := Lib.hid (HR.out.fp hf)
        clear hf
        go_wp2_with (fail)
        (with_reducible refine (U2.out _ (HM.out.fp H21.out.f (by simp))).mono ?_)
        rintro e w22 ⟨rfl, hf⟩
        have H22 := Lib.hid (H21.out.fp hf)
        clear hf
        obtain ⟨⟨a0, a1, a2, a3, a4, a5⟩, ⟨g0, g1, g2, g3, g4, g5⟩⟩ := H22.out.cell
        go_wp2_with (fail)
        go_roundg (gk - 1)
        case measure => omega
        case rel => exact ⟨2, by omega, rfl, rfl, H22.out.set 1 (.string col)⟩
      · have HR : Hid (One w wr #[.string row, .string col, .int .u64 0, .int .u64 0, .bool false, .string ⟨#[]⟩]) := HR0.out
        rw [show ((2 : Nat) : Int) = 2 from rfl]
        simp only [pick3]
        go_wp2_with (fail)
        refine wp_region_each (KC w.heap.size w row col) (KR w.heap.size y1 y2) (by kernel_rfl) (by kernel_rfl) ?_ ?_
        · exact ⟨HR.out.f.trans (Fp.drew _) (by simp), _, _, HR.out.a⟩
        -- 0
        apply ex_plain rfl rfl rfl
        · intro a w hC hA K hK
          have h0 := hA.free 0 _ (by kernel_rfl) rfl
          simp only [Oper.wp, execOp]; go_simp
          exact hK _ hC (KR.refl _ _ _ _)
        -- 1
        apply ex_plain rfl rfl rfl
        · intro a w hC hA K hK
          have h36 : a.tmps[36]?.getD undef = _ := hA.dep 0 36 _ (by kernel_rfl) rfl
          simp only [Oper.wp, execOp]; go_simp
          exact hK _ hC (KR.refl _ _ _ _)
        -- 2
        apply ex_plain rfl rfl rfl
        · intro a w hC hA K hK
          have h37 : a.tmps[37]?.getD undef = _ := hA.dep 1 37 _ (by kernel_rfl) rfl
          simp only [Oper.wp, execOp]; go_simp
          first
            | ((with_reducible refine (A1.out _).mono ?_); rintro e w2 ⟨rfl, hf⟩; exact hK _ (hC.fp hf) (hC.kr hf))
            | ((with_reducible refine (A2.out _).mono ?_); rintro e w2 ⟨rfl, hf⟩; exact hK _ (hC.fp hf) (hC.kr hf))
            | ((with_reducible refine (N1.out _).mono ?_); rintro e w2 ⟨rfl, hf⟩; exact hK _ (hC.fp hf) (hC.kr hf))
            | ((with_reducible refine (N2.out _).mono ?_); rintro e w2 ⟨rfl, hf⟩; exact hK _ (hC.fp hf) (hC.kr hf))
        -- 3
        apply ex_plain rfl rfl rfl
        · intro a w hC hA K hK
          have h38 : a.tmps[38]?.getD undef = _ := hA.dep 2 38 _ (by kernel_rfl) rfl
          simp only [Oper.wp, execOp]; go_simp
          first
            | ((with_reducible refine (A1.out _).mono ?_); rintro e w2 ⟨rfl, hf⟩; exact hK _ (hC.fp hf) (hC.kr hf))
            | ((with_reducible refine (A2.out _).mono ?_); rintro e w2 ⟨rfl, hf⟩; exact hK _ (hC.fp hf) (hC.kr hf))
            | ((with_reducible refine (N1.out _).mono ?_); rintro e w2 ⟨rfl, hf⟩; exact hK _ (hC.fp hf) (hC.kr hf))
            | ((with_reducible refine (N2.out _).mono ?_); rintro e w2 ⟨rfl, hf⟩; exact hK _ (hC.fp hf) (hC.kr hf))
        -- 4
        apply ex_plain rfl rfl rfl
        · intro a w hC hA K hK
          have h39 : a.tmps[39]?.getD undef = _ := hA.dep 3 39 _ (by kernel_rfl) rfl
          simp only [Oper.wp, execOp]; go_simp
          exact hK _ hC (KR.refl _ _ _ _)
        -- 5
        apply ex_plain rfl rfl rfl
        · intro a w hC hA K hK
          have h0 := hA.free 0 _ (by kernel_rfl) rfl
          simp only [Oper.wp, execOp]; go_simp
          exact hK _ hC (KR.refl _ _ _ _)
        -- 6
        apply ex_plain rfl rfl rfl
        · intro a w hC hA K hK
          have h41 : a.tmps[41]?.getD undef = _ := hA.dep 5 41 _ (by kernel_rfl) rfl
          simp only [Oper.wp, execOp]; go_simp
          exact hK _ hC (KR.refl _ _ _ _)
        -- 7
        apply ex_plain rfl rfl rfl
        · intro a w hC hA K hK
          have h42 : a.tmps[42]?.getD undef = _ := hA.dep 6 42 _ (by kernel_rfl) rfl
          simp only [Oper.wp, execOp]; go_simp
          first
            | ((with_reducible refine (A1.out _).mono ?_); rintro e w2 ⟨rfl, hf⟩; exact hK _ (hC.fp hf) (hC.kr hf))
            | ((with_reducible refine (A2.out _).mono ?_); rintro e w2 ⟨rfl, hf⟩; exact hK _ (hC.fp hf) (hC.kr hf))
            | ((with_reducible refine (N1.out _).mono ?_); rintro e w2 ⟨rfl, hf⟩; exact hK _ (hC.fp hf) (hC.kr hf))
            | ((with_reducible refine (N2.out _).mono ?_); rintro e w2 ⟨rfl, hf⟩; exact hK _ (hC.fp hf) (hC.kr hf))
        -- 8
        apply ex_plain rfl rfl rfl
        · intro a w hC hA K hK
          have h43 : a.tmps[43]?.getD undef = _ := hA.dep 7 43 _ (by kernel_rfl) rfl
          simp only [Oper.wp, execOp]; go_simp
          first
            | ((with_reducible refine (A1.out _).mono ?_); rintro e w2 ⟨rfl, hf⟩; exact hK _ (hC.fp hf) (hC.kr hf))
            | ((with_reducible refine (A2.out _).mono ?_); rintro e w2 ⟨rfl, hf⟩; exact hK _ (hC.fp hf) (hC.kr hf))
            | ((with_reducible refine (N1.out _).mono ?_); rintro e w2 ⟨rfl, hf⟩; exact hK _ (hC.fp hf) (hC.kr hf))
            | ((with_reducible refine (N2.out _).mono ?_); rintro e w2 ⟨rfl, hf⟩; exact hK _ (hC.fp hf) (hC.kr hf))
        -- 9
        apply ex_plain rfl rfl rfl
        · intro a w hC hA K hK
          have h44 : a.tmps[44]?.getD undef = _ := hA.dep 8 44 _ (by kernel_rfl) rfl
          simp only [Oper.wp, execOp]; go_simp
          exact hK _ hC (KR.refl _ _ _ _)
        -- 10
        apply ex_plain rfl rfl rfl
        · intro a w hC hA K hK
          have h2 := hA.free 2 _ (by kernel_rfl) rfl
          simp only [Oper.wp, execOp]; go_simp
          exact hK _ hC (KR.refl _ _ _ _)
        -- 11
        apply ex_effect ((fun w' => w'.cell? ⟨w.heap.size, 2, none⟩ = some (.int .u64 y1))) rfl rfl
        · intro a w hC hA K hK
          have h46 : a.tmps[46]?.getD undef = _ := hA.dep 10 46 _ (by kernel_rfl) rfl
          have h40 : a.tmps[40]?.getD undef = _ := hA.dep 4 40 _ (by kernel_rfl) rfl
          obtain ⟨q2, q3, hq⟩ := hC.blk
          have qc := cell_of_block hq 2
          have qf := frozen_of_block hq 2
          simp only [List.getElem?_toArray, List.getElem?_cons_succ, List.getElem?_cons_zero] at qc
          have hset := hC.set2 (z1 := y1) (z2 := y2) (Nat.le_refl _)
          simp only [Oper.wp, execOp]; go_simp
          exact hK undef _ hset.1 hset.2.1 hset.2.2
        -- 12
        apply ex_plain rfl rfl rfl
        · intro a w hC hA K hK
          have h2 := hA.free 2 _ (by kernel_rfl) rfl
          simp only [Oper.wp, execOp]; go_simp
          exact hK _ hC (KR.refl _ _ _ _)
        -- 13
        apply ex_effect ((fun w' => w'.cell? ⟨w.heap.size, 3, none⟩ = some (.int .u64 y2))) rfl rfl
        · intro a w hC hA K hK
          have h47 : a.tmps[47]?.getD undef = _ := hA.dep 12 47 _ (by kernel_rfl) rfl
          have h45 : a.tmps[45]?.getD undef = _ := hA.dep 9 45 _ (by kernel_rfl) rfl
          obtain ⟨q2, q3, hq⟩ := hC.blk
          have qc := cell_of_block hq 3
          have qf := frozen_of_block hq 3
          simp only [List.getElem?_toArray, List.getElem?_cons_succ, List.getElem?_cons_zero] at qc
          have hset := hC.set3 (z1 := y1) (z2 := y2) (Nat.le_refl _)
          simp only [Oper.wp, execOp]; go_simp
          exact hK undef _ hset.1 hset.2.1 hset.2.2
        refine ⟨?_, ?_⟩
        · refine ⟨fun w1 w2 v _ hr h => hr.2 h, ?_⟩
          refine stab_val _ ?_
          refine ⟨fun w1 w2 v _ hr h => hr.1 h, ?_⟩
          refine stab_val _ ?_
          refine stab_val _ ?_
          refine stab_val _ ?_
          refine stab_val _ ?_
          refine stab_val _ ?_
          refine stab_val _ ?_
          refine stab_val _ ?_
          refine stab_val _ ?_
          refine stab_val _ ?_
          refine stab_val _ ?_
          refine stab_val _ ?_
          exact trivial
        · intro w' hC
          simp only [List.reverse_cons, List.reverse_nil, List.nil_append, List.cons_append]
          iterate 11 (refine all_val ?_)
          refine all_some ?_
          intro v11 u11
          iterate 1 (refine all_val ?_)
          refine all_some ?_
          intro v13 u13
          refine all_nil ?_
          simp only [putAll, Act.put, List.setIfInBounds_toArray, List.set_cons_succ, List.set_cons_zero]
          have H5 : Hid (One w w' #[.string row, .string col, .int .u64 y1, .int .u64 y2, .bool false, .string ⟨#[]⟩]) := Lib.hid ⟨hC.done u11 u13, hC.f⟩
          clear hC u11 u13
          obtain ⟨⟨a0, a1, a2, a3, a4, a5⟩, ⟨g0, g1, g2, g3, g4, g5⟩⟩ := H5.out.cell
          go_wp2_with (fail)
          clear a0 a1 a2 a3 a4 a5 g0 g1 g2 g3 g4 g5
          (with_reducible refine (K1.out _ (HM.out.fp H5.out.f (by simp))).mono ?_)
          rintro e w6 ⟨rfl, hf⟩
          have H6 := Lib.hid (H5.out.fp hf)
          clear hf
          obtain ⟨⟨a0, a1, a2, a3, a4, a5⟩, ⟨g0, g1, g2, g3, g4, g5⟩⟩ := H6.out.cell
          go_wp2_with (fail)
          rw [HO.out]
          refine bodyPost_ret (v := .tuple #[cellV zeroC, .int .i64 1]) (by simp [results, Tryz.results81, cellV, zeroC, go_sem, *]) rfl ⟨rfl, ?_⟩
          repeat (first | (with_reducible refine Fp.drew' ?_) | (with_reducible refine Fp.setCell' ?_ (Or.inr (Nat.le_refl _)) _) | (with_reducible exact H6.out.f))
end

section
open Go.Lib

theorem take_ok (s : ByteArray) (n : Nat) (h : n ≤ s.size) : (⟨s, 0⟩ : Rd).take n = (s.extract 0 n, ⟨s.extract n s.size, 0⟩) := by
  unfold Rd.take
  rw [if_pos rfl, if_pos h]
theorem take_lack (s : ByteArray) (n : Nat) (h : s.size < n) : ((⟨s, 0⟩ : Rd).take n).2 = ⟨s, 10⟩ := by
  unfold Rd.take
  rw [if_pos rfl, if_neg (by simp; omega)]
theorem atB_extract (s : ByteArray) (a b j : Nat) (h : a + j < b) (_hb : b ≤ s.size) : atB (s.extract a b) j = atB s (a + j) := by
  unfold atB
  rw [extract_data, List.getD_eq_getElem?_getD, List.getD_eq_getElem?_getD, List.getElem?_take, if_pos (by omega), List.getElem?_drop]
theorem extract_extract' (s : ByteArray) (a b c d : Nat) (_hb : b ≤ s.size) (hd : a + d ≤ b) : (s.extract a b).extract c d = s.extract (a + c) (a + d) := by
  rw [← mk_data ((s.extract a b).extract c d), ← mk_data (s.extract (a + c) (a + d))]
  congr 2
  rw [extract_data, extract_data, extract_data, List.drop_take, List.drop_drop, List.take_take]
  congr 1
  omega

theorem text_short (s : ByteArray) : ((shortR s).2.2 = true ∧ (⟨s, 0⟩ : Rd).text = ((shortR s).1, ⟨(shortR s).2.1, 0⟩)) ∨ ((shortR s).2.2 = false ∧ (⟨s, 0⟩ : Rd).text.2.e = 10) := by
  unfold shortR
  by_cases h : s.size = 0 ∨ s.size < 1 + (atB s 0).toNat
  · right
    rw [if_pos h]
    refine ⟨rfl, ?_⟩
    unfold Rd.text
    by_cases h0 : s.size = 0
    · rw [take_lack s 1 (by omega), take_err _ _ (by show (10 : Int) ≠ 0; decide)]
    · have h1 : s.size < 1 + (atB s 0).toNat := h.resolve_left h0
      rw [take_ok s 1 (by omega)]
      rw [atB_extract s 0 1 0 (by omega) (by omega), Nat.add_zero, take_lack _ _ (by simp; omega)]
  · left
    rw [if_neg h]
    refine ⟨rfl, ?_⟩
    have h0 : 1 + (atB s 0).toNat ≤ s.size := by omega
    unfold Rd.text
    rw [take_ok s 1 (by omega)]
    rw [atB_extract s 0 1 0 (by omega) (by omega), Nat.add_zero, take_ok _ _ (by simp; omega)]
    rw [extract_extract' _ _ _ _ _ (Nat.le_refl _) (by omega)]
    congr 2
    rw [extract_extract' _ _ _ _ _ (Nat.le_refl _) (by simp; omega)]
    simp
    congr 1
    omega

theorem number_ok (s : ByteArray) (h : 8 ≤ s.size) : (⟨s, 0⟩ : Rd).number = (valV s false 8, ⟨s.extract 8 s.size, 0⟩) := by
  unfold Rd.number
  rw [take_ok s 8 h]
  congr 1
  show _ = loV s 8
  rw [loV_leN]
  refine leN_congr 8 fun j hj => ?_
  rw [atB_extract s 0 8 j (by omega) h, Nat.zero_add]
theorem number_lack (s : ByteArray) (h : s.size < 8) : (⟨s, 0⟩ : Rd).number.2.e = 10 := by
  unfold Rd.number
  rw [take_lack s 8 h]
theorem flag_lack (s : ByteArray) (h : s.size < 1) : (⟨s, 0⟩ : Rd).flag.2.e = 10 := by
  unfold Rd.flag
  show (if _ then _ else _ : Rd).e = 10
  rw [take_lack s 1 h, if_neg (fun h => absurd h.1 (by show ¬ (10 : Int) = 0; decide))]
theorem flag_ok (s : ByteArray) (h : 1 ≤ s.size) : (⟨s, 0⟩ : Rd).flag = (atB s 0 == 1, if 1 < (atB s 0).toNat then ⟨s.extract 1 s.size, 1⟩ else ⟨s.extract 1 s.size, 0⟩) := by
  unfold Rd.flag
  rw [take_ok s 1 h]
  rw [atB_extract s 0 1 0 (by omega) h, Nat.add_zero]
  congr 1
  by_cases e : 1 < (atB s 0).toNat
  · rw [if_pos ⟨rfl, e⟩, if_pos e]
  · rw [if_neg (fun h => e h.2), if_neg e]

theorem decO_bad {c : Cel} {r : Rd} (k : Int) (hk : k ≠ 0) (h : r.e = k) : decO c r = (zeroC, ⟨#[]⟩, k) := by
  unfold decO
  rw [if_neg (by rw [h]; exact hk), h]

theorem dec_ref (s : ByteArray) : decR s = decP s := by
  have ten : ∀ {r : Rd}, r.e = 10 → r.e ≠ 0 := fun h => by rw [h]; decide
  unfold decR decP
  rcases text_short s with ⟨h1, t1⟩ | ⟨h1, e1⟩
  case inr =>
    rw [if_neg (by rw [h1]; decide), text_err _ (ten e1), number_err _ (ten e1), number_err _ (ten e1), flag_err _ (ten e1), text_err _ (ten e1)]
    exact (decO_bad 10 (by decide) e1).symm
  rw [if_pos h1, t1]
  unfold decR2
  generalize (shortR s).1 = row
  generalize (shortR s).2.1 = s1
  simp only
  rcases text_short s1 with ⟨h2, t2⟩ | ⟨h2, e1⟩
  case inr =>
    rw [if_neg (by rw [h2]; simp), number_err _ (ten e1), number_err _ (ten e1), flag_err _ (ten e1), text_err _ (ten e1)]
    exact (decO_bad 10 (by decide) e1).symm
  rw [t2]
  generalize (shortR s1).1 = col
  generalize (shortR s1).2.1 = s2
  simp only
  by_cases h8 : s2.size < 8
  · have e1 := number_lack s2 h8
    rw [if_neg (by omega), number_err _ (ten e1), flag_err _ (ten e1), text_err _ (ten e1)]
    exact (decO_bad 10 (by decide) e1).symm
  rw [number_ok s2 (by omega)]
  simp only
  by_cases h16 : s2.size < 16
  · have e1 := number_lack (s2.extract 8 s2.size) (by simp; omega)
    rw [if_neg (by omega), flag_err _ (ten e1), text_err _ (ten e1)]
    exact (decO_bad 10 (by decide) e1).symm
  rw [number_ok (s2.extract 8 s2.size) (by simp; omega)]
  simp only
  rw [extract_extract' _ _ _ _ _ (Nat.le_refl _) (by simp; omega), show (s2.extract 8 s2.size).size = s2.size - 8 by simp, show 8 + (s2.size - 8) = s2.size by omega]
  show _ = decO ⟨row, col, _, _, (⟨s2.extract 16 s2.size, 0⟩ : Rd).flag.1, (⟨s2.extract 16 s2.size, 0⟩ : Rd).flag.2.text.1⟩ (⟨s2.extract 16 s2.size, 0⟩ : Rd).flag.2.text.2
  by_cases h17 : s2.size < 17
  · have e1 := flag_lack (s2.extract 16 s2.size) (by simp; omega)
    rw [if_neg (by omega), text_err _ (ten e1)]
    exact (decO_bad 10 (by decide) e1).symm
  rw [if_pos ⟨h2, by omega⟩, flag_ok _ (by simp; omega), atB_extract _ _ _ _ (by omega) (Nat.le_refl _)]
  unfold decR3
  simp only [Nat.add_zero]
  by_cases hb : 1 < (atB s2 16).toNat
  · rw [if_pos hb, if_pos hb, text_err _ (by show (1 : Int) ≠ 0; decide)]
    exact (decO_bad 1 (by decide) rfl).symm
  rw [if_neg hb, if_neg hb, extract_extract' _ _ _ _ _ (Nat.le_refl _) (by simp; omega), show (s2.extract 16 s2.size).size = s2.size - 16 by simp, show 16 + (s2.size - 16) = s2.size by omega]
  show _ = decO ⟨row, col, _, _, _, (⟨s2.extract 17 s2.size, 0⟩ : Rd).text.1⟩ (⟨s2.extract 17 s2.size, 0⟩ : Rd).text.2
  rcases text_short (s2.extract 17 s2.size) with ⟨h3, t3⟩ | ⟨h3, e1⟩
  case inr =>
    rw [if_neg (by rw [h3]; decide)]
    exact (decO_bad 10 (by decide) e1).symm
  rw [if_pos h3, t3]
  unfold decO
  rw [if_pos rfl]
end

section
open Go.Lib

theorem bl_nil : bl [] = ⟨#[]⟩ := rfl
theorem may_coord {c : Cel} (h : mayB c = true) : mayB (coordC c.row c.col c.ts c.seq) = true := by
  obtain ⟨h1, h2, _, _⟩ := mayB_true h
  unfold mayB coordC nmB
  simp only [Bool.and_eq_true, decide_eq_true_eq, Bool.or_eq_true, Bool.not_false]
  exact ⟨⟨⟨h1, h2⟩, Nat.zero_le _⟩, Or.inl trivial⟩
theorem keyB_coord {c : Cel} (h : mayB c = true) : keyB (coordC c.row c.col c.ts c.seq) = bl (keyL c) := by
  unfold keyB
  rw [if_pos (may_coord h)]
  rfl
theorem be8_length (n : Nat) : (be8 n).length = 8 := by unfold be8; rw [List.length_reverse, le8_length]
theorem rev_be8 (n : Nat) : revB (bl (be8 n)) = bl (le8 n) := by
  unfold revB
  rw [bl_toList]
  unfold be8
  rw [List.reverse_reverse]
  rfl
theorem leN_le8_all (n : Nat) (h : n < 18446744073709551616) : leN (bl (le8 n)) 8 = n := by
  have h2 := leN_le8 n [] 8 (Nat.le_refl _)
  rw [List.append_nil] at h2
  rw [h2, Nat.mod_eq_of_lt (by have : (256 : Nat) ^ 8 = 18446744073709551616 := by decide
                               omega)]

theorem endK_coord (row col : ByteArray) (ts seq : Nat) (h : mayB (coordC row col ts seq) = true) : endK (bl (keyL (coordC row col ts seq))) (coordC row col ts seq) = (coordC row col ts seq, 0) := by
  unfold endK
  rw [if_pos]
  unfold keyB
  rw [if_pos h]
  rfl

theorem fkP_key (row col : ByteArray) (ts seq : Nat) (ht : ts ≤ M64) (hq : seq ≤ M64) (h : mayB (coordC row col ts seq) = true) : fkP (bl (keyL (coordC row col ts seq))) = (coordC row col ts seq, 0) := by
  have k1 : cutP (bl (keyL (coordC row col ts seq))) = (esc row.data.toList, esc col.data.toList ++ 0 :: 1 :: (be8 (M64 - ts) ++ be8 (M64 - seq)), true) := by
    unfold cutP
    rw [bl_toList]
    exact cut_esc _ _
  have k2 : cutP (bl (esc col.data.toList ++ 0 :: 1 :: (be8 (M64 - ts) ++ be8 (M64 - seq)))) = (esc col.data.toList, be8 (M64 - ts) ++ be8 (M64 - seq), true) := by
    unfold cutP
    rw [bl_toList]
    exact cut_esc _ _
  have u1 : ∀ r : ByteArray, unP (esc r.data.toList) = r := fun r => by unfold unP; rw [repl_unesc, bl_data]
  unfold fkP fkP1
  rw [k1]
  simp only [if_true]
  unfold fkP2
  rw [k2]
  simp only [if_true]
  unfold fkP3
  rw [u1, u1]
  have z : (bl (be8 (M64 - ts) ++ be8 (M64 - seq))).size = 16 := by rw [bl_size, List.length_append, be8_length, be8_length]
  rw [if_pos z, bl_extract, bl_extract, z]
  have e1 : ((be8 (M64 - ts) ++ be8 (M64 - seq)).drop 0).take (8 - 0) = be8 (M64 - ts) := by
    rw [List.drop_zero, List.take_append_of_le_length (by rw [be8_length]; omega), List.take_of_length_le (by rw [be8_length]; omega)]
  have e2 : ((be8 (M64 - ts) ++ be8 (M64 - seq)).drop 8).take (16 - 8) = be8 (M64 - seq) := by
    rw [List.drop_append, List.drop_eq_nil_of_le (by rw [be8_length]; omega), be8_length, List.nil_append, List.drop_zero, List.take_of_length_le (by rw [be8_length]; omega)]
  rw [e1, e2, rev_be8, rev_be8, leN_le8_all _ (by unfold M64; omega), leN_le8_all _ (by unfold M64; omega)]
  rw [show M64 - (M64 - ts) = ts by omega, show M64 - (M64 - seq) = seq by omega]
  exact endK_coord row col ts seq h

theorem partL_esc (r X : List UInt8) : ∀ acc i, partL (esc r ++ 0 :: 1 :: X) acc i = (acc ++ r, i + (esc r).length + 2) := by
  induction r with
  | nil => intro acc i; show partL (0 :: 1 :: X) acc i = _; rw [partL_zero, if_pos rfl]; simp [esc]
  | cons b r ih =>
    intro acc i
    by_cases h : b = 0
    · subst h
      rw [esc_zero]
      show partL (0 :: 255 :: (esc r ++ _)) acc i = _
      rw [partL_zero, if_neg (by decide), if_pos rfl, ih]
      simp only [List.append_assoc, List.cons_append, List.nil_append, List.length_cons, Prod.mk.injEq, true_and]
      omega
    · rw [esc_one h]
      show partL (b :: (esc r ++ _)) acc i = _
      rw [partL_step h, ih]
      simp only [List.append_assoc, List.cons_append, List.nil_append, List.length_cons, Prod.mk.injEq, true_and]
      omega
theorem be8_at (n j : Nat) (h : j < 8) : (be8 n).getD j 0 = byteN n (7 - j) := by
  unfold be8 le8
  rw [List.getD_eq_getElem?_getD, List.getElem?_reverse (by simpa using h)]
  simp only [List.length_map, List.length_range]
  rw [List.getElem?_map, List.getElem?_range (by omega)]
  simp only [Option.map_some, Option.getD_some]
theorem hiV_be8 (n : Nat) (h : n < 18446744073709551616) (y : List UInt8) : hiV (bl (be8 n ++ y)) 8 = n := by
  have ha : ∀ j, j < 8 → atB (bl (be8 n ++ y)) j = atB (bl (le8 n)) (7 - j) := by
    intro j hj
    rw [bl_at, bl_at, List.getD_eq_getElem?_getD, List.getElem?_append_left (by rw [be8_length]; exact hj), ← List.getD_eq_getElem?_getD, be8_at n j hj]
    unfold le8
    rw [List.getD_eq_getElem?_getD, List.getElem?_map, List.getElem?_range (by omega)]
    rfl
  have e := leN_le8_all n h
  conv => rhs; rw [← e]
  simp only [hiV, leN]
  rw [ha 0 (by decide), ha 1 (by decide), ha 2 (by decide), ha 3 (by decide), ha 4 (by decide), ha 5 (by decide), ha 6 (by decide), ha 7 (by decide)]
  simp only [Nat.sub_zero, Nat.reduceSub]
  omega

theorem bl_drop (l : List UInt8) (a : Nat) : (bl l).extract a (bl l).size = bl (l.drop a) := by
  rw [bl_extract, bl_size, List.take_of_length_le (by rw [List.length_drop]; exact Nat.le_refl _)]

theorem fkR_key (row col : ByteArray) (ts seq : Nat) (ht : ts ≤ M64) (hq : seq ≤ M64) (h : mayB (coordC row col ts seq) = true) : fkR (bl (keyL (coordC row col ts seq))) = (coordC row col ts seq, 0) := by
  have hk : keyL (coordC row col ts seq) = esc row.data.toList ++ 0 :: 1 :: (esc col.data.toList ++ 0 :: 1 :: (be8 (M64 - ts) ++ be8 (M64 - seq))) := rfl
  have k1 : partL (bl (keyL (coordC row col ts seq))).data.toList [] 0 = (row.data.toList, (esc row.data.toList).length + 2) := by
    rw [bl_toList, hk, partL_esc]; simp
  have d1 : (keyL (coordC row col ts seq)).drop ((esc row.data.toList).length + 2) = esc col.data.toList ++ 0 :: 1 :: (be8 (M64 - ts) ++ be8 (M64 - seq)) := by
    rw [hk, List.drop_append, List.drop_eq_nil_of_le (by omega), List.nil_append, show (esc row.data.toList).length + 2 - (esc row.data.toList).length = 2 by omega]
    rfl
  have d2 : (keyL (coordC row col ts seq)).drop ((esc row.data.toList).length + 2 + ((esc col.data.toList).length + 2)) = be8 (M64 - ts) ++ be8 (M64 - seq) := by
    rw [← List.drop_drop, d1, List.drop_append, List.drop_eq_nil_of_le (by omega), List.nil_append, show (esc col.data.toList).length + 2 - (esc col.data.toList).length = 2 by omega]
    rfl
  have d3 : (keyL (coordC row col ts seq)).drop ((esc row.data.toList).length + 2 + ((esc col.data.toList).length + 2) + 8) = be8 (M64 - seq) := by
    rw [← List.drop_drop, d2, List.drop_append, List.drop_eq_nil_of_le (by rw [be8_length]; omega), List.nil_append, be8_length]
    rfl
  have z : (bl (keyL (coordC row col ts seq))).size = (esc row.data.toList).length + 2 + ((esc col.data.toList).length + 2) + 16 := by
    rw [bl_size, hk]
    simp only [List.length_append, List.length_cons, be8_length]
    omega
  unfold fkR
  rw [k1]
  unfold fkR1
  rw [if_neg (by simp only; omega)]
  simp only
  rw [bl_drop, d1, bl_toList, partL_esc]
  unfold fkR2
  simp only [List.nil_append, Nat.zero_add]
  rw [if_neg (by rw [z]; omega), bl_drop, bl_drop, d2, d3, bl_data, bl_data]
  have v1 : valV (bl (be8 (M64 - ts) ++ be8 (M64 - seq))) true 8 = M64 - ts := hiV_be8 _ (by unfold M64; omega) _
  have v2 : valV (bl (be8 (M64 - seq))) true 8 = M64 - seq := by
    have := hiV_be8 (M64 - seq) (by unfold M64; omega) []
    rw [List.append_nil] at this
    exact this
  rw [v1, v2, show M64 - (M64 - ts) = ts by omega, show M64 - (M64 - seq) = seq by omega]
  exact endK_coord row col ts seq h

/-- what either answers: none, or a cell whose key it is -/
def Told (s : ByteArray) (x : Cel × Int) : Prop := x = (zeroC, 1) ∨ ∃ row col ts seq, ts ≤ M64 ∧ seq ≤ M64 ∧ x = (coordC row col ts seq, 0) ∧ keyB (coordC row col ts seq) = s
theorem endK_told (s row col : ByteArray) (a b : Nat) : Told s (endK s (coordC row col (M64 - a) (M64 - b))) := by
  unfold endK
  split
  · rename_i h
    exact Or.inr ⟨row, col, M64 - a, M64 - b, Nat.sub_le _ _, Nat.sub_le _ _, rfl, h⟩
  · exact Or.inl rfl
theorem fkP_told (s : ByteArray) : Told s (fkP s) := by
  unfold fkP fkP1 fkP2 fkP3
  split
  · split
    · split
      · exact endK_told _ _ _ _ _
      · exact Or.inl rfl
    · exact Or.inl rfl
  · exact Or.inl rfl
theorem fkR_told (s : ByteArray) : Told s (fkR s) := by
  unfold fkR fkR1 fkR2
  split
  · exact Or.inl rfl
  · split
    · exact Or.inl rfl
    · exact endK_told _ _ _ _ _
theorem fkP_empty : fkP ⟨#[]⟩ = (zeroC, 1) := by
  unfold fkP fkP1
  rw [if_neg (by decide)]
theorem fkR_empty : fkR ⟨#[]⟩ = (zeroC, 1) := by
  unfold fkR fkR1
  rw [if_pos (by decide)]

theorem fk_same (s : ByteArray) : fkP s = fkR s := by
  rcases fkP_told s with h1 | ⟨row, col, ts, seq, ht, hq, h1, hk⟩
  · rcases fkR_told s with h2 | ⟨row, col, ts, seq, ht, hq, h2, hk⟩
    · rw [h1, h2]
    · cases hm : mayB (coordC row col ts seq) with
      | false =>
        have : s = ⟨#[]⟩ := by rw [← hk]; unfold keyB; rw [hm]; rfl
        rw [this, fkP_empty, fkR_empty]
      | true =>
        have : s = bl (keyL (coordC row col ts seq)) := by rw [← hk]; unfold keyB; rw [hm]; rfl
        rw [this, fkP_key row col ts seq ht hq hm, fkR_key row col ts seq ht hq hm]
  · cases hm : mayB (coordC row col ts seq) with
    | false =>
      have : s = ⟨#[]⟩ := by rw [← hk]; unfold keyB; rw [hm]; rfl
      rw [this, fkP_empty, fkR_empty]
    | true =>
      have : s = bl (keyL (coordC row col ts seq)) := by rw [← hk]; unfold keyB; rw [hm]; rfl
      rw [this, fkP_key row col ts seq ht hq hm, fkR_key row col ts seq ht hq hm]
end
end Go.Proofs.YtjnapcfclejknaaGreatDoor
