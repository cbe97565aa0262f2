/-
 FromKey. The reference decodes as the program does. Keys come back; the reference's FromKey is the program's.
-/
import Derived.Test.YtkjmgbifoaoefaaGreatDoorQBuild
import Derived.Test.YtkjmgbifoaoefaaGreatDoorQBytes
set_option maxRecDepth 100000
set_option maxHeartbeats 8000000
namespace Go.Proofs.YtkjmgbifoaoefaaGreatDoor
section
open Go.RowKit
def cutP (s : ByteArray) : List UInt8 × List UInt8 × Bool := Lib.cut s.data.toList [0, 1]
def unP (l : List UInt8) : ByteArray := bl (Lib.replaceAll l [0, 255] [0])
theorem cutP_le (s : ByteArray) : (cutP s).1.length ≤ s.size ∧ (cutP s).2.1.length ≤ s.size := by
 unfold cutP Lib.cut
 rw [Lib.size_eq]
 split
 ·exact ⟨by simp only [List.length_take]; omega, by simp only [List.length_drop]; omega⟩
 ·exact ⟨Nat.le_refl _, Nat.zero_le _⟩
theorem unP_le (l : List UInt8) : (unP l).size ≤ l.length := by
 unfold unP; rw [bl_size]; exact repl_length _ _ _ (by decide)
theorem cut_any (s : ByteArray) (w : World) (hm : MaxAt w) (hs : s.size ≤ 100000) :
  Calls Tryz.prog 152 #[.string s, .string ⟨#[0, 1]⟩] w fun e w' => e = .returned (.tuple #[.string (bl (cutP s).1), .string (bl (cutP s).2.1), .bool (cutP s).2.2]) ∧ Fp [] w w' := by
 obtain ⟨m, hm⟩ := hm
 refine (Tryz.strings_Cut s ⟨#[0, 1]⟩ m w (by omega) hm).mono ?_
 rintro e w' ⟨rfl, n, rfl⟩
 exact ⟨rfl, Fp.drewN _ _⟩
theorem unesc_any (l : List UInt8) (w : World) (hm : MaxAt w) (hs : l.length ≤ 100000) :
  Calls Tryz.prog 153 #[.string (bl l), .string ⟨#[0, 255]⟩, .string ⟨#[0]⟩] w fun e w' => e = .returned (.string (unP l)) ∧ Fp [] w w' := by
 obtain ⟨m, hm⟩ := hm
 have hz : (bl l).size ≤ 100000 := by rw [bl_size]; exact hs
 have hcb : Lib.countB (bl l) ⟨#[0, 255]⟩ ≤ (bl l).size := Lib.countB_le ⟨#[0, 255]⟩ (by decide) _ _ (Nat.le_refl _)
 have h2 : (⟨#[0]⟩ : ByteArray).size = 1 := rfl
 refine (Tryz.strings_ReplaceAll (bl l) ⟨#[0, 255]⟩ ⟨#[0]⟩ m w (by omega) hm (by decide) (by rw [h2]; omega)).mono ?_
 rintro e w' ⟨rfl, hb⟩
 refine ⟨?_, Below.toFp hb⟩
 rw [bl_toList]
 rfl
theorem index_ptr0 (a b : Option Addr) (w : World) : (Instr.index 219 (.agg #[.pointer a, .pointer b]) (.int .i64 0)).run Tryz.prog w = .ok (.pointer a) w := by
 simp [Instr.index, run_underlying Tryz.underlying219, asIntOf, go_sem]
theorem index_ptr1 (a b : Option Addr) (w : World) : (Instr.index 219 (.agg #[.pointer a, .pointer b]) (.int .i64 1)).run Tryz.prog w = .ok (.pointer b) w := by
 simp [Instr.index, run_underlying Tryz.underlying219, asIntOf, go_sem]
theorem key_all (c : Cel) (w : World) (hc : CelOK c) (hm : MaxAt w) : Calls Tryz.prog 156 #[cellV c] w fun e w' => e = .returned (.string (keyB c)) ∧ Fp [] w w' := by
 unfold keyB
 cases h : mayB c
 ·exact key_no c w hc h
 ·exact key_yes c w hc h hm
def revB (s : ByteArray) : ByteArray := ⟨s.data.toList.reverse.toArray⟩
def fkP3 (s row col s2 : ByteArray) : Cel × Int :=
 if s2.size = 16 then endK s (coordC row col (M64 - leN (revB (s2.extract 0 8)) 8) (M64 - leN (revB (s2.extract 8 s2.size)) 8)) else (zeroC, 1)
def fkP2 (s row : ByteArray) (Q : List UInt8 × List UInt8 × Bool) : Cel × Int := if Q.2.2 = true then fkP3 s row (unP Q.1) (bl Q.2.1) else (zeroC, 1)
def fkP1 (s : ByteArray) (P : List UInt8 × List UInt8 × Bool) : Cel × Int := if P.2.2 = true then fkP2 s (unP P.1) (cutP (bl P.2.1)) else (zeroC, 1)
def fkP (s : ByteArray) : Cel × Int := fkP1 s (cutP s)
structure KC (A : Nat) (w : World) (row col : ByteArray) (w' : World) : Prop where
 f : Fp [] w w'
 blk : ∃ x2 x3, w'.heap[A]? = some (.cells #[.string row, .string col, x2, x3, .bool false, .string ⟨#[]⟩] 24 (0, 0))
def KR (A z1 z2 : Nat) (w w' : World) : Prop :=
 (w.cell? ⟨A, 2, none⟩ = some (.int .u64 z1) → w'.cell? ⟨A, 2, none⟩ = some (.int .u64 z1)) ∧ (w.cell? ⟨A, 3, none⟩ = some (.int .u64 z2) → w'.cell? ⟨A, 3, none⟩ = some (.int .u64 z2))
theorem KR.refl (A z1 z2 : Nat) (w : World) : KR A z1 z2 w w := ⟨id, id⟩
theorem KC.fp {A : Nat} {w : World} {row col : ByteArray} {a b : World} (h : KC A w row col a) (hf : Fp [] a b) : KC A w row col b := by
 obtain ⟨x2, x3, hb⟩ := h.blk
 exact ⟨h.f.trans hf (by simp), x2, x3, (hf.block A (heap_lt hb) (by simp)).trans hb⟩
theorem KC.kr {A z1 z2 : Nat} {w : World} {row col : ByteArray} {a b : World} (h : KC A w row col a) (hf : Fp [] a b) : KR A z1 z2 a b := by
 obtain ⟨x2, x3, hb⟩ := h.blk
 exact ⟨fun h2 => (hf.cell (heap_lt hb) (by simp)).trans h2, fun h2 => (hf.cell (heap_lt hb) (by simp)).trans h2⟩
theorem KC.set2 {A z1 z2 : Nat} {w : World} {row col : ByteArray} {a : World} (h : KC A w row col a) (hA : w.heap.size ≤ A) :
  KC A w row col (a.setCell ⟨A, 2, none⟩ (.int .u64 z1)) ∧ KR A z1 z2 a (a.setCell ⟨A, 2, none⟩ (.int .u64 z1)) ∧ (a.setCell ⟨A, 2, none⟩ (.int .u64 z1)).cell? ⟨A, 2, none⟩ = some (.int .u64 z1) := by
 obtain ⟨x2, x3, hb⟩ := h.blk
 have c2 := cell_of_block hb 2
 have e2 : (a.setCell ⟨A, 2, none⟩ (.int .u64 z1)).cell? ⟨A, 2, none⟩ = some (.int .u64 z1) := World.cell?_setCell_same _ _ _ c2
 refine ⟨⟨h.f.setCell' (Or.inr hA) _, _, _, heap_setCell_same hb _⟩, ⟨fun _ => e2, fun h3 => ?_⟩, e2⟩
 rw [World.cell?_setCell_other _ _ _ _ (fun e => absurd (congrArg Addr.off e) (by show ¬ (2 : Nat) = 3; decide))]
 exact h3
theorem KC.set3 {A z1 z2 : Nat} {w : World} {row col : ByteArray} {a : World} (h : KC A w row col a) (hA : w.heap.size ≤ A) :
  KC A w row col (a.setCell ⟨A, 3, none⟩ (.int .u64 z2)) ∧ KR A z1 z2 a (a.setCell ⟨A, 3, none⟩ (.int .u64 z2)) ∧ (a.setCell ⟨A, 3, none⟩ (.int .u64 z2)).cell? ⟨A, 3, none⟩ = some (.int .u64 z2) := by
 obtain ⟨x2, x3, hb⟩ := h.blk
 have c3 := cell_of_block hb 3
 have e3 : (a.setCell ⟨A, 3, none⟩ (.int .u64 z2)).cell? ⟨A, 3, none⟩ = some (.int .u64 z2) := World.cell?_setCell_same _ _ _ c3
 refine ⟨⟨h.f.setCell' (Or.inr hA) _, _, _, heap_setCell_same hb _⟩, ⟨fun h2 => ?_, fun _ => e3⟩, e3⟩
 rw [World.cell?_setCell_other _ _ _ _ (fun e => absurd (congrArg Addr.off e) (by show ¬ (3 : Nat) = 2; decide))]
 exact h2
theorem KC.done {A z1 z2 : Nat} {w : World} {row col : ByteArray} {a : World} (h : KC A w row col a) (h2 : a.cell? ⟨A, 2, none⟩ = some (.int .u64 z1)) (h3 : a.cell? ⟨A, 3, none⟩ = some (.int .u64 z2)) :
  a.heap[A]? = some (.cells #[.string row, .string col, .int .u64 z1, .int .u64 z2, .bool false, .string ⟨#[]⟩] 24 (0, 0)) := by
 obtain ⟨x2, x3, hb⟩ := h.blk
 have c2 := (cell_of_block hb 2).symm.trans h2
 have c3 := (cell_of_block hb 3).symm.trans h3
 simp only [List.getElem?_toArray, List.getElem?_cons_succ, List.getElem?_cons_zero, Option.some.injEq] at c2 c3
 rw [hb, c2, c3]
structure One (w W : World) (l : Array Value) : Prop where
 a : W.heap[w.heap.size]? = some (.cells l 24 (0, 0))
 f : Fp [] w W
theorem One.fp {w W W' : World} {l : Array Value} (h : One w W l) (hf : Fp [] W W') : One w W' l := ⟨(hf.block _ (heap_lt h.a) (by simp)).trans h.a, h.f.trans hf (by simp)⟩
theorem One.set {w W : World} {l : Array Value} (h : One w W l) (o : Nat) (v : Value) : One w (W.setCell ⟨w.heap.size, o, none⟩ v) (l.setIfInBounds o v) := ⟨heap_setCell_same h.a v, h.f.setCell' (Or.inr (Nat.le_refl _)) _⟩
theorem One.cell {w W : World} {v0 v1 v2 v3 v4 v5 : Value} (h : One w W #[v0, v1, v2, v3, v4, v5]) : (W.cell? ⟨w.heap.size, 0, none⟩ = some v0 ∧ W.cell? ⟨w.heap.size, 1, none⟩ = some v1 ∧ W.cell? ⟨w.heap.size, 2, none⟩ = some v2 ∧ W.cell? ⟨w.heap.size, 3, none⟩ = some v3 ∧ W.cell? ⟨w.heap.size, 4, none⟩ = some v4 ∧ W.cell? ⟨w.heap.size, 5, none⟩ = some v5) ∧
  (W.frozen? ⟨w.heap.size, 0, none⟩ = false ∧ W.frozen? ⟨w.heap.size, 1, none⟩ = false ∧ W.frozen? ⟨w.heap.size, 2, none⟩ = false ∧ W.frozen? ⟨w.heap.size, 3, none⟩ = false ∧ W.frozen? ⟨w.heap.size, 4, none⟩ = false ∧ W.frozen? ⟨w.heap.size, 5, none⟩ = false) :=
 ⟨⟨cell_of_block h.a 0, cell_of_block h.a 1, cell_of_block h.a 2, cell_of_block h.a 3, cell_of_block h.a 4, cell_of_block h.a 5⟩, ⟨frozen_of_block h.a 0, frozen_of_block h.a 1, frozen_of_block h.a 2, frozen_of_block h.a 3, frozen_of_block h.a 4, frozen_of_block h.a 5⟩⟩
def pick3 {α : Type} (a b c : α) : Nat → α | 0 => a | 1 => b | _ => c
theorem fromkey_any (s : ByteArray) (w : World) (hm : MaxAt w) (hs : s.size ≤ 100000) :
  Calls Tryz.prog 86 #[.string s] w fun e w' => e = .returned (.tuple #[cellV (fkP s).1, .int .i64 (fkP s).2]) ∧ Fp [] w w' := by
 have HM := Lib.hid hm
 have HT0 : Hid (One w (w.alloc (.cells #[.string ⟨#[]⟩, .string ⟨#[]⟩, .int .u64 0, .int .u64 0, .bool false, .string ⟨#[]⟩] 24)) #[.string ⟨#[]⟩, .string ⟨#[]⟩, .int .u64 0, .int .u64 0, .bool false, .string ⟨#[]⟩]) := Lib.hid ⟨heap_alloc_at rfl _, Fp.alloc _ _⟩
 have t1 := fun w hm => cut_any s w hm hs
 have HD : Hid (fkP s = fkP1 s (cutP s)) := rfl
 have y1 := cutP_le s
 obtain ⟨⟨l1, m1, b1⟩, q1⟩ : ∃ q, cutP s = q := ⟨_, rfl⟩
 rw [q1] at t1 HD y1
 simp only at t1 y1
 have u1 := fun w hm => unesc_any l1 w hm (by omega)
 have e1 := unP_le l1
 obtain ⟨row, hrow⟩ : ∃ x, unP l1 = x := ⟨_, rfl⟩
 obtain ⟨p1, hp1⟩ : ∃ x, bl l1 = x := ⟨_, rfl⟩
 obtain ⟨s1, hs1⟩ : ∃ x, bl m1 = x := ⟨_, rfl⟩
 have z1 : s1.size ≤ 100000 := by rw [← hs1, bl_size]; omega
 rw [hrow] at u1 e1
 rw [hp1] at u1 t1
 rw [hs1] at t1
 have HROW := Lib.hid hrow
 have HS1 := Lib.hid hs1
 have hrz : row.size ≤ 100000 := by omega
 clear hm q1 hrow hp1 hs1 e1 y1
 cases b1
 ·have HO : Hid (fkP s = (zeroC, 1)) := HD.out
  have T1 := Lib.hid t1
  clear t1 u1
  go_enter Tryz.func86, Tryz.ntmps86
  go_wp2_with (fail)
  go_loopg [0, 14] 0 (fun g vs vi wr => g = 0 ∧ vi = .int .i64 0 ∧ vs = .string s ∧ One w wr #[.string ⟨#[]⟩, .string ⟨#[]⟩, .int .u64 0, .int .u64 0, .bool false, .string ⟨#[]⟩])
  case atStart => exact ⟨rfl, rfl, rfl, HT0.out⟩
  case round =>
   obtain ⟨rfl, rfl, rfl, hr⟩ := hrel
   have HR := Lib.hid hr
   clear hr
   have hx := fun W' => index_ptr0 (some ⟨w.heap.size, 0, none⟩) (some ⟨w.heap.size, 1, none⟩) W'
   go_wp2_with (fail)
   (with_reducible refine (T1.out _ (HM.out.fp HR.out.f (by simp))).mono ?_)
   rintro e w11 ⟨rfl, hf⟩
   have H11 := Lib.hid (HR.out.fp hf)
   clear hf
   obtain ⟨⟨a0, a1, a2, a3, a4, a5⟩, ⟨g0, g1, g2, g3, g4, g5⟩⟩ := H11.out.cell
   go_wp2_with (fail)
   rw [HO.out]
   refine bodyPost_ret (v := .tuple #[cellV zeroC, .int .i64 1]) (by simp [results, Tryz.results86, cellV, zeroC, go_sem, *]) rfl ⟨rfl, ?_⟩
   repeat (first | (with_reducible refine Fp.drew' ?_) | (with_reducible refine Fp.setCell' ?_ (Or.inr (Nat.le_refl _)) _) | (with_reducible exact H11.out.f))
 have HD2 : Hid (fkP s = fkP2 s row (cutP s1)) := by unfold Hid; rw [HD.out, ← HROW.out, ← HS1.out]; exact if_pos rfl
 have t2 := fun w hm => cut_any s1 w hm z1
 have y2 := cutP_le s1
 obtain ⟨⟨l2, m2, b2⟩, q2⟩ : ∃ q, cutP s1 = q := ⟨_, rfl⟩
 rw [q2] at t2 HD2 y2
 simp only at t2 y2
 have u2 := fun w hm => unesc_any l2 w hm (by omega)
 have e2 := unP_le l2
 obtain ⟨col, hcol⟩ : ∃ x, unP l2 = x := ⟨_, rfl⟩
 obtain ⟨p2, hp2⟩ : ∃ x, bl l2 = x := ⟨_, rfl⟩
 obtain ⟨s2, hs2⟩ : ∃ x, bl m2 = x := ⟨_, rfl⟩
 have z2 : s2.size ≤ 100000 := by rw [← hs2, bl_size]; omega
 rw [hcol] at u2 e2
 rw [hp2] at u2 t2
 rw [hs2] at t2
 have HCOL := Lib.hid hcol
 have HS2 := Lib.hid hs2
 have hcz : col.size ≤ 100000 := by omega
 have T1 := Lib.hid t1
 have U1 := Lib.hid u1
 have T2 := Lib.hid t2
 have U2 := Lib.hid u2
 clear q2 hcol hp2 hs2 e2 y2 t1 u1 t2 u2
 cases b2
 ·have HO : Hid (fkP s = (zeroC, 1)) := HD2.out
  go_enter Tryz.func86, Tryz.ntmps86
  go_wp2_with (fail)
  go_loopg [0, 14] 1 (fun g vs vi wr => ∃ k : Nat, g + k = 1 ∧ vi = .int .i64 k ∧ vs = .string (pick3 s s1 s1 k) ∧ One w wr (pick3 #[.string ⟨#[]⟩, .string ⟨#[]⟩, .int .u64 0, .int .u64 0, .bool false, .string ⟨#[]⟩] #[.string row, .string ⟨#[]⟩, .int .u64 0, .int .u64 0, .bool false, .string ⟨#[]⟩] #[.string row, .string ⟨#[]⟩, .int .u64 0, .int .u64 0, .bool false, .string ⟨#[]⟩] k))
  case atStart => exact ⟨0, rfl, rfl, rfl, HT0.out⟩
  case round =>
   obtain ⟨k, hg, rfl, rfl, hr⟩ := hrel
   have HR0 := Lib.hid hr
   clear hr
   have h2 : k = 0 ∨ k = 1 := by omega
   rcases h2 with rfl | rfl
   ·have HR : Hid (One w wr #[.string ⟨#[]⟩, .string ⟨#[]⟩, .int .u64 0, .int .u64 0, .bool false, .string ⟨#[]⟩]) := HR0.out
    rw [show ((0 : Nat) : Int) = 0 from rfl]
    simp only [pick3]
    have hx := fun W' => index_ptr0 (some ⟨w.heap.size, 0, none⟩) (some ⟨w.heap.size, 1, none⟩) W'
    go_wp2_with (fail)
    (with_reducible refine (T1.out _ (HM.out.fp HR.out.f (by simp))).mono ?_)
    rintro e w11 ⟨rfl, hf⟩
    have H11 := Lib.hid (HR.out.fp hf)
    clear hf
    go_wp2_with (fail)
    (with_reducible refine (U1.out _ (HM.out.fp H11.out.f (by simp))).mono ?_)
    rintro e w12 ⟨rfl, hf⟩
    have H12 := Lib.hid (H11.out.fp hf)
    clear hf
    obtain ⟨⟨a0, a1, a2, a3, a4, a5⟩, ⟨g0, g1, g2, g3, g4, g5⟩⟩ := H12.out.cell
    go_wp2_with (fail)
    go_roundg (gk - 1)
    case measure => omega
    case rel => exact ⟨1, by omega, rfl, rfl, H12.out.set 0 (.string row)⟩
   ·have HR : Hid (One w wr #[.string row, .string ⟨#[]⟩, .int .u64 0, .int .u64 0, .bool false, .string ⟨#[]⟩]) := HR0.out
    rw [show ((1 : Nat) : Int) = 1 from rfl]
    simp only [pick3]
    have hx := fun W' => index_ptr1 (some ⟨w.heap.size, 0, none⟩) (some ⟨w.heap.size, 1, none⟩) W'
    go_wp2_with (fail)
    (with_reducible refine (T2.out _ (HM.out.fp HR.out.f (by simp))).mono ?_)
    rintro e w21 ⟨rfl, hf⟩
    have H21 := Lib.hid (HR.out.fp hf)
    clear hf
    obtain ⟨⟨a0, a1, a2, a3, a4, a5⟩, ⟨g0, g1, g2, g3, g4, g5⟩⟩ := H21.out.cell
    go_wp2_with (fail)
    rw [HO.out]
    refine bodyPost_ret (v := .tuple #[cellV zeroC, .int .i64 1]) (by simp [results, Tryz.results86, cellV, zeroC, go_sem, *]) rfl ⟨rfl, ?_⟩
    repeat (first | (with_reducible refine Fp.drew' ?_) | (with_reducible refine Fp.setCell' ?_ (Or.inr (Nat.le_refl _)) _) | (with_reducible exact H21.out.f))
 have HD3 : Hid (fkP s = fkP3 s row col s2) := by unfold Hid; rw [HD2.out, ← HCOL.out, ← HS2.out]; exact if_pos rfl
 by_cases h16 : s2.size = 16
 case neg =>
  have HO : Hid (fkP s = (zeroC, 1)) := by unfold Hid; rw [HD3.out]; exact if_neg h16
  have j1 : ((s2.size : Int) == 16) = false := by rw [beq_eq_false_iff_ne]; omega
  have j2 : ¬ (s2.size : Int) = 16 := by omega
  have j3 : ¬ s2.size = 16 := h16
  go_enter Tryz.func86, Tryz.ntmps86
  go_wp2_with (fail)
  go_loopg [0, 14] 2 (fun g vs vi wr => ∃ k : Nat, g + k = 2 ∧ vi = .int .i64 k ∧ vs = .string (pick3 s s1 s2 k) ∧ One w wr (pick3 #[.string ⟨#[]⟩, .string ⟨#[]⟩, .int .u64 0, .int .u64 0, .bool false, .string ⟨#[]⟩] #[.string row, .string ⟨#[]⟩, .int .u64 0, .int .u64 0, .bool false, .string ⟨#[]⟩] #[.string row, .string col, .int .u64 0, .int .u64 0, .bool false, .string ⟨#[]⟩] k))
  case atStart => exact ⟨0, rfl, rfl, rfl, HT0.out⟩
  case round =>
   obtain ⟨k, hg, rfl, rfl, hr⟩ := hrel
   have HR0 := Lib.hid hr
   clear hr
   have h2 : k = 0 ∨ k = 1 ∨ k = 2 := by omega
   rcases h2 with rfl | rfl | rfl
   ·have HR : Hid (One w wr #[.string ⟨#[]⟩, .string ⟨#[]⟩, .int .u64 0, .int .u64 0, .bool false, .string ⟨#[]⟩]) := HR0.out
    rw [show ((0 : Nat) : Int) = 0 from rfl]
    simp only [pick3]
    have hx := fun W' => index_ptr0 (some ⟨w.heap.size, 0, none⟩) (some ⟨w.heap.size, 1, none⟩) W'
    go_wp2_with (fail)
    (with_reducible refine (T1.out _ (HM.out.fp HR.out.f (by simp))).mono ?_)
    rintro e w11 ⟨rfl, hf⟩
    have H11 := Lib.hid (HR.out.fp hf)
    clear hf
    go_wp2_with (fail)
    (with_reducible refine (U1.out _ (HM.out.fp H11.out.f (by simp))).mono ?_)
    rintro e w12 ⟨rfl, hf⟩
    have H12 := Lib.hid (H11.out.fp hf)
    clear hf
    obtain ⟨⟨a0, a1, a2, a3, a4, a5⟩, ⟨g0, g1, g2, g3, g4, g5⟩⟩ := H12.out.cell
    go_wp2_with (fail)
    go_roundg (gk - 1)
    case measure => omega
    case rel => exact ⟨1, by omega, rfl, rfl, H12.out.set 0 (.string row)⟩
   ·have HR : Hid (One w wr #[.string row, .string ⟨#[]⟩, .int .u64 0, .int .u64 0, .bool false, .string ⟨#[]⟩]) := HR0.out
    rw [show ((1 : Nat) : Int) = 1 from rfl]
    simp only [pick3]
    have hx := fun W' => index_ptr1 (some ⟨w.heap.size, 0, none⟩) (some ⟨w.heap.size, 1, none⟩) W'
    go_wp2_with (fail)
    (with_reducible refine (T2.out _ (HM.out.fp HR.out.f (by simp))).mono ?_)
    rintro e w21 ⟨rfl, hf⟩
    have H21 := Lib.hid (HR.out.fp hf)
    clear hf
    go_wp2_with (fail)
    (with_reducible refine (U2.out _ (HM.out.fp H21.out.f (by simp))).mono ?_)
    rintro e w22 ⟨rfl, hf⟩
    have H22 := Lib.hid (H21.out.fp hf)
    clear hf
    obtain ⟨⟨a0, a1, a2, a3, a4, a5⟩, ⟨g0, g1, g2, g3, g4, g5⟩⟩ := H22.out.cell
    go_wp2_with (fail)
    go_roundg (gk - 1)
    case measure => omega
    case rel => exact ⟨2, by omega, rfl, rfl, H22.out.set 1 (.string col)⟩
   ·have HR : Hid (One w wr #[.string row, .string col, .int .u64 0, .int .u64 0, .bool false, .string ⟨#[]⟩]) := HR0.out
    rw [show ((2 : Nat) : Int) = 2 from rfl]
    simp only [pick3]
    obtain ⟨⟨a0, a1, a2, a3, a4, a5⟩, ⟨g0, g1, g2, g3, g4, g5⟩⟩ := HR.out.cell
    go_wp2_with (fail)
    rw [HO.out]
    refine bodyPost_ret (v := .tuple #[cellV zeroC, .int .i64 1]) (by simp [results, Tryz.results86, cellV, zeroC, go_sem, *]) rfl ⟨rfl, ?_⟩
    repeat (first | (with_reducible refine Fp.drew' ?_) | (with_reducible refine Fp.setCell' ?_ (Or.inr (Nat.le_refl _)) _) | (with_reducible exact HR.out.f))
 have HD4 : Hid (fkP s = endK s (coordC row col (M64 - leN (revB (s2.extract 0 8)) 8) (M64 - leN (revB (s2.extract 8 s2.size)) 8))) := by unfold Hid; rw [HD3.out]; exact if_pos h16
 have a1 := fun w => turned_any w (s2.extract 0 8) (by simp; omega)
 have a2 := fun w => turned_any w (s2.extract 8 s2.size) (by simp; omega)
 have rz1 : (revB (s2.extract 0 8)).size = 8 := by show (s2.extract 0 8).data.toList.reverse.toArray.size = 8; rw [List.size_toArray, List.length_reverse, ← Lib.size_eq]; simp; omega
 have rz2 : (revB (s2.extract 8 s2.size)).size = 8 := by show (s2.extract 8 s2.size).data.toList.reverse.toArray.size = 8; rw [List.size_toArray, List.length_reverse, ← Lib.size_eq]; simp; omega
 have n1 := fun w => number_any w (revB (s2.extract 0 8)) (by omega) (by omega)
 have n2 := fun w => number_any w (revB (s2.extract 8 s2.size)) (by omega) (by omega)
 have l1' := leN_lt (revB (s2.extract 0 8)) 8
 have l2' := leN_lt (revB (s2.extract 8 s2.size)) 8
 have e256 : (256 : Nat) ^ 8 = 18446744073709551616 := by decide
 rw [e256] at l1' l2'
 change ∀ w, Calls Tryz.prog _ _ w fun e w' => e = .returned (.string (revB (s2.extract 0 8))) ∧ Fp [] w w' at a1
 change ∀ w, Calls Tryz.prog _ _ w fun e w' => e = .returned (.string (revB (s2.extract 8 s2.size))) ∧ Fp [] w w' at a2
 obtain ⟨v1, hv1⟩ : ∃ x, revB (s2.extract 0 8) = x := ⟨_, rfl⟩
 obtain ⟨v2, hv2⟩ : ∃ x, revB (s2.extract 8 s2.size) = x := ⟨_, rfl⟩
 rw [hv1, hv2] at HD4
 rw [hv1] at a1 n1 l1'
 rw [hv2] at a2 n2 l2'
 obtain ⟨x1, hx1⟩ : ∃ x, leN v1 8 = x := ⟨_, rfl⟩
 obtain ⟨x2, hx2⟩ : ∃ x, leN v2 8 = x := ⟨_, rfl⟩
 rw [hx1, hx2] at HD4
 rw [hx1] at n1 l1'
 rw [hx2] at n2 l2'
 have w1 := not_u64 x1 l1'
 have w2 := not_u64 x2 l2'
 have hok : CelOK ⟨row, col, M64 - x1, M64 - x2, false, ⟨#[]⟩⟩ := ⟨by show M64 - x1 < _; unfold M64; omega, by show M64 - x2 < _; unfold M64; omega, by show row.size ≤ _; omega, by show col.size ≤ _; omega, by show (0 : Nat) ≤ _; omega⟩
 have k1 := fun w hm => key_all ⟨row, col, M64 - x1, M64 - x2, false, ⟨#[]⟩⟩ w hok hm
 unfold cellV at k1
 simp only at k1
 obtain ⟨y1, hy1⟩ : ∃ x, M64 - x1 = x := ⟨_, rfl⟩
 obtain ⟨y2, hy2⟩ : ∃ x, M64 - x2 = x := ⟨_, rfl⟩
 rw [hy1, hy2] at HD4 k1
 rw [hy1] at w1
 rw [hy2] at w2
 have w3 : bits BinOp.xor IntKind.u64 (if IntKind.u64.signed = true then -1 else IntKind.u64.max) (x1 : Int) = (y1 : Int) := by rw [if_neg (by decide)]; exact w1
 have w4 : bits BinOp.xor IntKind.u64 (if IntKind.u64.signed = true then -1 else IntKind.u64.max) (x2 : Int) = (y2 : Int) := by rw [if_neg (by decide)]; exact w2
 obtain ⟨kb, hkb⟩ : ∃ x, keyB ⟨row, col, y1, y2, false, ⟨#[]⟩⟩ = x := ⟨_, rfl⟩
 rw [hkb] at k1
 have HKB := Lib.hid hkb
 have A1 := Lib.hid a1
 have A2 := Lib.hid a2
 have N1 := Lib.hid n1
 have N2 := Lib.hid n2
 have K1 := Lib.hid k1
 have j1 : ((s2.size : Int) == 16) = true := by rw [beq_iff_eq]; omega
 have j2 : 8 ≤ s2.size := by omega
 have j3 : (8 : Int) ≤ (s2.size : Int) := by omega
 clear hx1 hx2 hy1 hy2 hkb hv1 hv2 l1' l2' e256 rz1 rz2 a1 a2 n1 n2 k1 hok h16
 by_cases hk : kb = s
 ·have HO : Hid (fkP s = (⟨row, col, y1, y2, false, ⟨#[]⟩⟩, 0)) := by unfold Hid; rw [HD4.out]; exact if_pos (by rw [coordC, HKB.out, hk])
  have hkt : (kb.toList == s.toList) = true := by rw [hk]; simp
  clear hk
  go_enter Tryz.func86, Tryz.ntmps86
  go_wp2_with (fail)
  go_loopg [0, 14] 2 (fun g vs vi wr => ∃ k : Nat, g + k = 2 ∧ vi = .int .i64 k ∧ vs = .string (pick3 s s1 s2 k) ∧ One w wr (pick3 #[.string ⟨#[]⟩, .string ⟨#[]⟩, .int .u64 0, .int .u64 0, .bool false, .string ⟨#[]⟩] #[.string row, .string ⟨#[]⟩, .int .u64 0, .int .u64 0, .bool false, .string ⟨#[]⟩] #[.string row, .string col, .int .u64 0, .int .u64 0, .bool false, .string ⟨#[]⟩] k))
  case atStart => exact ⟨0, rfl, rfl, rfl, HT0.out⟩
  case round =>
   obtain ⟨k, hg, rfl, rfl, hr⟩ := hrel
   have HR0 := Lib.hid hr
   clear hr
   have h2 : k = 0 ∨ k = 1 ∨ k = 2 := by omega
   rcases h2 with rfl | rfl | rfl
   ·have HR : Hid (One w wr #[.string ⟨#[]⟩, .string ⟨#[]⟩, .int .u64 0, .int .u64 0, .bool false, .string ⟨#[]⟩]) := HR0.out
    rw [show ((0 : Nat) : Int) = 0 from rfl]
    simp only [pick3]
    have hx := fun W' => index_ptr0 (some ⟨w.heap.size, 0, none⟩) (some ⟨w.heap.size, 1, none⟩) W'
    go_wp2_with (fail)
    (with_reducible refine (T1.out _ (HM.out.fp HR.out.f (by simp))).mono ?_)
    rintro e w11 ⟨rfl, hf⟩
    have H11 := Lib.hid (HR.out.fp hf)
    clear hf
    go_wp2_with (fail)
    (with_reducible refine (U1.out _ (HM.out.fp H11.out.f (by simp))).mono ?_)
    rintro e w12 ⟨rfl, hf⟩
    have H12 := Lib.hid (H11.out.fp hf)
    clear hf
    obtain ⟨⟨a0, a1, a2, a3, a4, a5⟩, ⟨g0, g1, g2, g3, g4, g5⟩⟩ := H12.out.cell
    go_wp2_with (fail)
    go_roundg (gk - 1)
    case measure => omega
    case rel => exact ⟨1, by omega, rfl, rfl, H12.out.set 0 (.string row)⟩
   ·have HR : Hid (One w wr #[.string row, .string ⟨#[]⟩, .int .u64 0, .int .u64 0, .bool false, .string ⟨#[]⟩]) := HR0.out
    rw [show ((1 : Nat) : Int) = 1 from rfl]
    simp only [pick3]
    have hx := fun W' => index_ptr1 (some ⟨w.heap.size, 0, none⟩) (some ⟨w.heap.size, 1, none⟩) W'
    go_wp2_with (fail)
    (with_reducible refine (T2.out _ (HM.out.fp HR.out.f (by simp))).mono ?_)
    rintro e w21 ⟨rfl, hf⟩
    have H21 := Lib.hid (HR.out.fp hf)
    clear hf
    go_wp2_with (fail)
    (with_reducible refine (U2.out _ (HM.out.fp H21.out.f (by simp))).mono ?_)
    rintro e w22 ⟨rfl, hf⟩
    have H22 := Lib.hid (H21.out.fp hf)
    clear hf
    obtain ⟨⟨a0, a1, a2, a3, a4, a5⟩, ⟨g0, g1, g2, g3, g4, g5⟩⟩ := H22.out.cell
    go_wp2_with (fail)
    go_roundg (gk - 1)
    case measure => omega
    case rel => exact ⟨2, by omega, rfl, rfl, H22.out.set 1 (.string col)⟩
   ·have HR : Hid (One w wr #[.string row, .string col, .int .u64 0, .int .u64 0, .bool false, .string ⟨#[]⟩]) := HR0.out
    rw [show ((2 : Nat) : Int) = 2 from rfl]
    simp only [pick3]
    go_wp2_with (fail)
    refine wp_region_each (KC w.heap.size w row col) (KR w.heap.size y1 y2) (by kernel_rfl) (by kernel_rfl) ?_ ?_
    ·exact ⟨HR.out.f.trans (Fp.drew _) (by simp), _, _, HR.out.a⟩
    iterate 11
     apply ex_plain rfl rfl rfl
     ·intro a w hC hA K hK
      have := hA.f 0
      have := hA.f 2
      try have := hA.e 0 36
      try have := hA.e 1 37
      try have := hA.e 2 38
      try have := hA.e 3 39
      try have := hA.e 5 41
      try have := hA.e 6 42
      try have := hA.e 7 43
      try have := hA.e 8 44
      simp only [Oper.wp, execOp]; go_simp
      first
      |exact hK _ hC (KR.refl _ _ _ _)
      |first
        |((with_reducible refine (A1.out _).mono ?_); rintro e w2 ⟨rfl, hf⟩; exact hK _ (hC.fp hf) (hC.kr hf))
        |((with_reducible refine (A2.out _).mono ?_); rintro e w2 ⟨rfl, hf⟩; exact hK _ (hC.fp hf) (hC.kr hf))
        |((with_reducible refine (N1.out _).mono ?_); rintro e w2 ⟨rfl, hf⟩; exact hK _ (hC.fp hf) (hC.kr hf))
        |((with_reducible refine (N2.out _).mono ?_); rintro e w2 ⟨rfl, hf⟩; exact hK _ (hC.fp hf) (hC.kr hf))
    apply ex_effect ((fun w' => w'.cell? ⟨w.heap.size, 2, none⟩ = some (.int .u64 y1))) rfl rfl
    ·intro a w hC hA K hK
     have h46 := hA.e 10 46
     have h40 := hA.e 4 40
     obtain ⟨q2, q3, hq⟩ := hC.blk
     have qc := cell_of_block hq 2
     have qf := frozen_of_block hq 2
     simp only [List.getElem?_toArray, List.getElem?_cons_succ, List.getElem?_cons_zero] at qc
     have hset := hC.set2 (z1 := y1) (z2 := y2) (Nat.le_refl _)
     simp only [Oper.wp, execOp]; go_simp
     exact hK undef _ hset.1 hset.2.1 hset.2.2
    apply ex_plain rfl rfl rfl
    ·intro a w hC hA K hK
     have h2 := hA.f 2
     simp only [Oper.wp, execOp]; go_simp
     exact hK _ hC (KR.refl _ _ _ _)
    apply ex_effect ((fun w' => w'.cell? ⟨w.heap.size, 3, none⟩ = some (.int .u64 y2))) rfl rfl
    ·intro a w hC hA K hK
     have h47 := hA.e 12 47
     have h45 := hA.e 9 45
     obtain ⟨q2, q3, hq⟩ := hC.blk
     have qc := cell_of_block hq 3
     have qf := frozen_of_block hq 3
     simp only [List.getElem?_toArray, List.getElem?_cons_succ, List.getElem?_cons_zero] at qc
     have hset := hC.set3 (z1 := y1) (z2 := y2) (Nat.le_refl _)
     simp only [Oper.wp, execOp]; go_simp
     exact hK undef _ hset.1 hset.2.1 hset.2.2
    refine ⟨?_, ?_⟩
    ·refine ⟨fun w1 w2 v _ hr h => hr.2 h, ?_⟩
     refine stab_val _ ?_
     refine ⟨fun w1 w2 v _ hr h => hr.1 h, ?_⟩
     iterate 11 refine stab_val _ ?_
     exact trivial
    ·intro w' hC
     simp only [List.reverse_cons, List.reverse_nil, List.nil_append, List.cons_append]
     iterate 11 (refine all_val ?_)
     refine all_some ?_
     intro v11 u11
     iterate 1 (refine all_val ?_)
     refine all_some ?_
     intro v13 u13
     refine all_nil ?_
     simp only [putAll, Act.put, List.setIfInBounds_toArray, List.set_cons_succ, List.set_cons_zero]
     have H5 : Hid (One w w' #[.string row, .string col, .int .u64 y1, .int .u64 y2, .bool false, .string ⟨#[]⟩]) := Lib.hid ⟨hC.done u11 u13, hC.f⟩
     clear hC u11 u13
     obtain ⟨⟨a0, a1, a2, a3, a4, a5⟩, ⟨g0, g1, g2, g3, g4, g5⟩⟩ := H5.out.cell
     go_wp2_with (fail)
     clear a0 a1 a2 a3 a4 a5 g0 g1 g2 g3 g4 g5
     (with_reducible refine (K1.out _ (HM.out.fp H5.out.f (by simp))).mono ?_)
     rintro e w6 ⟨rfl, hf⟩
     have H6 := Lib.hid (H5.out.fp hf)
     clear hf
     obtain ⟨⟨a0, a1, a2, a3, a4, a5⟩, ⟨g0, g1, g2, g3, g4, g5⟩⟩ := H6.out.cell
     go_wp2_with (fail)
     rw [HO.out]
     refine bodyPost_ret (v := .tuple #[cellV ⟨row, col, y1, y2, false, ⟨#[]⟩⟩, .int .i64 0]) (by simp [results, Tryz.results86, cellV, go_sem, *]) rfl ⟨rfl, ?_⟩
     repeat (first | (with_reducible refine Fp.drew' ?_) | (with_reducible refine Fp.setCell' ?_ (Or.inr (Nat.le_refl _)) _) | (with_reducible exact H6.out.f))
 ·have HO : Hid (fkP s = (zeroC, 1)) := by unfold Hid; rw [HD4.out]; exact if_neg (by rw [coordC, HKB.out]; exact hk)
  have hkt : (kb.toList == s.toList) = false := by rw [beq_eq_false_iff_ne]; exact fun e => hk (toList_inj' e)
  clear hk
  go_enter Tryz.func86, Tryz.ntmps86
  go_wp2_with (fail)
  go_loopg [0, 14] 2 (fun g vs vi wr => ∃ k : Nat, g + k = 2 ∧ vi = .int .i64 k ∧ vs = .string (pick3 s s1 s2 k) ∧ One w wr (pick3 #[.string ⟨#[]⟩, .string ⟨#[]⟩, .int .u64 0, .int .u64 0, .bool false, .string ⟨#[]⟩] #[.string row, .string ⟨#[]⟩, .int .u64 0, .int .u64 0, .bool false, .string ⟨#[]⟩] #[.string row, .string col, .int .u64 0, .int .u64 0, .bool false, .string ⟨#[]⟩] k))
  case atStart => exact ⟨0, rfl, rfl, rfl, HT0.out⟩
  case round =>
   obtain ⟨k, hg, rfl, rfl, hr⟩ := hrel
   have HR0 := Lib.hid hr
   clear hr
   have h2 : k = 0 ∨ k = 1 ∨ k = 2 := by omega
   rcases h2 with rfl | rfl | rfl
   ·have HR : Hid (One w wr #[.string ⟨#[]⟩, .string ⟨#[]⟩, .int .u64 0, .int .u64 0, .bool false, .string ⟨#[]⟩]) := HR0.out
    rw [show ((0 : Nat) : Int) = 0 from rfl]
    simp only [pick3]
    have hx := fun W' => index_ptr0 (some ⟨w.heap.size, 0, none⟩) (some ⟨w.heap.size, 1, none⟩) W'
    go_wp2_with (fail)
    (with_reducible refine (T1.out _ (HM.out.fp HR.out.f (by simp))).mono ?_)
    rintro e w11 ⟨rfl, hf⟩
    have H11 := Lib.hid (HR.out.fp hf)
    clear hf
    go_wp2_with (fail)
    (with_reducible refine (U1.out _ (HM.out.fp H11.out.f (by simp))).mono ?_)
    rintro e w12 ⟨rfl, hf⟩
    have H12 := Lib.hid (H11.out.fp hf)
    clear hf
    obtain ⟨⟨a0, a1, a2, a3, a4, a5⟩, ⟨g0, g1, g2, g3, g4, g5⟩⟩ := H12.out.cell
    go_wp2_with (fail)
    go_roundg (gk - 1)
    case measure => omega
    case rel => exact ⟨1, by omega, rfl, rfl, H12.out.set 0 (.string row)⟩
   ·have HR : Hid (One w wr #[.string row, .string ⟨#[]⟩, .int .u64 0, .int .u64 0, .bool false, .string ⟨#[]⟩]) := HR0.out
    rw [show ((1 : Nat) : Int) = 1 from rfl]
    simp only [pick3]
    have hx := fun W' => index_ptr1 (some ⟨w.heap.size, 0, none⟩) (some ⟨w.heap.size, 1, none⟩) W'
    go_wp2_with (fail)
    (with_reducible refine (T2.out _ (HM.out.fp HR.out.f (by simp))).mono ?_)
    rintro e w21 ⟨rfl, hf⟩
    have H21 := Lib.hid (HR.out.fp hf)
    clear hf
    go_wp2_with (fail)
    (with_reducible refine (U2.out _ (HM.out.fp H21.out.f (by simp))).mono ?_)
    rintro e w22 ⟨rfl, hf⟩
    have H22 := Lib.hid (H21.out.fp hf)
    clear hf
    obtain ⟨⟨a0, a1, a2, a3, a4, a5⟩, ⟨g0, g1, g2, g3, g4, g5⟩⟩ := H22.out.cell
    go_wp2_with (fail)
    go_roundg (gk - 1)
    case measure => omega
    case rel => exact ⟨2, by omega, rfl, rfl, H22.out.set 1 (.string col)⟩
   ·have HR : Hid (One w wr #[.string row, .string col, .int .u64 0, .int .u64 0, .bool false, .string ⟨#[]⟩]) := HR0.out
    rw [show ((2 : Nat) : Int) = 2 from rfl]
    simp only [pick3]
    go_wp2_with (fail)
    refine wp_region_each (KC w.heap.size w row col) (KR w.heap.size y1 y2) (by kernel_rfl) (by kernel_rfl) ?_ ?_
    ·exact ⟨HR.out.f.trans (Fp.drew _) (by simp), _, _, HR.out.a⟩
    iterate 11
     apply ex_plain rfl rfl rfl
     ·intro a w hC hA K hK
      have := hA.f 0
      have := hA.f 2
      try have := hA.e 0 36
      try have := hA.e 1 37
      try have := hA.e 2 38
      try have := hA.e 3 39
      try have := hA.e 5 41
      try have := hA.e 6 42
      try have := hA.e 7 43
      try have := hA.e 8 44
      simp only [Oper.wp, execOp]; go_simp
      first
      |exact hK _ hC (KR.refl _ _ _ _)
      |first
        |((with_reducible refine (A1.out _).mono ?_); rintro e w2 ⟨rfl, hf⟩; exact hK _ (hC.fp hf) (hC.kr hf))
        |((with_reducible refine (A2.out _).mono ?_); rintro e w2 ⟨rfl, hf⟩; exact hK _ (hC.fp hf) (hC.kr hf))
        |((with_reducible refine (N1.out _).mono ?_); rintro e w2 ⟨rfl, hf⟩; exact hK _ (hC.fp hf) (hC.kr hf))
        |((with_reducible refine (N2.out _).mono ?_); rintro e w2 ⟨rfl, hf⟩; exact hK _ (hC.fp hf) (hC.kr hf))
    apply ex_effect ((fun w' => w'.cell? ⟨w.heap.size, 2, none⟩ = some (.int .u64 y1))) rfl rfl
    ·intro a w hC hA K hK
     have h46 := hA.e 10 46
     have h40 := hA.e 4 40
     obtain ⟨q2, q3, hq⟩ := hC.blk
     have qc := cell_of_block hq 2
     have qf := frozen_of_block hq 2
     simp only [List.getElem?_toArray, List.getElem?_cons_succ, List.getElem?_cons_zero] at qc
     have hset := hC.set2 (z1 := y1) (z2 := y2) (Nat.le_refl _)
     simp only [Oper.wp, execOp]; go_simp
     exact hK undef _ hset.1 hset.2.1 hset.2.2
    apply ex_plain rfl rfl rfl
    ·intro a w hC hA K hK
     have h2 := hA.f 2
     simp only [Oper.wp, execOp]; go_simp
     exact hK _ hC (KR.refl _ _ _ _)
    apply ex_effect ((fun w' => w'.cell? ⟨w.heap.size, 3, none⟩ = some (.int .u64 y2))) rfl rfl
    ·intro a w hC hA K hK
     have h47 := hA.e 12 47
     have h45 := hA.e 9 45
     obtain ⟨q2, q3, hq⟩ := hC.blk
     have qc := cell_of_block hq 3
     have qf := frozen_of_block hq 3
     simp only [List.getElem?_toArray, List.getElem?_cons_succ, List.getElem?_cons_zero] at qc
     have hset := hC.set3 (z1 := y1) (z2 := y2) (Nat.le_refl _)
     simp only [Oper.wp, execOp]; go_simp
     exact hK undef _ hset.1 hset.2.1 hset.2.2
    refine ⟨?_, ?_⟩
    ·refine ⟨fun w1 w2 v _ hr h => hr.2 h, ?_⟩
     refine stab_val _ ?_
     refine ⟨fun w1 w2 v _ hr h => hr.1 h, ?_⟩
     iterate 11 refine stab_val _ ?_
     exact trivial
    ·intro w' hC
     simp only [List.reverse_cons, List.reverse_nil, List.nil_append, List.cons_append]
     iterate 11 (refine all_val ?_)
     refine all_some ?_
     intro v11 u11
     iterate 1 (refine all_val ?_)
     refine all_some ?_
     intro v13 u13
     refine all_nil ?_
     simp only [putAll, Act.put, List.setIfInBounds_toArray, List.set_cons_succ, List.set_cons_zero]
     have H5 : Hid (One w w' #[.string row, .string col, .int .u64 y1, .int .u64 y2, .bool false, .string ⟨#[]⟩]) := Lib.hid ⟨hC.done u11 u13, hC.f⟩
     clear hC u11 u13
     obtain ⟨⟨a0, a1, a2, a3, a4, a5⟩, ⟨g0, g1, g2, g3, g4, g5⟩⟩ := H5.out.cell
     go_wp2_with (fail)
     clear a0 a1 a2 a3 a4 a5 g0 g1 g2 g3 g4 g5
     (with_reducible refine (K1.out _ (HM.out.fp H5.out.f (by simp))).mono ?_)
     rintro e w6 ⟨rfl, hf⟩
     have H6 := Lib.hid (H5.out.fp hf)
     clear hf
     obtain ⟨⟨a0, a1, a2, a3, a4, a5⟩, ⟨g0, g1, g2, g3, g4, g5⟩⟩ := H6.out.cell
     go_wp2_with (fail)
     rw [HO.out]
     refine bodyPost_ret (v := .tuple #[cellV zeroC, .int .i64 1]) (by simp [results, Tryz.results86, cellV, zeroC, go_sem, *]) rfl ⟨rfl, ?_⟩
     repeat (first | (with_reducible refine Fp.drew' ?_) | (with_reducible refine Fp.setCell' ?_ (Or.inr (Nat.le_refl _)) _) | (with_reducible exact H6.out.f))
end
section
open Go.Lib
end
section
open Go.Lib
theorem may_coord {c : Cel} (h : mayB c = true) : mayB (coordC c.row c.col c.ts c.seq) = true := by
 obtain ⟨h1, h2, _, _⟩ := mayB_true h
 unfold mayB coordC nmB
 simp only [Bool.and_eq_true, decide_eq_true_eq, Bool.or_eq_true, Bool.not_false]
 exact ⟨⟨⟨h1, h2⟩, Nat.zero_le _⟩, Or.inl trivial⟩
theorem keyB_coord {c : Cel} (h : mayB c = true) : keyB (coordC c.row c.col c.ts c.seq) = bl (keyL c) := by
 unfold keyB
 rw [if_pos (may_coord h)]
 rfl
theorem be8_length (n : Nat) : (be8 n).length = 8 := by unfold be8; rw [List.length_reverse, le8_length]
def Told (s : ByteArray) (x : Cel × Int) : Prop := x = (zeroC, 1) ∨ ∃ row col ts seq, ts ≤ M64 ∧ seq ≤ M64 ∧ x = (coordC row col ts seq, 0) ∧ keyB (coordC row col ts seq) = s
theorem endK_told (s row col : ByteArray) (a b : Nat) : Told s (endK s (coordC row col (M64 - a) (M64 - b))) := by
 unfold endK
 split
 ·rename_i h
  exact Or.inr ⟨row, col, M64 - a, M64 - b, Nat.sub_le _ _, Nat.sub_le _ _, rfl, h⟩
 ·exact Or.inl rfl
theorem fkP_told (s : ByteArray) : Told s (fkP s) := by
 unfold fkP fkP1 fkP2 fkP3
 split
 ·split
  ·split
   ·exact endK_told _ _ _ _ _
   ·exact Or.inl rfl
  ·exact Or.inl rfl
 ·exact Or.inl rfl
theorem fkP_empty : fkP ⟨#[]⟩ = (zeroC, 1) := by
 unfold fkP fkP1
 rw [if_neg (by decide)]
end
end Go.Proofs.YtkjmgbifoaoefaaGreatDoor
