/-
  line: a line of input as a cell.
-/
import Derived.Test.YtfhjdfimkeogaaaDoorParSteps
import Derived.LoopN
import Derived.Laws.EntriesVeiled
namespace Go.Proofs.YtfhjdfimkeogaaaDoor
open Go.RowKit Go.Lib

def fourB (a b c d : ByteArray) : Option Cel :=
  if nameB a = true ∧ nameB b = true ∧ (goneB d || valB d) = true then
    (numB c).map fun u => ⟨a, b, u, 0, goneB d, if goneB d = true then ⟨#[]⟩ else restB d⟩
  else none
def lineP (s : ByteArray) : Option Cel := match pieces 32 s with
  | [a, b, c, d] => fourB a b c d
  | _ => none
theorem lineP_not {s : ByteArray} (h : (pieces 32 s).length ≠ 4) : lineP s = none := by
  unfold lineP
  split
  · rename_i e; rw [e] at h; exact absurd rfl h
  · rfl
theorem four_of {l : List ByteArray} (h : l.length = 4) : ∃ a b c d, l = [a, b, c, d] := by
  match l, h with
  | [a, b, c, d], _ => exact ⟨a, b, c, d, rfl⟩

/-- a row of strings in a block of its own -/
def RowIn (w : World) (B : Nat) (l : List ByteArray) : Prop := w.heap[B]? = some (.cells (l.map Value.string).toArray 9 (0, 0))
theorem RowIn.fp {w w' : World} {B : Nat} {l : List ByteArray} {S : List Nat} (h : RowIn w B l) (hf : Fp S w w') (hb : B ∉ S) : RowIn w' B l := (hf.block B (heap_lt h) hb).trans h
theorem RowIn.at {w : World} {B : Nat} {l : List ByteArray} (h : RowIn w B l) (i : Nat) (hi : i < l.length) : w.cell? ⟨B, i, none⟩ = some (.string l[i]) := by
  rw [cell_of_block h]
  simp [hi]
theorem split_any (c : UInt8) (s : ByteArray) (w : World) (hs : s.size ≤ 100000000) (hm : MaxAt w) :
    Calls Tryd.prog 18 #[.string s, .string ⟨#[c]⟩] w fun e w' =>
      ∃ B, e = .returned (.slice (some ⟨B, 0, none⟩) (pieces c s).length (pieces c s).length) ∧ B = w.heap.size ∧ RowIn w' B (pieces c s) ∧ Fp [] w w' := by
  obtain ⟨m, hm⟩ := hm
  rw [pieces_len]
  refine (Tryd.strings_Split s ⟨#[c]⟩ m w (by omega) hm (Nat.le_refl 1)).mono ?_
  rintro e w' ⟨rfl, rfl⟩
  exact ⟨_, rfl, rfl, heap_alloc_at rfl _, Fp.alloc _ _⟩

theorem index_step0 (f0 f1 f2 f3 : Value) (w : World) : (Instr.index 64 (.agg #[f0, f1, f2, f3]) (.int .i64 0)).run Tryd.prog w = .ok f0 w := by
  simp [Instr.index, run_underlying Tryd.underlying64, asIntOf, go_sem]
theorem index_step1 (f0 f1 f2 f3 : Value) (w : World) : (Instr.index 64 (.agg #[f0, f1, f2, f3]) (.int .i64 1)).run Tryd.prog w = .ok f1 w := by
  simp [Instr.index, run_underlying Tryd.underlying64, asIntOf, go_sem]
theorem index_step2 (f0 f1 f2 f3 : Value) (w : World) : (Instr.index 64 (.agg #[f0, f1, f2, f3]) (.int .i64 2)).run Tryd.prog w = .ok f2 w := by
  simp [Instr.index, run_underlying Tryd.underlying64, asIntOf, go_sem]
theorem index_step3 (f0 f1 f2 f3 : Value) (w : World) : (Instr.index 64 (.agg #[f0, f1, f2, f3]) (.int .i64 3)).run Tryd.prog w = .ok f3 w := by
  simp [Instr.index, run_underlying Tryd.underlying64, asIntOf, go_sem]

/-- a cell's six places -/
theorem CelIn.facts0 {w : World} {b : Nat} {c : Cel} (h : CelIn w b c) :
    w.cell? ⟨b, 0, none⟩ = some (.string c.row) ∧ w.cell? ⟨b, 1, none⟩ = some (.string c.col) ∧ w.cell? ⟨b, 2, none⟩ = some (.int .u64 c.ts) ∧
    w.cell? ⟨b, 3, none⟩ = some (.int .u64 c.seq) ∧ w.cell? ⟨b, 4, none⟩ = some (.bool c.del) ∧ w.cell? ⟨b, 5, none⟩ = some (.string c.val) ∧
    w.frozen? ⟨b, 0, none⟩ = false ∧ w.frozen? ⟨b, 1, none⟩ = false ∧ w.frozen? ⟨b, 2, none⟩ = false ∧ w.frozen? ⟨b, 3, none⟩ = false ∧ w.frozen? ⟨b, 4, none⟩ = false ∧ w.frozen? ⟨b, 5, none⟩ = false :=
  ⟨h.cell 0, h.cell 1, h.cell 2, h.cell 3, h.cell 4, h.cell 5, h.free 0, h.free 1, h.free 2, h.free 3, h.free 4, h.free 5⟩
/-- a cell's six places, behind one more block -/
theorem CelIn.facts {w : World} {b : Nat} {c : Cel} (h : CelIn w b c) :
    (∀ X : Obj, (w.alloc X).cell? ⟨b, 0, none⟩ = some (.string c.row)) ∧ (∀ X : Obj, (w.alloc X).cell? ⟨b, 1, none⟩ = some (.string c.col)) ∧ (∀ X : Obj, (w.alloc X).cell? ⟨b, 2, none⟩ = some (.int .u64 c.ts)) ∧
    (∀ X : Obj, (w.alloc X).cell? ⟨b, 3, none⟩ = some (.int .u64 c.seq)) ∧ (∀ X : Obj, (w.alloc X).cell? ⟨b, 4, none⟩ = some (.bool c.del)) ∧ (∀ X : Obj, (w.alloc X).cell? ⟨b, 5, none⟩ = some (.string c.val)) ∧
    (∀ X : Obj, (w.alloc X).frozen? ⟨b, 0, none⟩ = false) ∧ (∀ X : Obj, (w.alloc X).frozen? ⟨b, 1, none⟩ = false) ∧ (∀ X : Obj, (w.alloc X).frozen? ⟨b, 2, none⟩ = false) ∧
    (∀ X : Obj, (w.alloc X).frozen? ⟨b, 3, none⟩ = false) ∧ (∀ X : Obj, (w.alloc X).frozen? ⟨b, 4, none⟩ = false) ∧ (∀ X : Obj, (w.alloc X).frozen? ⟨b, 5, none⟩ = false) := by
  have k : ∀ X : Obj, CelIn (w.alloc X) b c := fun X => h.fp (Fp.alloc w X) List.not_mem_nil
  exact ⟨fun X => (k X).cell 0, fun X => (k X).cell 1, fun X => (k X).cell 2, fun X => (k X).cell 3, fun X => (k X).cell 4, fun X => (k X).cell 5, fun X => (k X).free 0, fun X => (k X).free 1, fun X => (k X).free 2, fun X => (k X).free 3, fun X => (k X).free 4, fun X => (k X).free 5⟩

structure ParAt (w : World) : Prop where
  mx : MaxAt w
  er : ErrsAt w

set_option maxRecDepth 100000 in
set_option maxHeartbeats 4000000 in
theorem line_any (s : ByteArray) (w : World) (hs : s.size ≤ 100000000) (hp : ParAt w) :
    Calls Tryd.prog 19 #[.string s] w fun e w' => e = .returned (.tuple #[cellV ((lineP s).getD zeroC), .bool (lineP s).isSome]) ∧ Fp [] w w' := by
  have HP := Lib.hid hp
  have hS := Lib.hid (fun w => split_any 32 s w hs)
  have hmf : ∀ (fn : Fn) (first cap : Array Value) (w : World), (Instr.makeFunc fn first cap).run Tryd.prog w = .ok (.func fn first cap) w := fun _ _ _ _ => rfl
  clear hp
  by_cases h4 : (pieces 32 s).length = 4
  · obtain ⟨a, b, c, d, he⟩ := four_of h4
    go_enter Tryd.func19, Tryd.ntmps19
    go_wp2_with (fail)
    (with_reducible refine (hS.out _ (HP.out.mx.fp (Fp.alloc _ _) List.not_mem_nil)).mono ?_)
    rintro e w1 ⟨B, rfl, hB, hrow, hf⟩
    rw [he] at hrow ⊢
    have HC1 : Hid (CelIn w1 w.heap.size zeroC) := CelIn.fp (S := []) (heap_alloc_at rfl _) hf List.not_mem_nil
    have HF1 := Lib.hid ((Fp.alloc w _).trans hf (by simp))
    have HR1 := Lib.hid hrow
    have hBn : B ∉ [w.heap.size] := by rw [hB]; simp
    have hlen : [a, b, c, d].length = 4 := rfl
    have HSC : Hid (c.size ≤ 100000000) := by unfold Hid; have := pieces_small (c := 32) (s := s) (x := c) (by rw [he]; simp); omega
    clear hf hrow hB h4
    go_wp2_with (fail)
    obtain ⟨w2, hw2⟩ : ∃ w2, w1.alloc (.cells #[.func (.func 31) #[] #[.pointer (some ⟨w.heap.size, 0, none⟩)], .func (.func 33) #[] #[.pointer (some ⟨w.heap.size, 0, none⟩)], .func (.func 34) #[] #[.pointer (some ⟨w.heap.size, 0, none⟩)], .func (.func 36) #[] #[.pointer (some ⟨w.heap.size, 0, none⟩)]] 64) = w2 := ⟨_, rfl⟩
    rw [hw2]
    have hf2 : Fp [] w1 w2 := by rw [← hw2]; exact Fp.alloc _ _
    have HC2 := Lib.hid (HC1.out.fp hf2 List.not_mem_nil)
    have HR2 := Lib.hid (HR1.out.fp hf2 List.not_mem_nil)
    have HF2 := Lib.hid (HF1.out.trans hf2 (by simp))
    have p0 : w2.cell? ⟨B, 0, none⟩ = some (.string a) := HR2.out.at 0 (by simp)
    clear hf2 hw2
    have ix0 := index_step0
    have ix1 := index_step1
    have ix2 := index_step2
    have ix3 := index_step3
    refine wp_loop_rounds 5 ?_
    rw [rounds_succ]
    go_wp2_with (fail)
    (with_reducible refine (step1_any a _ _ _ HC2.out).mono ?_)
    rintro e w3 ⟨rfl, hc, hf⟩
    have HC3 := Lib.hid hc
    have HR3 := Lib.hid (HR2.out.fp hf hBn)
    have HF3 := Lib.hid (HF2.out.trans hf (by simp))
    have p1 : w3.cell? ⟨B, 1, none⟩ = some (.string b) := HR3.out.at 1 (by simp)
    clear p0 hc hf
    obtain ⟨n1, hn1⟩ : ∃ n1, nameB a = n1 := ⟨_, rfl⟩
    rw [hn1]
    cases n1
    · have HL : Hid (lineP s = none) := by unfold Hid lineP; rw [he]; show fourB a b c d = none; unfold fourB; rw [hn1, if_neg (by simp)]
      obtain ⟨q0, q1, q2, q3, q4, q5, f0, f1, f2, f3, f4, f5⟩ := HC3.out.facts0
      go_wp2_with (fail)
      rw [HL.out]
      refine bodyPost_ret (v := .tuple #[cellV zeroC, .bool false]) (by simp [results, Tryd.results19, cellV, zeroC, go_sem, *]) rfl ⟨rfl, ?_⟩
      repeat (first | (with_reducible refine Fp.drew' ?_) | (with_reducible refine Fp.setCell' ?_ (Or.inr (Nat.le_refl _)) _) | (with_reducible refine Fp.alloc' ?_ _) | (with_reducible exact HF3.out))
    go_wp2_with (fail)
    rw [rounds_succ]
    go_wp2_with (fail)
    (with_reducible refine (step2_any b _ _ _ HC3.out).mono ?_)
    rintro e w4 ⟨rfl, hc, hf⟩
    have HC4 := Lib.hid hc
    have HR4 := Lib.hid (HR3.out.fp hf hBn)
    have HF4 := Lib.hid (HF3.out.trans hf (by simp))
    have p2 : w4.cell? ⟨B, 2, none⟩ = some (.string c) := HR4.out.at 2 (by simp)
    clear p1 hc hf
    obtain ⟨n2, hn2⟩ : ∃ n2, nameB b = n2 := ⟨_, rfl⟩
    rw [hn2]
    cases n2
    · have HL : Hid (lineP s = none) := by unfold Hid lineP; rw [he]; show fourB a b c d = none; unfold fourB; rw [hn2, if_neg (by simp)]
      obtain ⟨q0, q1, q2, q3, q4, q5, f0, f1, f2, f3, f4, f5⟩ := HC4.out.facts0
      go_wp2_with (fail)
      rw [HL.out]
      refine bodyPost_ret (v := .tuple #[cellV zeroC, .bool false]) (by simp [results, Tryd.results19, cellV, zeroC, go_sem, *]) rfl ⟨rfl, ?_⟩
      repeat (first | (with_reducible refine Fp.drew' ?_) | (with_reducible refine Fp.setCell' ?_ (Or.inr (Nat.le_refl _)) _) | (with_reducible refine Fp.alloc' ?_ _) | (with_reducible exact HF4.out))
    go_wp2_with (fail)
    rw [rounds_succ]
    go_wp2_with (fail)
    (with_reducible refine (step3_any c _ _ _ HC4.out HSC.out (HP.out.er.fp HF4.out List.not_mem_nil List.not_mem_nil)).mono ?_)
    rintro e w5 ⟨rfl, ⟨u, hu, hc⟩, hf⟩
    have HC5 := Lib.hid hc
    have HR5 := Lib.hid (HR4.out.fp hf hBn)
    have HF5 := Lib.hid (HF4.out.trans hf (by simp))
    have p3 : w5.cell? ⟨B, 3, none⟩ = some (.string d) := HR5.out.at 3 (by simp)
    clear p2 hc hf
    cases hn3 : numB c with
    | none =>
      have HL : Hid (lineP s = none) := by unfold Hid lineP; rw [he]; show fourB a b c d = none; unfold fourB; rw [hn3]; split <;> rfl
      clear hu
      obtain ⟨q0, q1, q2, q3, q4, q5, f0, f1, f2, f3, f4, f5⟩ := HC5.out.facts0
      go_wp2_with (fail)
      rw [HL.out]
      refine bodyPost_ret (v := .tuple #[cellV zeroC, .bool false]) (by simp [results, Tryd.results19, cellV, zeroC, go_sem, *]) rfl ⟨rfl, ?_⟩
      repeat (first | (with_reducible refine Fp.drew' ?_) | (with_reducible refine Fp.setCell' ?_ (Or.inr (Nat.le_refl _)) _) | (with_reducible refine Fp.alloc' ?_ _) | (with_reducible exact HF5.out))
    | some u' =>
      obtain rfl : u' = u := by
        rcases hu with hu | hu
        · rw [hn3] at hu; cases hu
        · rw [hn3] at hu; exact Option.some.inj hu
      clear hu
      go_wp2_with (fail)
      rw [rounds_succ]
      go_wp2_with (fail)
      (with_reducible refine (step4_any d _ _ _ HC5.out).mono ?_)
      rintro e w6 ⟨rfl, hc, hf⟩
      have HC6 := Lib.hid hc
      have HF6 := Lib.hid (HF5.out.trans hf (by simp))
      clear p3 hc hf
      obtain ⟨n4, hn4⟩ : ∃ n4, (goneB d || valB d) = n4 := ⟨_, rfl⟩
      rw [hn4]
      cases n4
      · have HL : Hid (lineP s = none) := by unfold Hid lineP; rw [he]; show fourB a b c d = none; unfold fourB; rw [hn4, if_neg (by simp)]
        obtain ⟨q0, q1, q2, q3, q4, q5, f0, f1, f2, f3, f4, f5⟩ := HC6.out.facts0
        go_wp2_with (fail)
        rw [HL.out]
        refine bodyPost_ret (v := .tuple #[cellV zeroC, .bool false]) (by simp [results, Tryd.results19, cellV, zeroC, go_sem, *]) rfl ⟨rfl, ?_⟩
        repeat (first | (with_reducible refine Fp.drew' ?_) | (with_reducible refine Fp.setCell' ?_ (Or.inr (Nat.le_refl _)) _) | (with_reducible refine Fp.alloc' ?_ _) | (with_reducible exact HF6.out))
      go_wp2_with (fail)
      rw [rounds_succ]
      have HL : Hid (lineP s = some ⟨a, b, u', 0, goneB d, if goneB d = true then ⟨#[]⟩ else restB d⟩) := by unfold Hid lineP; rw [he]; show fourB a b c d = _; unfold fourB; rw [hn1, hn2, hn3, hn4, if_pos (by simp)]; rfl
      obtain ⟨vv, hvv⟩ : ∃ vv, (if goneB d = true then zeroC.val else restB d) = vv := ⟨_, rfl⟩
      have hvv2 : (if goneB d = true then (⟨#[]⟩ : ByteArray) else restB d) = vv := hvv
      rw [hvv] at HC6
      rw [hvv2] at HL
      obtain ⟨q0, q1, q2, q3, q4, q5, f0, f1, f2, f3, f4, f5⟩ := HC6.out.facts0
      go_wp2_with (fail)
      rw [HL.out]
      refine bodyPost_ret (v := .tuple #[cellV ⟨a, b, u', 0, goneB d, vv⟩, .bool true]) (by simp [results, Tryd.results19, cellV, zeroC, go_sem, *]) rfl ⟨rfl, ?_⟩
      repeat (first | (with_reducible refine Fp.drew' ?_) | (with_reducible refine Fp.setCell' ?_ (Or.inr (Nat.le_refl _)) _) | (with_reducible refine Fp.alloc' ?_ _) | (with_reducible exact HF6.out))
  · have hl := lineP_not h4
    rw [hl]
    obtain ⟨n, hn⟩ : ∃ n, (pieces 32 s).length = n := ⟨_, rfl⟩
    rw [hn] at hS h4
    have h4' : ¬ ((n : Nat) : Int) = 4 := by omega
    go_enter Tryd.func19, Tryd.ntmps19
    go_wp2_with (fail)
    (with_reducible refine (hS.out _ (HP.out.mx.fp (Fp.alloc _ _) List.not_mem_nil)).mono ?_)
    rintro e w1 ⟨B, rfl, hB, hrow, hf⟩
    have HC1 : Hid (CelIn w1 w.heap.size zeroC) := CelIn.fp (S := []) (heap_alloc_at rfl _) hf List.not_mem_nil
    have HF1 := Lib.hid ((Fp.alloc w _).trans hf (by simp))
    clear hf hrow hB hn
    obtain ⟨q0, q1, q2, q3, q4, q5, f0, f1, f2, f3, f4, f5⟩ := HC1.out.facts
    go_wp2_with (fail)
    refine bodyPost_ret (v := .tuple #[cellV zeroC, .bool false]) (by simp [results, Tryd.results19, cellV, zeroC, go_sem, *]) rfl ⟨rfl, ?_⟩
    repeat (first | (with_reducible refine Fp.drew' ?_) | (with_reducible refine Fp.setCell' ?_ (Or.inr (Nat.le_refl _)) _) | (with_reducible refine Fp.alloc' ?_ _) | (with_reducible exact HF1.out))
end Go.Proofs.YtfhjdfimkeogaaaDoor
