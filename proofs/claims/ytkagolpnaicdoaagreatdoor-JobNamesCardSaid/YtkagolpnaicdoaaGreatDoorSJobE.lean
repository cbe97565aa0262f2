/-
 job.Make, walked. job.hex: strings.Repeat of "0". strconv.FormatUint at base sixteen. job.hex, job.Name. layer 20's small case (plain).
-/
import Derived.Test.YtkagolpnaicdoaaGreatDoorSJobD
import Derived.Test.YtkagolpnaicdoaaGreatDoorSMaps
import Derived.Test.YtkagolpnaicdoaaGreatDoorRows
import Derived.Test.YtkagolpnaicdoaaGreatDoorSShelf
import Derived.Deep.CutRange
import Derived.WalkKit
import Derived.WalkSmall
import Derived.Test.YtkagolpnaicdoaaGreatDoorSRegion
import Derived.Lib.SmallJoins
import Derived.Test.YtkagolpnaicdoaaGreatDoorSWalQ
set_option maxRecDepth 100000
set_option maxHeartbeats 8000000
namespace Go.Proofs.YtkagolpnaicdoaaGreatDoor
section
open Go.RowKit Go.Lib
theorem jmake_any (w : World) (s : ByteArray) (m wid mo : Int) (ep : Int) (a2 : Option Addr) (n2 cap2 : Nat) (borders : List ByteArray)
  (hs : s.size ≤ 100000000) (hf20 : (cellsP s).1.length < 20) (hst : StrsAt w a2 n2 borders) (hn2 : n2 ≤ 900000) (hm : m < 2 ^ 63) (hwid : wid < 2 ^ 63) (hmo : mo < 2 ^ 63) (hpar : ParAt w) (htab : TabAt w) :
  Calls Tryz.prog 11 #[.string s, .slice a2 n2 cap2, .int .u64 ep, .int .i64 m, .int .i64 wid, .int .i64 mo] w fun e w' => Fp [] w w' ∧
   ((∃ files vF vS, e = .returned (.tuple #[.agg #[.int .u32 (moreN 0 s), .int .u64 ep, vF, vS], .int .i64 0]) ∧ MakeR s borders m wid mo 0 files ∧ OwnR 9 w' w.heap.size vF (files.map Value.string) ∧ OwnR 26 w' w.heap.size vS (files.map u32V)) ∨
    ∃ x : Nat, x ≠ 0 ∧ e = .returned (.tuple #[.agg #[.int .u32 0, .int .u64 0, .slice none 0 0, .slice none 0 0], .int .i64 x]) ∧ MakeR s borders m wid mo x []) := by
 have hmf : ∀ (fn : Fn) (first cap : Array Value) (w : World), (Instr.makeFunc fn first cap).run Tryz.prog w = .ok (.func fn first cap) w := fun _ _ _ _ => rfl
 have HPS := Lib.hid (fun w h => psum_any s w hs h)
 have HST := Lib.hid hst
 have HPAR := Lib.hid hpar
 have HTAB := Lib.hid htab
 clear hst hpar htab
 go_enter Tryz.func11, Tryz.ntmps11
 go_wp2_with (fail)
 obtain ⟨w0, hw0⟩ : ∃ x, ((((((w.alloc (.cells #[.string s] 9)).alloc (.cells #[.slice a2 n2 cap2] 22)).alloc (.cells #[.int .i64 m] 3)).alloc (.cells #[.int .i64 wid] 3)).alloc (.cells #[.int .i64 mo] 3)).alloc (.cells #[.int .u32 0, .int .u64 0, .slice none 0 0, .slice none 0 0] 29)) = x := ⟨_, rfl⟩
 have hf0 : Fp [] w w0 := by rw [← hw0]; exact (((((Fp.alloc _ _).alloc' _).alloc' _).alloc' _).alloc' _).alloc' _
 have hb0 : w0.heap[w.heap.size]? = some (.cells #[.string s] 9 (0, 0)) := by rw [← hw0]; exact heap_alloc_old (heap_alloc_old (heap_alloc_old (heap_alloc_old (heap_alloc_old (heap_alloc_at rfl _)))))
 have hb1 : w0.heap[w.heap.size + 1]? = some (.cells #[.slice a2 n2 cap2] 22 (0, 0)) := by rw [← hw0]; exact heap_alloc_old (heap_alloc_old (heap_alloc_old (heap_alloc_old (heap_alloc_at (by simp) _))))
 have hb2 : w0.heap[w.heap.size + 1 + 1]? = some (.cells #[.int .i64 m] 3 (0, 0)) := by rw [← hw0]; exact heap_alloc_old (heap_alloc_old (heap_alloc_old (heap_alloc_at (by simp) _)))
 have hb3 : w0.heap[w.heap.size + 1 + 1 + 1]? = some (.cells #[.int .i64 wid] 3 (0, 0)) := by rw [← hw0]; exact heap_alloc_old (heap_alloc_old (heap_alloc_at (by simp) _))
 have hb4 : w0.heap[w.heap.size + 1 + 1 + 1 + 1]? = some (.cells #[.int .i64 mo] 3 (0, 0)) := by rw [← hw0]; exact heap_alloc_old (heap_alloc_at (by simp) _)
 have hb5 : w0.heap[w.heap.size + 1 + 1 + 1 + 1 + 1]? = some (.cells #[.int .u32 0, .int .u64 0, .slice none 0 0, .slice none 0 0] 29 (0, 0)) := by rw [← hw0]; exact heap_alloc_at (by simp) _
 rw [hw0]
 have HF0 := Lib.hid hf0
 have HB0 := Lib.hid hb0
 have HB1 := Lib.hid hb1
 have HB2 := Lib.hid hb2
 have HB3 := Lib.hid hb3
 have HB4 := Lib.hid hb4
 have HB5 := Lib.hid hb5
 clear hw0 hf0 hb0 hb1 hb2 hb3 hb4 hb5
 (with_reducible refine (HPS.out _ (HTAB.out.fp HF0.out (by simp))).mono ?_)
 rintro e w1 ⟨rfl, hf1⟩
 have HF1 := Lib.hid hf1
 clear hf1
 go_wp2_with (fail)
 obtain ⟨w2, hw2⟩ : ∃ x, w1.alloc (.cells #[.int .u32 (moreN 0 s), .int .u64 ep, .slice none 0 0, .slice none 0 0] 29) = x := ⟨_, rfl⟩
 have hfa : Fp [] w1 w2 := by rw [← hw2]; exact Fp.alloc _ _
 have hp2 : w2.heap[w1.heap.size]? = some (.cells #[.int .u32 (moreN 0 s), .int .u64 ep, .slice none 0 0, .slice none 0 0] 29 (0, 0)) := by rw [← hw2]; exact heap_alloc_at rfl _
 rw [hw2]
 have HFT := Lib.hid (HF1.out.trans hfa (by simp))
 have HF2 := Lib.hid (HF0.out.trans HFT.out (by simp))
 have HP2 := Lib.hid hp2
 have hpw : w.heap.size + 1 + 1 + 1 + 1 + 1 < w1.heap.size := Nat.lt_of_lt_of_le (heap_lt HB5.out) HF1.out.size
 have hp2s : w1.heap.size < w2.heap.size := heap_lt hp2
 clear hw2 hfa hp2
 have hb5 : w2.heap[w.heap.size + 1 + 1 + 1 + 1 + 1]? = some (.cells #[.int .u32 0, .int .u64 0, .slice none 0 0, .slice none 0 0] 29 (0, 0)) := (HFT.out.block _ (heap_lt HB5.out) (by simp)).trans HB5.out
 have HB52 := Lib.hid hb5
 clear hb5
 refine (tried_any w2 46 _ (enters_of Tryz.func46 (by kernel_rfl) rfl)
  (fun A => Fp [w1.heap.size] w2 A ∧ ∃ files vF vS, MakeR s borders m wid mo 0 files ∧ A.heap[w1.heap.size]? = some (.cells #[.int .u32 (moreN 0 s), .int .u64 ep, vF, vS] 29 (0, 0)) ∧ OwnR 9 A (w2.heap.size + 1) vF (files.map Value.string) ∧ OwnR 26 A (w2.heap.size + 1) vS (files.map u32V))
  (fun x A => Fp [w1.heap.size] w2 A ∧ ∃ k : Nat, x = k ∧ MakeR s borders m wid mo k []) ?_ ?_ ?_).mono ?_
 ·intro W hf hsz hcell
  have hfw := HF2.out.trans hf (by simp)
  have hft := HFT.out.trans hf (by simp)
  have hg1 : 0 < w.heap.size := World.block_lt_of_cell? _ _ (HTAB.out 0 (by decide))
  have hg2 : 2 < w.heap.size := by
   obtain ⟨mx, hmx⟩ := HPAR.out.mx
   exact World.block_lt_of_cell? _ _ hmx
  refine (makeC_any W (w.heap.size) (w.heap.size + 1 + 1) (w.heap.size + 1 + 1 + 1) (w.heap.size + 1) (w.heap.size + 1 + 1 + 1 + 1) (w1.heap.size) s m wid mo a2 n2 cap2 borders (.int .u32 (moreN 0 s)) (.int .u64 ep)
   ((hft.block _ (heap_lt HB0.out) (by simp)).trans HB0.out) ((hft.block _ (heap_lt HB2.out) (by simp)).trans HB2.out) ((hft.block _ (heap_lt HB3.out) (by simp)).trans HB3.out) ((hft.block _ (heap_lt HB1.out) (by simp)).trans HB1.out) ((hft.block _ (heap_lt HB4.out) (by simp)).trans HB4.out) ((hf.block _ (heap_lt HP2.out) (by simp)).trans HP2.out)
   hs hf20 (HST.out.of_fp hfw) hn2 hm hwid hmo ⟨HPAR.out.mx.fp hfw (by simp), HPAR.out.er.fp hfw (by simp) (by simp)⟩ (HTAB.out.fp hfw (by simp)) (by omega) (by omega)).mono ?_
  rintro e W' ⟨hf3, hr⟩
  refine ⟨(hf3.block _ (heap_lt hcell) (by simp; omega)).trans hcell, ?_⟩
  have hf4 : Fp [w1.heap.size] w2 W' := (hf.mono (by simp) : Fp [w1.heap.size] w2 W).trans hf3 (by simp)
  rcases hr with ⟨⟨v, rfl⟩, files, vF, vS, h1, h2, h3, h4⟩ | ⟨x, hx, rfl, h1⟩
  ·exact Or.inl ⟨⟨v, rfl⟩, hf4, files, vF, vS, h1, h2, h3.mono hsz, h4.mono hsz⟩
  ·exact Or.inr ⟨(x : Int), by omega, rfl, hf4, x, rfl, h1⟩
 ·rintro A B ⟨h0, files, vF, vS, h1, h2, h3, h4⟩ hf
  exact ⟨h0.trans hf (by simp), files, vF, vS, h1, (hf.block _ (heap_lt h2) (by simp; omega)).trans h2, h3.fp hf (by simp), h4.fp hf (by simp)⟩
 ·rintro x A B ⟨h0, k, h1, h2⟩ hf
  exact ⟨h0.trans hf (by simp), k, h1, h2⟩
 rintro e w3 (⟨rfl, hf3, files, vF, vS, h1, h2, h3, h4⟩ | ⟨x, hx, rfl, hf3, k, rfl, h1⟩)
 ·obtain ⟨fa, fn, fc, rfl⟩ := h3.sl
  obtain ⟨sa, sn, sc, rfl⟩ := h4.sl
  have hb5 : w3.heap[w.heap.size + 1 + 1 + 1 + 1 + 1]? = some (.cells #[.int .u32 0, .int .u64 0, .slice none 0 0, .slice none 0 0] 29 (0, 0)) := (hf3.block _ (heap_lt HB52.out) (by simp; omega)).trans HB52.out
  have q0 : w3.cell? ⟨w1.heap.size, 0, none⟩ = some (.int .u32 (moreN 0 s)) := cell_of_block h2 0
  have q1 : w3.cell? ⟨w1.heap.size, 1, none⟩ = some (.int .u64 ep) := cell_of_block h2 1
  have q2 : w3.cell? ⟨w1.heap.size, 2, none⟩ = some (.slice fa fn fc) := cell_of_block h2 2
  have q3 : w3.cell? ⟨w1.heap.size, 3, none⟩ = some (.slice sa sn sc) := cell_of_block h2 3
  have r0 : w3.cell? ⟨w.heap.size + 1 + 1 + 1 + 1 + 1, 0, none⟩ = some (.int .u32 0) := cell_of_block hb5 0
  have r1 : w3.cell? ⟨w.heap.size + 1 + 1 + 1 + 1 + 1, 1, none⟩ = some (.int .u64 0) := cell_of_block hb5 1
  have r2 : w3.cell? ⟨w.heap.size + 1 + 1 + 1 + 1 + 1, 2, none⟩ = some (.slice none 0 0) := cell_of_block hb5 2
  have r3 : w3.cell? ⟨w.heap.size + 1 + 1 + 1 + 1 + 1, 3, none⟩ = some (.slice none 0 0) := cell_of_block hb5 3
  have f0 : w3.frozen? ⟨w.heap.size + 1 + 1 + 1 + 1 + 1, 0, none⟩ = false := frozen_of_block hb5 0
  have f1 : w3.frozen? ⟨w.heap.size + 1 + 1 + 1 + 1 + 1, 1, none⟩ = false := frozen_of_block hb5 1
  have f2 : w3.frozen? ⟨w.heap.size + 1 + 1 + 1 + 1 + 1, 2, none⟩ = false := frozen_of_block hb5 2
  have f3 : w3.frozen? ⟨w.heap.size + 1 + 1 + 1 + 1 + 1, 3, none⟩ = false := frozen_of_block hb5 3
  have HB6 := Lib.hid hb5
  have HM := Lib.hid h1
  have H3 := Lib.hid h3
  have H4 := Lib.hid h4
  have HF3 := Lib.hid hf3
  clear hb5 h1 h2 h3 h4 hf3
  go_wp2_with (fail)
  have hfz : Fp [] w w3 := HF2.out.trans HF3.out (by intro i hi; right; simp at hi; omega)
  have hz : ∀ (A : World) (o : Nat) (v : Value), Fp [] w A → Fp [] w (A.setCell ⟨w.heap.size + 1 + 1 + 1 + 1 + 1, o, none⟩ v) := fun A o v h => h.trans (Fp.setCell A ⟨w.heap.size + 1 + 1 + 1 + 1 + 1, o, none⟩ v) (by intro i hi; right; simp at hi; omega)
  have ho : ∀ (e : TypeId) (x : Value) (l : List Value) (A : World) (o : Nat) (v : Value), OwnR e A (w2.heap.size + 1) x l → OwnR e (A.setCell ⟨w.heap.size + 1 + 1 + 1 + 1 + 1, o, none⟩ v) (w2.heap.size + 1) x l := fun e x l A o v h => h.fp (Fp.setCell A ⟨w.heap.size + 1 + 1 + 1 + 1 + 1, o, none⟩ v) (by simp; omega)
  refine bodyPost_ret (v := .tuple #[.agg #[.int .u32 (moreN 0 s), .int .u64 ep, .slice fa fn fc, .slice sa sn sc], .int .i64 0]) (by simp [results, Tryz.results11, go_sem, *]) rfl ?_
  exact ⟨hz _ _ _ (hz _ _ _ (hz _ _ _ (hz _ _ _ hfz))), Or.inl ⟨files, _, _, rfl, HM.out, (ho _ _ _ _ _ _ (ho _ _ _ _ _ _ (ho _ _ _ _ _ _ (ho _ _ _ _ _ _ H3.out)))).mono (by omega), (ho _ _ _ _ _ _ (ho _ _ _ _ _ _ (ho _ _ _ _ _ _ (ho _ _ _ _ _ _ H4.out)))).mono (by omega)⟩⟩
 ·have hb5 : w3.heap[w.heap.size + 1 + 1 + 1 + 1 + 1]? = some (.cells #[.int .u32 0, .int .u64 0, .slice none 0 0, .slice none 0 0] 29 (0, 0)) := (hf3.block _ (heap_lt HB52.out) (by simp; omega)).trans HB52.out
  have r0 : w3.cell? ⟨w.heap.size + 1 + 1 + 1 + 1 + 1, 0, none⟩ = some (.int .u32 0) := cell_of_block hb5 0
  have r1 : w3.cell? ⟨w.heap.size + 1 + 1 + 1 + 1 + 1, 1, none⟩ = some (.int .u64 0) := cell_of_block hb5 1
  have r2 : w3.cell? ⟨w.heap.size + 1 + 1 + 1 + 1 + 1, 2, none⟩ = some (.slice none 0 0) := cell_of_block hb5 2
  have r3 : w3.cell? ⟨w.heap.size + 1 + 1 + 1 + 1 + 1, 3, none⟩ = some (.slice none 0 0) := cell_of_block hb5 3
  have f0 : w3.frozen? ⟨w.heap.size + 1 + 1 + 1 + 1 + 1, 0, none⟩ = false := frozen_of_block hb5 0
  have f1 : w3.frozen? ⟨w.heap.size + 1 + 1 + 1 + 1 + 1, 1, none⟩ = false := frozen_of_block hb5 1
  have f2 : w3.frozen? ⟨w.heap.size + 1 + 1 + 1 + 1 + 1, 2, none⟩ = false := frozen_of_block hb5 2
  have f3 : w3.frozen? ⟨w.heap.size + 1 + 1 + 1 + 1 + 1, 3, none⟩ = false := frozen_of_block hb5 3
  have hk0 : k ≠ 0 := by omega
  have hkb : (((k : Nat) : Int) != 0) = true := bne_iff_ne.2 (by omega)
  have HM := Lib.hid h1
  have HF3 := Lib.hid hf3
  clear hb5 h1 hf3 hx
  go_wp2_with (fail)
  have hfz : Fp [] w w3 := HF2.out.trans HF3.out (by intro i hi; right; simp at hi; omega)
  have hz : ∀ (A : World) (o : Nat) (v : Value), Fp [] w A → Fp [] w (A.setCell ⟨w.heap.size + 1 + 1 + 1 + 1 + 1, o, none⟩ v) := fun A o v h => h.trans (Fp.setCell A ⟨w.heap.size + 1 + 1 + 1 + 1 + 1, o, none⟩ v) (by intro i hi; right; simp at hi; omega)
  refine bodyPost_ret (v := .tuple #[.agg #[.int .u32 0, .int .u64 0, .slice none 0 0, .slice none 0 0], .int .i64 k]) (by simp [results, Tryz.results11, go_sem, *]) rfl ?_
  exact ⟨hz _ _ _ (hz _ _ _ (hz _ _ _ (hz _ _ _ hfz))), Or.inr ⟨k, hk0, rfl, HM.out⟩⟩
end
section
open Go.RowKit Go.Lib
theorem mul_small (w : World) (k : Nat) (hk : k ≤ 16) : Calls Tryz.prog 173 #[.int .u64 1, .int .u64 k] w fun e w' => e = .returned (.tuple #[.int .u64 0, .int .u64 k]) ∧ w' = w := by
 have z1 : bits BinOp.and IntKind.u64 1 4294967295 = 1 := by decide
 have z0 : bits BinOp.and IntKind.u64 0 4294967295 = 0 := by decide
 have z2 : bits BinOp.and IntKind.u64 (k : Int) 4294967295 = (k : Int) := by
  have h : ∀ k : Nat, k < 17 → bits BinOp.and IntKind.u64 (k : Int) 4294967295 = (k : Int) := by decide
  exact h k (by omega)
 have z3 : IntKind.u64.wrap (k : Int) = (k : Int) := by rw [IntKind.wrap_u64]; omega
 have z4 : (k : Int) / 4294967296 = 0 := by omega
 have z5 : IntKind.u64.wrap 0 = 0 := rfl
 go_enter Tryz.func173, Tryz.ntmps173
 go_wp2
 refine bodyPost_ret (v := .tuple #[.int .u64 0, .int .u64 k]) (by simp [results, Tryz.results173, go_sem]) rfl ?_
 exact ⟨rfl, rfl⟩
theorem prefix_zero (w : World) (s : ByteArray) (b : Bool) (h0 : (decide (1 ≤ s.size)) = true) (hb : ((s.extract 0 1).toList == [48]) = b) : Calls Tryz.prog 174 #[.string s, .string ⟨#[48]⟩] w fun e w' => e = .returned (.bool b) ∧ w' = w := by
 have h1 : 1 ≤ s.size := of_decide_eq_true h0
 have z0 : (1 : Int) ≤ (s.size : Int) := by omega
 go_enter Tryz.func174, Tryz.ntmps174
 go_wp2
 refine bodyPost_ret (v := .bool b) (by simp [results, Tryz.results174, go_sem]) rfl ?_
 exact ⟨rfl, rfl⟩
def zerosB (k : Nat) : ByteArray := ⟨Array.replicate k 48⟩
theorem zeros_cut (k : Nat) (hk : k < 17) : (⟨Array.replicate 64 48⟩ : ByteArray).extract 0 k = zerosB k := by
 have h : ∀ k : Nat, k < 17 → ((⟨Array.replicate 64 48⟩ : ByteArray).extract 0 k).data.toList = (zerosB k).data.toList := by decide +kernel
 have := h k hk
 exact ByteArray.ext (Array.toList_inj.1 this)
theorem zeros_any (w : World) (k : Nat) (hk : k ≤ 16) : Calls Tryz.prog 112 #[.string ⟨#[48]⟩, .int .i64 k] w fun e w' => e = .returned (.string (zerosB k)) ∧ w' = w := by
 have HM := Lib.hid (fun w => mul_small w k hk)
 have HPX := Lib.hid prefix_zero
 by_cases h0 : k = 0
 ·subst h0
  go_enter Tryz.func112, Tryz.ntmps112
  go_wp2_with (fail)
  refine bodyPost_ret (v := .string ⟨#[]⟩) (by simp [results, Tryz.results112, go_sem]) rfl ?_
  exact ⟨rfl, rfl⟩
 ·by_cases h1 : k = 1
  ·subst h1
   go_enter Tryz.func112, Tryz.ntmps112
   go_wp2_with (fail)
   refine bodyPost_ret (v := .string ⟨#[48]⟩) (by simp [results, Tryz.results112, go_sem]) rfl ?_
   exact ⟨rfl, rfl⟩
  ·have z0 : ((k : Int) == 0) = false := beq_eq_false_iff_ne.2 (by omega)
   have z1 : ((k : Int) == 1) = false := beq_eq_false_iff_ne.2 (by omega)
   have z2 : ¬ (k : Int) < 0 := by omega
   have z3 : ¬ (9223372036854775807 : Int) < k := by omega
   have z4 : (k : Int) ≤ 64 := by omega
   have z5 : (k : Int) ≤ 128 := by omega
   have z6 : IntKind.u64.wrap (k : Int) = (k : Int) := by rw [IntKind.wrap_u64]; omega
   have z7 : IntKind.i64.wrap (k : Int) = (k : Int) := by rw [IntKind.wrap_i64]; omega
   go_enter Tryz.func112, Tryz.ntmps112
   go_wp2_with (fail)
   (with_reducible refine (HM.out _).mono ?_)
   rintro e w1 ⟨rfl, rfl⟩
   go_wp2_with (fail)
   (with_reducible refine (HPX.out _ _ false (by kernel_rfl) (by kernel_rfl)).mono ?_)
   rintro e w2 ⟨rfl, rfl⟩
   go_wp2_with (fail)
   (with_reducible refine (HPX.out _ _ false (by kernel_rfl) (by kernel_rfl)).mono ?_)
   rintro e w3 ⟨rfl, rfl⟩
   go_wp2_with (fail)
   (with_reducible refine (HPX.out _ _ true (by kernel_rfl) (by kernel_rfl)).mono ?_)
   rintro e w4 ⟨rfl, rfl⟩
   go_wp2_with (fail)
   refine bodyPost_ret (by simp [results, Tryz.results112, go_sem]; rfl) rfl ?_
   refine ⟨?_, rfl⟩
   congr 2
   exact zeros_cut k (by omega)
end
section
open Go.RowKit Go.Lib
def hexDig (d : Nat) : UInt8 := if d < 10 then UInt8.ofNat (48 + d) else UInt8.ofNat (87 + d)
def hexL (n : Nat) : List UInt8 := if n < 16 then [hexDig n] else hexL (n / 16) ++ [hexDig (n % 16)]
 termination_by n
 decreasing_by omega
theorem hexL_small {n : Nat} (h : n < 16) : hexL n = [hexDig n] := by rw [hexL, if_pos h]
theorem hexL_big {n : Nat} (h : ¬ n < 16) : hexL n = hexL (n / 16) ++ [hexDig (n % 16)] := by rw [hexL, if_neg h]
def TzAt (w : World) : Prop := w.cell? ⟨6, 15, none⟩ = some (.int .u8 4)
theorem TzAt.fp {w w' : World} {S : List Nat} (h : TzAt w) (hf : Fp S w w') (hs : 6 ∉ S) : TzAt w' :=
 (hf.cell (p := ⟨6, 15, none⟩) (World.block_lt_of_cell? _ _ h) hs).trans h
theorem trail_sixteen (w : World) (h : TzAt w) : Calls Tryz.prog 248 #[.int .u64 16] w fun e w' => e = .returned (.int .i64 4) ∧ w' = w := by
 have z1 : bits BinOp.and IntKind.u64 16 (IntKind.u64.wrap (-16)) = 16 := by decide
 have z2 : IntKind.u64.wrap (16 * 285870213051353865) / 288230376151711744 = 15 := by decide
 have q0 : w.cell? ⟨6, 15, none⟩ = some (.int .u8 4) := h
 go_enter Tryz.func248, Tryz.ntmps248
 go_wp2
 refine bodyPost_ret (v := .int .i64 4) (by simp [results, Tryz.results248, go_sem]) rfl ?_
 exact ⟨rfl, rfl⟩
theorem pow_sixteen (w : World) : Calls Tryz.prog 247 #[.int .i64 16] w fun e w' => e = .returned (.bool true) ∧ w' = w := by
 have z1 : bits BinOp.and IntKind.i64 16 15 = 0 := by decide
 go_enter Tryz.func247, Tryz.ntmps247
 go_wp2
 refine bodyPost_ret (v := .bool true) (by simp [results, Tryz.results247, go_sem]) rfl ?_
 exact ⟨rfl, rfl⟩
def u8V (b : UInt8) : Value := .int .u8 (b.toNat : Int)
def digitsB : ByteArray := ⟨#[48, 49, 50, 51, 52, 53, 54, 55, 56, 57, 97, 98, 99, 100, 101, 102, 103, 104, 105, 106, 107, 108, 109, 110, 111, 112, 113, 114, 115, 116, 117, 118, 119, 120, 121, 122]⟩
def hexCells (i : Nat) (ds : List UInt8) : Array Value := (List.replicate i (Value.int .u8 0) ++ ds.map u8V).toArray
theorem hexCells_set {i : Nat} {ds : List UInt8} (d : UInt8) : (hexCells (i + 1) ds).setIfInBounds i (u8V d) = hexCells i (d :: ds) := by
 unfold hexCells
 rw [List.setIfInBounds_toArray, List.replicate_succ', List.append_assoc, List.set_append, if_neg (by simp), List.length_replicate, Nat.sub_self]
 rfl
theorem hexCells_get {i k : Nat} {ds : List UInt8} (h : k < i) : (hexCells i ds)[k]? = some (.int .u8 0) := by
 unfold hexCells
 rw [List.getElem?_toArray, List.getElem?_append_left (by simpa using h), List.getElem?_replicate, if_pos h]
theorem hexbits_any (u : Nat) (hu : u < 18446744073709551616) (w : World) (htz : TzAt w) :
  Calls Tryz.prog 197 #[.slice none 0 0, .int .u64 u, .int .i64 16, .bool false, .bool false] w fun e w' => e = .returned (.tuple #[.slice none 0 0, .string ⟨(hexL u).toArray⟩]) ∧ Fp [] w w' := by
 have HT := Lib.hid trail_sixteen
 have HPW := Lib.hid pow_sixteen
 have HTZ := Lib.hid htz
 clear htz
 go_enter Tryz.func197, Tryz.ntmps197
 go_wp2_with (fail)
 (with_reducible refine (HPW.out _).mono ?_)
 rintro e w1 ⟨rfl, rfl⟩
 go_wp2_with (fail)
 (with_reducible refine (HT.out _ (HTZ.out.fp (Fp.alloc _ _) (by simp))).mono ?_)
 rintro e w2 ⟨rfl, rfl⟩
 go_wp2_with (fail)
 go_loopg [1, 13] u (fun g vu vi W => ∃ (n i : Nat) (ds : List UInt8), g = n ∧ vu = .int .u64 n ∧ vi = .int .i64 i ∧ n < 18446744073709551616 ∧ hexL u = hexL n ++ ds ∧ ds.length + i = 65 ∧ 49 ≤ i ∧ n < 16 ^ (i - 49) ∧ W.heap[w.heap.size]? = some (.cells (hexCells i ds) 306 (0, 0)) ∧ Fp [] w W)
 case atStart => exact ⟨u, 65, [], rfl, rfl, rfl, hu, by rw [List.append_nil], rfl, by decide, by simpa using hu, by rw [heap_alloc_at rfl _]; rfl, Fp.alloc _ _⟩
 case round =>
  obtain ⟨n, i, ds, hg, rfl, rfl, hn, hx, hl, hi, hb, hc, hf⟩ := hrel
  have HX := Lib.hid hx
  have HC := Lib.hid hc
  have HF := Lib.hid hf
  have HG := Lib.hid hg
  have HL := Lib.hid hl
  have HB := Lib.hid hb
  clear hx hc hf hg hl hb
  by_cases hbig : 16 ≤ n
  ·have z0 : (16 : Int) ≤ (n : Int) := by omega
   obtain ⟨k, rfl⟩ : ∃ k, i = k + 1 := ⟨i - 1, by omega⟩
   have hk64 : k ≤ 64 := by have := HL.out; omega
   have z1 : IntKind.i64.wrap (k : Int) = (k : Int) := by rw [IntKind.wrap_i64]; omega
   have z3 : wrap64 (k : Int) = (k : Int) := by unfold wrap64; omega
   have z2 : bits BinOp.and IntKind.u64 (n : Int) 15 = ((n % 16 : Nat) : Int) := by
    have h := bits_and_u64_nat n 15 (by omega) (by omega)
    rw [show n &&& 15 = n % 16 from Nat.and_two_pow_sub_one_eq_mod n 4] at h
    exact h
   have q0 : wr.cell? ⟨w.heap.size, k, none⟩ = some (.int .u8 0) := (cell_of_block HC.out k).trans (hexCells_get (Nat.lt_succ_self k))
   have f0 : wr.frozen? ⟨w.heap.size, k, none⟩ = false := frozen_of_block HC.out k
   have hdg : ∀ d (h : d < 16), digitsB[d]'(Nat.lt_of_lt_of_le h (by decide)) = hexDig d := by decide
   go_wp2_with (fail)
   go_roundg (n / 16)
   case measure => have := HG.out; omega
   case rel =>
    refine ⟨n / 16, k, hexDig (n % 16) :: ds, rfl, rfl, rfl, by omega, ?_, by have := HL.out; simp; omega, ?_, ?_, ?_, HF.out.trans (Fp.setCell _ ⟨w.heap.size, k, none⟩ _) (by intro i hi; right; simp at hi; omega)⟩
    ·rw [HX.out, hexL_big (by omega), List.append_assoc]; rfl
    ·by_cases h49 : k + 1 - 49 = 0
     ·have := HB.out
      rw [h49] at this
      omega
     ·omega
    ·have h1 := HB.out
     have h49 : k + 1 - 49 ≠ 0 := by
      intro h49
      rw [h49] at h1
      omega
     rw [show k + 1 - 49 = (k - 49) + 1 by omega, Nat.pow_succ] at h1
     omega
    ·rw [← hexCells_set, ← hdg (n % 16) (by omega)]
     exact (heap_setCell_same HC.out _).trans rfl
  ·have z0 : ¬ (16 : Int) ≤ (n : Int) := by omega
   obtain ⟨k, rfl⟩ : ∃ k, i = k + 1 := ⟨i - 1, by omega⟩
   have hk64 : k ≤ 64 := by have := HL.out; omega
   have z1 : IntKind.i64.wrap (k : Int) = (k : Int) := by rw [IntKind.wrap_i64]; omega
   have z3 : wrap64 (k : Int) = (k : Int) := by unfold wrap64; omega
   have q0 : wr.cell? ⟨w.heap.size, k, none⟩ = some (.int .u8 0) := (cell_of_block HC.out k).trans (hexCells_get (Nat.lt_succ_self k))
   have f0 : wr.frozen? ⟨w.heap.size, k, none⟩ = false := frozen_of_block HC.out k
   have hal : Tryz.prog.arrayLen 306 = 65 := by simp [Program.arrayLen, Tryz.underlying306]
   have hsl : ∀ W, (Instr.sliceAt 306 (.pointer (some ⟨w.heap.size, 0, none⟩)) (some (.int .i64 (k : Int))) none none).run Tryz.prog W = .ok (.slice (some ⟨w.heap.size, k, none⟩) (65 - k) (65 - k)) W := fun W => by
    rw [run_sliceAt_array_l W 306 ⟨w.heap.size, 0, none⟩ (by simp [Program.arrayLen, Program.elem, Tryz.underlying306]) .i64 (k : Int) (by omega) (by rw [hal]; omega)]
    go_simp
    omega
   have hn16 : n < 16 := by omega
   have hdg : ∀ d (h : d < 16), (⟨#[48, 49, 50, 51, 52, 53, 54, 55, 56, 57, 97, 98, 99, 100, 101, 102, 103, 104, 105, 106, 107, 108, 109, 110, 111, 112, 113, 114, 115, 116, 117, 118, 119, 120, 121, 122]⟩ : ByteArray)[d]'(Nat.lt_of_lt_of_le h (by decide)) = hexDig d := by decide
   have hdn : (⟨#[48, 49, 50, 51, 52, 53, 54, 55, 56, 57, 97, 98, 99, 100, 101, 102, 103, 104, 105, 106, 107, 108, 109, 110, 111, 112, 113, 114, 115, 116, 117, 118, 119, 120, 121, 122]⟩ : ByteArray)[n]'(Nat.lt_of_lt_of_le hn16 (by decide)) = hexDig n := hdg n hn16
   have hblk : (wr.setCell ⟨w.heap.size, k, none⟩ (.int .u8 ((hexDig n).toNat : Int))).heap[w.heap.size]? = some (.cells (hexCells k (hexDig n :: ds)) 306 (0, 0)) := by
    rw [← hexCells_set]
    exact (heap_setCell_same HC.out _).trans rfl
   have hxl : hexL u = hexDig n :: ds := by rw [HX.out, hexL_small hn16]; rfl
   have hlen : 65 - k = (hexL u).length := by rw [hxl]; have := HL.out; simp; omega
   have hcv : (convert 113 9 (.slice (some ⟨w.heap.size, k, none⟩) (65 - k) (65 - k))).run Tryz.prog (wr.setCell ⟨w.heap.size, k, none⟩ (.int .u8 ((hexDig n).toNat : Int))) = .ok (.string ⟨(hexL u).toArray⟩) (wr.setCell ⟨w.heap.size, k, none⟩ (.int .u8 ((hexDig n).toNat : Int))) := by
    rw [hlen]
    refine run_convert_bytes_back _ 113 9 5 ⟨w.heap.size, k, none⟩ _ (hexL u) Tryz.underlying113 Tryz.underlying5 Tryz.underlying9 fun j hj => ?_
    rw [Lib.add_plain, cell_of_block hblk]
    unfold hexCells
    rw [List.getElem?_toArray, List.getElem?_append_right (by simp)]
    simp only [List.length_replicate, Nat.add_sub_cancel_left]
    rw [← hxl, List.getElem?_map, List.getElem?_eq_getElem hj]
    rfl
   have HXL := Lib.hid hxl
   clear hal hdg hblk hxl hlen
   go_wp2_with (fail)
   refine bodyPost_ret (v := .tuple #[.slice none 0 0, .string ⟨(hexL u).toArray⟩]) (by simp [results, Tryz.results197, go_sem]) rfl ?_
   exact ⟨rfl, HF.out.trans (Fp.setCell _ ⟨w.heap.size, k, none⟩ _) (by intro i hi; right; simp at hi; omega)⟩
end
section
open Go.RowKit Go.Lib
theorem ihexfmt_any (u : Nat) (hu : u < 18446744073709551616) (w : World) (htz : TzAt w) :
  Calls Tryz.prog 121 #[.int .u64 u, .int .i64 16] w fun e w' => e = .returned (.string ⟨(hexL u).toArray⟩) ∧ Fp [] w w' := by
 have H := Lib.hid (hexbits_any u hu w htz)
 clear htz
 go_enter Tryz.func121, Tryz.ntmps121
 go_wp2_with (fail)
 (with_reducible refine H.out.mono ?_)
 rintro e w1 ⟨rfl, hf⟩
 have HF := Lib.hid hf
 clear hf
 go_wp2_with (fail)
 go_ret
 exact ⟨rfl, HF.out⟩
theorem hexfmt_any (u : Nat) (hu : u < 18446744073709551616) (w : World) (htz : TzAt w) :
  Calls Tryz.prog 69 #[.int .u64 u, .int .i64 16] w fun e w' => e = .returned (.string ⟨(hexL u).toArray⟩) ∧ Fp [] w w' := by
 have H := Lib.hid (ihexfmt_any u hu w htz)
 clear htz
 go_enter Tryz.func69, Tryz.ntmps69
 go_wp2_with (fail)
 (with_reducible refine H.out.mono ?_)
 rintro e w1 ⟨rfl, hf⟩
 have HF := Lib.hid hf
 clear hf
 go_wp2_with (fail)
 go_ret
 exact ⟨rfl, HF.out⟩
theorem hexL_len : ∀ (k u : Nat), 1 ≤ k → u < 16 ^ k → (hexL u).length ≤ k
 |0, _, h, _ => absurd h (by decide)
 |k + 1, u, _, hu => by
  by_cases h : u < 16
  ·rw [hexL_small h]; exact Nat.succ_le_succ (Nat.zero_le _)
  ·rw [hexL_big h, List.length_append, List.length_singleton]
   rw [Nat.pow_succ] at hu
   have hk : 1 ≤ k := by
    rcases Nat.eq_zero_or_pos k with rfl | h1
    ·simp at hu; omega
    ·exact h1
   have := hexL_len k (u / 16) hk (by omega)
   omega
def hexN (u many : Nat) : ByteArray := zerosB (many - (hexL u).length) ++ ⟨(hexL u).toArray⟩
theorem hex_any (u many : Nat) (hm : many ≤ 16) (h1 : 1 ≤ many) (hu : u < 16 ^ many) (w : World) (htz : TzAt w) :
  Calls Tryz.prog 58 #[.int .u64 u, .int .i64 many] w fun e w' => e = .returned (.string (hexN u many)) ∧ Fp [] w w' := by
 have hu64 : u < 18446744073709551616 := Nat.lt_of_lt_of_le hu (Nat.pow_le_pow_right (by decide) hm)
 have hlen := hexL_len many u h1 hu
 obtain ⟨n, hn⟩ : ∃ n, (hexL u).length = n := ⟨_, rfl⟩
 have hsz : (⟨(hexL u).toArray⟩ : ByteArray).size = n := by rw [← hn]; rfl
 have H := Lib.hid (hexfmt_any u hu64 w htz)
 have HZ := Lib.hid (fun w => zeros_any w (many - n) (by omega))
 have HN : Hid (hexN u many = zerosB (many - n) ++ ⟨(hexL u).toArray⟩) := by rw [← hn]; exact Lib.hid rfl
 rw [HN.out]
 have z1 : (many : Int) - (n : Int) = ((many - n : Nat) : Int) := by omega
 obtain ⟨r, hr⟩ : ∃ r : ByteArray, (⟨(hexL u).toArray⟩ : ByteArray) = r := ⟨_, rfl⟩
 rw [hr] at H hsz ⊢
 have hzs : (zerosB (many - n)).size = many - n := by unfold zerosB; exact Array.size_replicate ..
 have hno : (zerosB (many - n)).size + r.size ≤ 9223372036854775807 := by omega
 have HZS := Lib.hid hzs
 clear htz hn hlen hr hzs
 have hno2 : ¬ 9223372036854775807 < (zerosB (many - n)).size + r.size := by omega
 go_enter Tryz.func58, Tryz.ntmps58
 go_wp2_with (fail)
 (with_reducible refine H.out.mono ?_)
 rintro e w1 ⟨rfl, hf⟩
 have HF := Lib.hid hf
 clear hf
 go_wp2_with (fail)
 (with_reducible refine (HZ.out _).mono ?_)
 rintro e w2 ⟨rfl, rfl⟩
 go_wp2_with (fail)
 go_ret
 exact ⟨rfl, HF.out⟩
theorem hexN_size (u many : Nat) (h1 : 1 ≤ many) (hu : u < 16 ^ many) : (hexN u many).size = many := by
 have h := hexL_len many u h1 hu
 unfold hexN
 rw [ByteArray.size_append]
 have e1 : (zerosB (many - (hexL u).length)).size = many - (hexL u).length := by unfold zerosB; exact Array.size_replicate ..
 have e2 : (⟨(hexL u).toArray⟩ : ByteArray).size = (hexL u).length := rfl
 omega
def nameP (id ep k : Nat) : ByteArray := ((((⟨#[115]⟩ : ByteArray) ++ hexN id 16) ++ ⟨#[45]⟩) ++ hexN ep 16) ++ ⟨#[45]⟩ ++ hexN k 4
theorem jname_any (id ep k : Nat) (hid : id < 18446744073709551616) (hep : ep < 18446744073709551616) (hk : k < 65536) (w : World) (htz : TzAt w) :
  Calls Tryz.prog 15 #[.int .u64 id, .int .u64 ep, .int .u16 k] w fun e w' => e = .returned (.string (nameP id ep k)) ∧ Fp [] w w' := by
 have H1 : Hid (∀ w, TzAt w → Calls Tryz.prog 58 #[.int .u64 id, .int .i64 16] w fun e w' => e = .returned (.string (hexN id 16)) ∧ Fp [] w w') := Lib.hid (fun w h => hex_any id 16 (by decide) (by decide) (by simpa using hid) w h)
 have H2 : Hid (∀ w, TzAt w → Calls Tryz.prog 58 #[.int .u64 ep, .int .i64 16] w fun e w' => e = .returned (.string (hexN ep 16)) ∧ Fp [] w w') := Lib.hid (fun w h => hex_any ep 16 (by decide) (by decide) (by simpa using hep) w h)
 have H3 : Hid (∀ w, TzAt w → Calls Tryz.prog 58 #[.int .u64 k, .int .i64 4] w fun e w' => e = .returned (.string (hexN k 4)) ∧ Fp [] w w') := Lib.hid (fun w h => hex_any k 4 (by decide) (by decide) (by simpa using hk) w h)
 have s1 := hexN_size id 16 (by decide) (by simpa using hid)
 have s2 := hexN_size ep 16 (by decide) (by simpa using hep)
 have s3 := hexN_size k 4 (by decide) (by simpa using hk)
 have HT := Lib.hid htz
 unfold nameP
 obtain ⟨x1, e1⟩ : ∃ x, hexN id 16 = x := ⟨_, rfl⟩
 obtain ⟨x2, e2⟩ : ∃ x, hexN ep 16 = x := ⟨_, rfl⟩
 obtain ⟨x3, e3⟩ : ∃ x, hexN k 4 = x := ⟨_, rfl⟩
 rw [e1] at H1 s1
 rw [e2] at H2 s2
 rw [e3] at H3 s3
 rw [e1, e2, e3]
 clear htz e1 e2 e3
 go_enter Tryz.func15, Tryz.ntmps15
 go_wp2_with (fail)
 (with_reducible refine (H1.out _ HT.out).mono ?_)
 rintro e w1 ⟨rfl, hf1⟩
 have HF1 := Lib.hid hf1
 clear hf1
 have z16 : IntKind.u64.wrap (k : Int) = (k : Int) := by rw [IntKind.wrap_u64]; omega
 go_wp2_with (fail)
 (with_reducible refine (H2.out _ (HT.out.fp HF1.out (by simp))).mono ?_)
 rintro e w2 ⟨rfl, hf2⟩
 have HF2 := Lib.hid (HF1.out.trans hf2 (by simp))
 clear hf2
 go_wp2_with (fail)
 (with_reducible refine (H3.out _ (HT.out.fp HF2.out (by simp))).mono ?_)
 rintro e w3 ⟨rfl, hf3⟩
 have HF3 := Lib.hid (HF2.out.trans hf3 (by simp))
 clear hf3
 go_wp2_with (fail)
 go_ret
 exact ⟨rfl, HF3.out⟩
end
section
open Go.RowKit
def shIn : ByteArray := ⟨#[122, 32, 99, 32, 49, 32, 61, 118, 10, 97, 32, 99, 32, 49, 32, 61, 119, 10]⟩
def shM : ByteArray := ⟨#[109]⟩
def shZ : Cel := ⟨⟨#[122]⟩, ⟨#[99]⟩, 1, 0, false, ⟨#[118]⟩⟩
def shA : Cel := ⟨⟨#[97]⟩, ⟨#[99]⟩, 1, 0, false, ⟨#[119]⟩⟩
theorem shIn_is : cellsP shIn = ([shZ, shA], 0, 0) := by kernel_rfl
theorem shZ_ok : CelOK shZ := ⟨by decide, by decide, by decide, by decide, by decide⟩
theorem shA_ok : CelOK shA := ⟨by decide, by decide, by decide, by decide, by decide⟩
theorem sh_res : IsRes (itemsP [shZ, shA]) [⟨shA, 1⟩, ⟨shZ, 0⟩] := by
 have hi : itemsP [shZ, shA] = [⟨shZ, 0⟩, ⟨shA, 1⟩] := rfl
 have n1 : sameI ⟨shA, 1⟩ ⟨shZ, 0⟩ = false := by kernel_rfl
 have n2 : sameI ⟨shZ, 0⟩ ⟨shA, 1⟩ = false := by kernel_rfl
 have y1 : sameI ⟨shA, 1⟩ ⟨shA, 1⟩ = true := by kernel_rfl
 have y2 : sameI ⟨shZ, 0⟩ ⟨shZ, 0⟩ = true := by kernel_rfl
 rw [hi]
 refine ⟨?_, ?_, ?_, ?_⟩
 ·refine List.Pairwise.cons ?_ (List.Pairwise.cons (by simp) List.Pairwise.nil)
  intro y hy
  rw [List.mem_singleton.1 hy]
  exact of_decide_eq_true (by kernel_rfl)
 ·intro x hx
  simp only [List.mem_cons, List.not_mem_nil, or_false] at hx ⊢
  rcases hx with rfl | rfl
  ·exact Or.inr rfl
  ·exact Or.inl rfl
 ·intro x hx y hy h
  simp only [List.mem_cons, List.not_mem_nil, or_false] at hx hy
  rcases hx with rfl | rfl <;> rcases hy with rfl | rfl
  ·rw [n1] at h; cases h
  ·exact Nat.le_refl _
  ·exact Nat.le_refl _
  ·rw [n2] at h; cases h
 ·intro y hy
  simp only [List.mem_cons, List.not_mem_nil, or_false] at hy
  rcases hy with rfl | rfl
  ·exact ⟨_, by simp, y2⟩
  ·exact ⟨⟨shA, 1⟩, by simp, y1⟩
theorem itemsP_one (l : List Cel) : OneI (itemsP l) := by
 intro x hx y hy _ h
 have hl : (itemsP l).length = l.length := itemsUp_length l _
 obtain ⟨i, hi, e⟩ := List.mem_iff_getElem.1 hx
 obtain ⟨j, hj, e2⟩ := List.mem_iff_getElem.1 hy
 rw [show (itemsP l)[i] = ⟨l.getD i zeroC, i⟩ from itemsUp_get l l.length i hi] at e
 rw [show (itemsP l)[j] = ⟨l.getD j zeroC, j⟩ from itemsUp_get l l.length j hj] at e2
 subst e
 subst e2
 simp only at h
 subst h
 rfl
theorem sh_split {out : List (List Cel)} (h : SplitR [shA, shZ] [shM] out) : out = [[shA], [shZ]] := by
 cases h with
 |cons _ _ _ out2 h hle h1 h2 h3 =>
  have hz : ltS shZ.row shM = false := by kernel_rfl
  have ha : ltS shA.row shM = true := by kernel_rfl
  have hc : h = 0 ∨ h = 1 ∨ h = 2 := by simp at hle; omega
  rcases hc with rfl | rfl | rfl
  ·have := h1 (by decide)
   rw [show ([shA, shZ].getD 0 zeroC) = shA from rfl, ha] at this
   cases this
  ·cases h3
   rfl
  ·have := h2 (by decide)
   rw [show ([shA, shZ].getD (2 - 1) zeroC) = shZ from rfl, hz] at this
   cases this
theorem roll_one (c : Cel) : rollP [c] 9 = [[c]] := by
 have h1 : endsRow [c] 0 = true := by
  unfold endsRow
  simp
 have h2 : crowP [c] 0 0 = [(0, 1)] := by
  rw [crowP_yes (by simp) h1, crowP_nil (by simp)]
 unfold rollP
 rw [h2]
 rfl
theorem sh_all : allP 9 [[shA], [shZ]] = [(0, [shA]), (1, [shZ])] := by
 unfold allP
 rw [show [[shA], [shZ]].length = 0 + 1 + 1 from rfl, allTo_succ, allTo_succ]
 rw [show ([[shA], [shZ]].getD 0 []) = [shA] from rfl, show ([[shA], [shZ]].getD (0 + 1) []) = [shZ] from rfl, roll_one, roll_one]
 rfl
theorem sh_err : errsOf [(0, [shA]), (1, [shZ])] = [0, 0] := by kernel_rfl
theorem shown_make {k : Nat} {files : List ByteArray} (h : MakeR shIn [shM] 9 2 9 k files) : k = 0 ∧ files.length = 2 := by
 have hp := shIn_is
 have hout : ∀ {r : List Itm} {out : List (List Cel)} {most : Nat}, (9 : Int) = (most : Int) → IsRes (itemsP (cellsP shIn).1) r → SplitR (r.map (·.c)) [shM] out → most = 9 ∧ out = [[shA], [shZ]] := by
  intro r out most h1 h2 h3
  rw [hp] at h2
  have hr := IsRes.unique (itemsP_ok (l := [shZ, shA]) (by intro c hc; simp only [List.mem_cons, List.not_mem_nil, or_false] at hc; rcases hc with rfl | rfl; exact shZ_ok; exact shA_ok) (by decide)) (itemsP_one _) h2 sh_res
  subst hr
  exact ⟨by omega, sh_split h3⟩
 cases h with
 |parse h1 => rw [hp] at h1; exact absurd rfl h1
 |none _ h1 => rw [hp] at h1; cases h1
 |sort _ _ h1 => omega
 |cut _ _ _ _ h1 =>
  rcases h1 with h1 | h1
  ·rw [show bordersB [shM] = true by kernel_rfl] at h1; cases h1
  ·omega
 |build r out most _ _ _ _ _ _ h1 h2 h3 h4 =>
  obtain ⟨rfl, rfl⟩ := hout h1 h2 h3
  rw [sh_all, sh_err] at h4
  exact absurd rfl h4
 |ok r out most _ _ _ _ _ _ h1 h2 h3 h4 =>
  obtain ⟨rfl, rfl⟩ := hout h1 h2 h3
  rw [sh_all]
  exact ⟨rfl, rfl⟩
theorem sh_name : nameP 255 1 2 = ⟨#[115, 48, 48, 48, 48, 48, 48, 48, 48, 48, 48, 48, 48, 48, 48, 102, 102, 45, 48, 48, 48, 48, 48, 48, 48, 48, 48, 48, 48, 48, 48, 48, 48, 49, 45, 48, 48, 48, 50]⟩ := by
 have h1 : hexL 255 = [102, 102] := by rw [hexL_big (by decide), hexL_small (by decide)]; rfl
 have h2 : hexL 1 = [49] := by rw [hexL_small (by decide)]; rfl
 have h3 : hexL 2 = [50] := by rw [hexL_small (by decide)]; rfl
 unfold nameP hexN
 rw [h1, h2, h3]
 decide +kernel
end
end Go.Proofs.YtkagolpnaicdoaaGreatDoor
