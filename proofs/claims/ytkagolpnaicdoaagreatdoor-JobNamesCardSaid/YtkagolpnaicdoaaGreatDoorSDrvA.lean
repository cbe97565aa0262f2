/-
 job.Driver: at, Find, Jobs, Off. Two elements of a slice of the call's own are exchanged, in whatever order: the class of worlds on the way (for XRegionN), for elements of any type. job.Driver: put. job: sure, tried.
-/
import Derived.Test.YtkagolpnaicdoaaGreatDoorSJobK
import Derived.Test.YtkagolpnaicdoaaGreatDoorSWalD
import Derived.Test.YtkagolpnaicdoaaGreatDoorSRegionV
import Derived.Test.YtkagolpnaicdoaaGreatDoorSQOwn
import Derived.Test.YtkagolpnaicdoaaGreatDoorSRegionG
import Derived.Test.YtkagolpnaicdoaaGreatDoorSMaps
import Derived.Defers
import Derived.Recover
import Derived.Test.YtkagolpnaicdoaaGreatDoorRows
import Derived.Deep.CutRange
import Derived.WalkKit
import Derived.WalkSmall
set_option maxRecDepth 100000
set_option maxHeartbeats 8000000
namespace Go.Proofs.YtkagolpnaicdoaaGreatDoor
section
open Go.RowKit Go.Lib Go.Maps Go.MapKept Go.ChangeMaps
def idxJ (l : List JobR) (id : Nat) : Int := match atJ l id with
 |some i => i
 |none => -1
theorem idxJ_some {l : List JobR} {id i : Nat} (h : atJ l id = some i) : idxJ l id = i := by unfold idxJ; rw [h]
theorem idxJ_none {l : List JobR} {id : Nat} (h : atJ l id = none) : idxJ l id = -1 := by unfold idxJ; rw [h]
structure JobCells (w : World) (b o : Nat) (j : JobR) : Prop where
 c0 : w.cell? ⟨b, o, none⟩ = some (.int .u64 j.id)
 c1 : w.cell? ⟨b, o + 1, none⟩ = some (.int .i64 j.phase)
 c2 : w.cell? ⟨b, o + 2, none⟩ = some (.int .i64 j.e)
 c3 : w.cell? ⟨b, o + 3, none⟩ = some (.string j.input)
theorem job_cells {w : World} {b o : Nat} {j : JobR} (h : QCells jobTy w b o j) : JobCells w b o j := ⟨h 0 _ rfl, h 1 _ rfl, h 2 _ rfl, h 3 _ rfl⟩
theorem jobs_get {w : World} {base : Nat} {v : Value} {l : List JobR} {i : Nat} (h : OwnQ jobTy w base v l) (hi : i < l.length) : ∃ g cap, v = .slice (some ⟨g, 0, none⟩) l.length cap ∧ g < w.heap.size ∧ base ≤ g ∧ ∀ w', Fp [] w w' → JobCells w' g (i * 4) l[i] := by
 obtain ⟨g, cap, cur, e, hg, hh, _⟩ := h.open (by omega)
 subst e
 refine ⟨g, cap, rfl, heap_lt hh, hg, fun w' hf => ?_⟩
 exact job_cells ((h.fp hf (by simp)).elem hi).1
theorem at1_any (w : World) (q id : Nat) (j : JobR) (hq : w.heap[q]? = some (.cells #[.int .u64 id] 23 (0, 0))) :
  Calls Tryz.prog 119 #[jobV j, .pointer (some ⟨q, 0, none⟩)] w fun e w' => e = .returned (.bool (decide (j.id = id))) ∧ Fp [] w w' := by
 obtain ⟨i, p, x, inp⟩ := j
 have hlt := heap_lt hq
 have q0 : w.cell? ⟨q, 0, none⟩ = some (.int .u64 id) := cell_of_block hq 0
 have HF := Lib.hid (Fp.alloc w (.cells #[.int .u64 i, .int .i64 p, .int .i64 x, .string inp] 42))
 have HB : Hid (((i : Int) == (id : Int)) = decide (i = id)) := by
  unfold Hid
  by_cases h : i = id
  ·subst h; simp
  ·rw [decide_eq_false h]; exact beq_eq_false_iff_ne.2 (by omega)
 unfold jobV jobL
 simp only
 clear hq
 go_enter Tryz.func119, Tryz.ntmps119
 go_wp2_with (fail)
 go_ret
 exact ⟨by rw [← HB.out]; rfl, HF.out⟩
theorem jindex_any (w : World) (base q id : Nat) (v : Value) (l : List JobR) (ho : OwnQ jobTy w base v l) (hn : l.length ≤ 1000000) (hq : w.heap[q]? = some (.cells #[.int .u64 id] 23 (0, 0))) :
  Calls Tryz.prog 118 #[v, .func (.func 119) #[] #[.pointer (some ⟨q, 0, none⟩)]] w fun e w' => e = .returned (.int .i64 (idxJ l id)) ∧ Fp [] w w' := by
 obtain ⟨a, cap, rfl, -, -⟩ := ho.len
 have HO := Lib.hid ho
 have HQ := Lib.hid hq
 have HAT := Lib.hid (fun w j (h : w.heap[q]? = some (.cells #[.int .u64 id] 23 (0, 0))) => at1_any w q id j h)
 clear ho hq
 go_enter Tryz.func118, Tryz.ntmps118
 go_wp2_with (fail)
 go_loopg [8] l.length (fun g vi W => ∃ k : Nat, g + k = l.length ∧ vi = .int .i64 k ∧ (∀ i (h : i < l.length), i < k → ¬ (l[i]).id = id) ∧ Fp [] w W)
 case atStart => exact ⟨0, by omega, rfl, fun i _ h => absurd h (Nat.not_lt_zero _), Fp.refl _ _⟩
 case round =>
  obtain ⟨k, hg, rfl, hno, hf⟩ := hrel
  have HNO := Lib.hid hno
  have HF := Lib.hid hf
  clear hno hf
  by_cases hk : k < l.length
  ·have zk : (k : Int) < (l.length : Int) := by omega
   obtain ⟨g, cap2, hv, -, -, hcells⟩ := jobs_get HO.out hk
   cases hv
   obtain ⟨k0, k1, k2, k3⟩ := hcells wr HF.out
   have hal : ∀ i (h : i < l.length), i < k + 1 → ¬ (l[k]).id = id → ¬ (l[i]).id = id := by
    intro i h h1 h2
    by_cases e : i = k
    ·subst e; exact h2
    ·exact HNO.out i h (by omega)
   have hfirst : (l[k]).id = id → idxJ l id = (k : Int) := fun h => idxJ_some (atJ_first hk (fun i hi => HNO.out i (by omega) hi) h)
   obtain ⟨j, hj⟩ : ∃ j, l[k] = j := ⟨_, rfl⟩
   rw [hj] at k0 k1 k2 k3 hal hfirst
   have HAL := Lib.hid hal
   have HFI := Lib.hid hfirst
   have HC := Lib.hid (HAT.out wr j ((HF.out.block _ (heap_lt HQ.out) (by simp)).trans HQ.out))
   obtain ⟨ji, jp, jx, jn⟩ := j
   unfold jobV jobL at HC
   simp only at HC k0 k1 k2 k3
   clear hcells hal hfirst hj
   by_cases hid : ji = id
   ·rw [decide_eq_true hid] at HC
    have HFK := Lib.hid (HFI.out hid)
    clear HFI hid
    go_wp2_with (fail)
    (with_reducible refine HC.out.mono ?_)
    rintro e w2 ⟨rfl, hf2⟩
    have HF2 := Lib.hid (HF.out.trans hf2 (by simp))
    clear hf2
    go_wp2_with (fail)
    go_ret
    rw [HFK.out]
    exact ⟨rfl, HF2.out⟩
   ·rw [decide_eq_false hid] at HC
    have HN := Lib.hid hid
    clear HFI hid
    go_wp2_with (fail)
    (with_reducible refine HC.out.mono ?_)
    rintro e w2 ⟨rfl, hf2⟩
    have HF2 := Lib.hid (HF.out.trans hf2 (by simp))
    clear hf2
    go_wp2_with (fail)
    go_roundg (gk - 1)
    case measure => omega
    case rel => exact ⟨k + 1, by omega, by go_num, fun i h h1 => HAL.out i h h1 HN.out, HF2.out⟩
  ·have zk : ¬ (k : Int) < (l.length : Int) := by omega
   have HE := Lib.hid (idxJ_none (atJ_none (fun i hi => HNO.out i hi (by omega)) : atJ l id = none))
   go_wp2_with (fail)
   go_ret
   rw [HE.out]
   exact ⟨rfl, HF.out⟩
def DrvCells (w : World) (V L : Nat) (v : Value) : Prop := w.heap[V]? = some (.cells #[.pointer (some ⟨L, 0, none⟩), v] 123 (0, 0))
theorem DrvCells.fp {w w' : World} {S : List Nat} {V L : Nat} {v : Value} (h : DrvCells w V L v) (hf : Fp S w w') (hS : V ∉ S) : DrvCells w' V L v := (hf.block V (heap_lt h) hS).trans h
theorem dat_any (w : World) (base V L id : Nat) (v : Value) (l : List JobR) (hV : DrvCells w V L v) (ho : OwnQ jobTy w base v l) (hn : l.length ≤ 1000000) :
  Calls Tryz.prog 64 #[.pointer (some ⟨V, 0, none⟩), .int .u64 id] w fun e w' => e = .returned (.int .i64 (idxJ l id)) ∧ Fp [] w w' := by
 have hfa := Fp.alloc w (.cells #[.int .u64 id] 23)
 have HC := Lib.hid (jindex_any (w.alloc (.cells #[.int .u64 id] 23)) base w.heap.size id v l (ho.fp hfa (by simp)) hn (heap_alloc_at rfl _))
 have HF := Lib.hid hfa
 have hlt := heap_lt hV
 obtain ⟨a, cap, rfl, -, -⟩ := ho.len
 have c1 : w.cell? ⟨V, 1, none⟩ = some (.slice a l.length cap) := cell_of_block hV 1
 clear hfa hV ho
 go_enter Tryz.func64, Tryz.ntmps64
 go_wp2_with (fail)
 (with_reducible refine HC.out.mono ?_)
 rintro e w2 ⟨rfl, hf2⟩
 have HF2 := Lib.hid (HF.out.trans hf2 (by simp))
 clear hf2
 go_wp2_with (fail)
 go_ret
 exact ⟨rfl, HF2.out⟩
def foundJ (l : List JobR) (id : Nat) : JobR := (findJ l id).getD zeroJ
def hasJ (l : List JobR) (id : Nat) : Bool := (findJ l id).isSome
theorem dfind_any (w : World) (base V L id : Nat) (v : Value) (l : List JobR) (hV : DrvCells w V L v) (ho : OwnQ jobTy w base v l) (hn : l.length ≤ 1000000) :
  Calls Tryz.prog 25 #[.pointer (some ⟨V, 0, none⟩), .int .u64 id] w fun e w' => e = .returned (.tuple #[jobV (foundJ l id), .bool (hasJ l id)]) ∧ Fp [] w w' := by
 have hfa := Fp.alloc w (.cells #[.int .u64 0, .int .i64 0, .int .i64 0, .string ⟨#[]⟩] 42)
 have hbx : (w.alloc (.cells #[.int .u64 0, .int .i64 0, .int .i64 0, .string ⟨#[]⟩] 42)).heap[w.heap.size]? = some (.cells #[.int .u64 0, .int .i64 0, .int .i64 0, .string ⟨#[]⟩] 42 (0, 0)) := heap_alloc_at rfl _
 have HC := Lib.hid (dat_any (w.alloc (.cells #[.int .u64 0, .int .i64 0, .int .i64 0, .string ⟨#[]⟩] 42)) base V L id v l (hV.fp hfa (by simp)) (ho.fp hfa (by simp)) hn)
 have HF := Lib.hid hfa
 have HBX := Lib.hid hbx
 have HO := Lib.hid (ho.fp hfa (by simp))
 have HV := Lib.hid (hV.fp hfa (by simp))
 clear hfa hV ho hbx
 have hset : ∀ W : World, Fp [] w W → ∀ o u, Fp [] w (W.setCell ⟨w.heap.size, o, none⟩ u) := fun W h o u => h.trans (Fp.setCell W ⟨w.heap.size, o, none⟩ u) (by intro i hi; right; simp at hi; omega)
 have HSET := Lib.hid hset
 clear hset
 cases hat : atJ l id with
 |none =>
  have HE : Hid (foundJ l id = zeroJ ∧ hasJ l id = false) := by unfold Hid foundJ hasJ; rw [findJ_none hat]; exact ⟨rfl, rfl⟩
  rw [idxJ_none hat] at HC
  clear hat
  go_enter Tryz.func25, Tryz.ntmps25
  go_wp2_with (fail)
  (with_reducible refine HC.out.mono ?_)
  rintro e w2 ⟨rfl, hf2⟩
  have hb2 := (hf2.block _ (heap_lt HBX.out) (by simp)).trans HBX.out
  have r0 : w2.cell? ⟨w.heap.size, 0, none⟩ = some (.int .u64 0) := cell_of_block hb2 0
  have r1 : w2.cell? ⟨w.heap.size, 1, none⟩ = some (.int .i64 0) := cell_of_block hb2 1
  have r2 : w2.cell? ⟨w.heap.size, 2, none⟩ = some (.int .i64 0) := cell_of_block hb2 2
  have r3 : w2.cell? ⟨w.heap.size, 3, none⟩ = some (.string ⟨#[]⟩) := cell_of_block hb2 3
  have f0 : w2.frozen? ⟨w.heap.size, 0, none⟩ = false := frozen_of_block hb2 0
  have f1 : w2.frozen? ⟨w.heap.size, 1, none⟩ = false := frozen_of_block hb2 1
  have f2 : w2.frozen? ⟨w.heap.size, 2, none⟩ = false := frozen_of_block hb2 2
  have f3 : w2.frozen? ⟨w.heap.size, 3, none⟩ = false := frozen_of_block hb2 3
  have HF2 := Lib.hid (HF.out.trans hf2 (by simp))
  clear hf2 hb2
  go_wp2_with (fail)
  refine bodyPost_ret (v := .tuple #[.agg #[.int .u64 0, .int .i64 0, .int .i64 0, .string ⟨#[]⟩], .bool false]) (by simp [results, Tryz.results25, go_sem, *]) rfl ?_
  rw [HE.out.1, HE.out.2]
  exact ⟨rfl, HSET.out _ (HSET.out _ (HSET.out _ (HSET.out _ HF2.out _ _) _ _) _ _) _ _⟩
 |some i =>
  have hi := atJ_lt hat
  have HE : Hid (foundJ l id = l[i] ∧ hasJ l id = true) := by unfold Hid foundJ hasJ; rw [findJ_at hat]; exact ⟨rfl, rfl⟩
  rw [idxJ_some hat] at HC
  obtain ⟨g, cap, rfl, hgw, -, hcells⟩ := jobs_get HO.out hi
  obtain ⟨j, hj⟩ : ∃ j, l[i] = j := ⟨_, rfl⟩
  rw [hj] at HE hcells
  obtain ⟨ji, jp, jx, jn⟩ := j
  have HCE := Lib.hid hcells
  have zi : (i : Int) < (l.length : Int) := by omega
  clear hat hcells hj
  go_enter Tryz.func25, Tryz.ntmps25
  go_wp2_with (fail)
  (with_reducible refine HC.out.mono ?_)
  rintro e w2 ⟨rfl, hf2⟩
  obtain ⟨k0, k1, k2, k3⟩ := HCE.out _ hf2
  simp only at k0 k1 k2 k3
  have q1 : w2.cell? ⟨V, 1, none⟩ = some (.slice (some ⟨g, 0, none⟩) l.length cap) := cell_of_block (HV.out.fp hf2 (by simp)) 1
  have hlt2 := heap_lt (HV.out.fp hf2 (by simp))
  have hb2 := (hf2.block _ (heap_lt HBX.out) (by simp)).trans HBX.out
  have r0 : w2.cell? ⟨w.heap.size, 0, none⟩ = some (.int .u64 0) := cell_of_block hb2 0
  have r1 : w2.cell? ⟨w.heap.size, 1, none⟩ = some (.int .i64 0) := cell_of_block hb2 1
  have r2 : w2.cell? ⟨w.heap.size, 2, none⟩ = some (.int .i64 0) := cell_of_block hb2 2
  have r3 : w2.cell? ⟨w.heap.size, 3, none⟩ = some (.string ⟨#[]⟩) := cell_of_block hb2 3
  have f0 : w2.frozen? ⟨w.heap.size, 0, none⟩ = false := frozen_of_block hb2 0
  have f1 : w2.frozen? ⟨w.heap.size, 1, none⟩ = false := frozen_of_block hb2 1
  have f2 : w2.frozen? ⟨w.heap.size, 2, none⟩ = false := frozen_of_block hb2 2
  have f3 : w2.frozen? ⟨w.heap.size, 3, none⟩ = false := frozen_of_block hb2 3
  have HF2 := Lib.hid (HF.out.trans hf2 (by simp))
  clear hf2 hb2
  go_wp2_with (fail)
  refine bodyPost_ret (v := .tuple #[.agg #[.int .u64 ji, .int .i64 jp, .int .i64 jx, .string jn], .bool true]) (by simp [results, Tryz.results25, go_sem, *]) rfl ?_
  rw [HE.out.1, HE.out.2]
  exact ⟨rfl, HSET.out _ (HSET.out _ (HSET.out _ (HSET.out _ HF2.out _ _) _ _) _ _) _ _⟩
theorem Tryz.infoJob : (Tryz.prog.info? 42).map (fun i => (i.zero, i.size, i.bytes)) = some (some (.agg #[.int .u64 0, .int .i64 0, .int .i64 0, .string ⟨#[]⟩]), 4, 40) := by kernel_rfl
theorem wpList_append_jobs {w : World} {ops : Array Oper} {rest : List Oper} {o : Oper} {a : Act} {Q : Exit → Act → World → Prop} (hgd : o.guard = none) (s x : Operand)
  (ho : o.op = .call { callee := .builtin .append, args := #[s, x], argTypes := #[75, 75] }) (base : Nat) (v : Value) (l : List JobR) (hs : a.eval s = v) (hown : OwnQ jobTy w base v l)
  (ad : Option Addr) (m c : Nat) (ls : List JobR) (hx : a.eval x = .slice ad m c) (hl : QAt jobTy w ad m ls) (hnone : ad = none → c = 0) (hlen : l.length + ls.length ≤ 1000000000) (hbase : base ≤ w.heap.size)
  (h : ∀ v' w', OwnQ jobTy w' base v' (l ++ ls) → Below base w w' → w.grownBy w' v.ownBlock → wpList Tryz.prog ops Q rest (a.put o.dst v') w') : wpList Tryz.prog ops Q (o :: rest) a w :=
 wpList_append_q (R := jobTy) 75 Tryz.underlying75 Tryz.infoJob rfl (by decide) hgd s x ho base v l hs hown ad m c ls hx hl hnone hlen hbase h
theorem jclone_any (w : World) (a : Option Addr) (n cap : Nat) (l : List JobR) (hl : QAt jobTy w a n l) (hnone : a = none → cap = 0) (hn : n ≤ 1000000) :
  Calls Tryz.prog 66 #[.slice a n cap] w fun e w' => ∃ v', e = .returned v' ∧ OwnQ jobTy w' w.heap.size v' l ∧ Fp [] w w' := by
 have HAT := Lib.hid hl
 have HLN := Lib.hid hl.len
 have q22 : ∀ (w : World) (a : Option Addr) (n c n' c' : Nat), (binOp .eql 75 (.slice a n c) (.slice none n' c')).run Tryz.prog w = .ok (.bool a.isNone) w := fun w a n c n' c' => Lib.run_eql_slice_nil w _ _ a n c n' c' Tryz.underlying75
 cases a with
 |none =>
  obtain rfl := hnone rfl
  have hl0 : l = [] := by
   rcases hl.cells with h | ⟨b, o, h, _⟩
   ·exact h
   ·cases h
  subst hl0
  have hn0 : n = 0 := hl.len
  subst hn0
  clear hl hnone
  go_enter Tryz.func66, Tryz.ntmps66
  go_wp2_with (fail)
  go_ret
  exact ⟨_, rfl, OwnQ.nil _ _, Fp.refl _ _⟩
 |some ad =>
  clear hl hnone
  go_enter Tryz.func66, Tryz.ntmps66
  go_wp2_with (at_builtin; refine wpList_append_jobs rfl _ _ rfl w.heap.size _ [] rfl (OwnQ.made w _ (Nat.le_refl _)) _ _ _ l rfl (HAT.out.fp (Fp.alloc _ _)) (by intro h; cases h) (by have := HLN.out; simp; omega) (by simp) ?_; intro v2 w2 hown2 hbel2 _; have HO2 := Lib.hid hown2; have HB2 := Lib.hid hbel2; clear hown2 hbel2)
  go_ret
  exact ⟨_, rfl, HO2.out, (Fp.alloc w _).belowTrans (HB2.out.mono (by simp))⟩
theorem djobs_any (w : World) (base V L : Nat) (v : Value) (l : List JobR) (hV : DrvCells w V L v) (ho : OwnQ jobTy w base v l) (hn : l.length ≤ 1000000) :
  Calls Tryz.prog 32 #[.pointer (some ⟨V, 0, none⟩)] w fun e w' => ∃ v', e = .returned v' ∧ OwnQ jobTy w' w.heap.size v' l ∧ Fp [] w w' := by
 obtain ⟨a, cap, rfl, hnone, -, hat⟩ := ho.at
 have HC := Lib.hid (jclone_any w a l.length cap l hat hnone hn)
 have hlt := heap_lt hV
 have c1 : w.cell? ⟨V, 1, none⟩ = some (.slice a l.length cap) := cell_of_block hV 1
 clear hV ho hat hnone
 go_enter Tryz.func32, Tryz.ntmps32
 go_wp2_with (fail)
 (with_reducible refine HC.out.mono ?_)
 rintro e w2 ⟨v2, rfl, ho2, hf2⟩
 have HO2 := Lib.hid ho2
 have HF2 := Lib.hid hf2
 clear ho2 hf2
 go_wp2_with (fail)
 go_ret
 exact ⟨_, rfl, HO2.out, HF2.out⟩
theorem doff_any (w : World) (b V L : Nat) (v : Value) (lg : Lg) (hV : DrvCells w V L v) (hl : LogAt w L b lg) :
  Calls Tryz.prog 33 #[.pointer (some ⟨V, 0, none⟩)] w fun e w' => e = .returned (.bool lg.off) ∧ w' = w := by
 have HC := Lib.hid (woff_any w L b lg hl)
 have hlt := heap_lt hV
 have c0 : w.cell? ⟨V, 0, none⟩ = some (.pointer (some ⟨L, 0, none⟩)) := cell_of_block hV 0
 clear hV hl
 go_enter Tryz.func33, Tryz.ntmps33
 go_wp2_with (fail)
 (with_reducible refine HC.out.mono ?_)
 rintro e w2 ⟨rfl, rfl⟩
 go_wp2_with (fail)
 go_ret
 exact ⟨rfl, rfl⟩
end
section
open Go.RowKit
variable {α : Type} {R : RowTy α} {d : α}
def swapG (d : α) (l : List α) (i j : Nat) : List α := (l.set i (l.getD j d)).set j (l.getD i d)
theorem swapG_length (l : List α) (i j : Nat) : (swapG d l i j).length = l.length := by simp [swapG]
theorem swapG_self (l : List α) (i : Nat) : swapG d l i i = l := by
 unfold swapG
 rw [List.set_set]
 refine List.ext_getElem? fun k => ?_
 rw [List.getElem?_set]
 by_cases h : i = k
 ·subst h
  rw [if_pos rfl]
  split
  ·rename_i h
   rw [List.getD_eq_getElem?_getD, List.getElem?_eq_getElem h]; rfl
  ·rename_i h
   rw [List.getElem?_eq_none (by omega)]
 ·rw [if_neg h]
def swG (d : α) (l : List α) (i j p q : Nat) (b : Nat → Bool) : List α :=
 let l1 := if b p = true then l.set i (l.getD j d) else l
 if b q = true then l1.set j (l.getD i d) else l1
structure SwGC (R : RowTy α) (d : α) (w0 : World) (base g n cap : Nat) (l : List α) (i j p q : Nat) (b : Nat → Bool) (w : World) : Prop where
 own : OwnQ R w base (.slice (some ⟨g, 0, none⟩) n cap) (swG d l i j p q b)
 fp : Fp [g] w0 w
variable {w0 w : World} {base g n cap i j p q : Nat} {l : List α} {b : Nat → Bool}
theorem SwGC.first (h : SwGC R d w0 base g n cap l i j p q b w) (hp : b p = false) (hq : b q = false) : OwnQ R w base (.slice (some ⟨g, 0, none⟩) n cap) l := by
 have := h.own
 unfold swG at this
 rw [hp, hq] at this
 exact this
theorem swG_length : (swG d l i j p q b).length = l.length := by
 unfold swG
 simp only
 split <;> split <;> simp
theorem swG_all (hb : b p = true) (hb2 : b q = true) : swG d l i j p q b = swapG d l i j := by
 unfold swG swapG
 simp only
 rw [if_pos hb, if_pos hb2]
theorem SwGC.storeP (h : SwGC R d w0 base g n cap l i j p q b w) (hp : b p = false) (hi : i < l.length) (hij : i ≠ j) (hpq : p ≠ q) :
  SwGC R d w0 base g n cap l i j p q (upd b p) (w.setCells g (i * R.k) (R.enc (l.getD j d))) := by
 obtain ⟨h1, h2⟩ := h.own.setQ (l.getD j d) (i := i) (by rw [swG_length]; exact hi)
 refine ⟨?_, h.fp.trans h2 (by intro k hk; exact Or.inl hk)⟩
 have e : (swG d l i j p q b).set i (l.getD j d) = swG d l i j p q (upd b p) := by
  cases hq : b q with
  |true => simp only [swG, upd, hp, hq, if_neg (Ne.symm hpq), if_true, Bool.false_eq_true, if_false]; exact List.set_comm _ _ hij.symm
  |false => simp only [swG, upd, hp, hq, if_neg (Ne.symm hpq), if_true, Bool.false_eq_true, if_false]
 rw [← e]
 exact h1
theorem SwGC.storeQ (h : SwGC R d w0 base g n cap l i j p q b w) (hq : b q = false) (hj : j < l.length) (hpq : p ≠ q) :
  SwGC R d w0 base g n cap l i j p q (upd b q) (w.setCells g (j * R.k) (R.enc (l.getD i d))) := by
 obtain ⟨h1, h2⟩ := h.own.setQ (l.getD i d) (i := j) (by rw [swG_length]; exact hj)
 refine ⟨?_, h.fp.trans h2 (by intro k hk; exact Or.inl hk)⟩
 have e : (swG d l i j p q b).set j (l.getD i d) = swG d l i j p q (upd b q) := by
  simp only [swG, upd, hq, if_neg hpq, if_true, Bool.false_eq_true, if_false]
 rw [← e]
 exact h1
theorem SwGC.plain {k : Nat} (h : SwGC R d w0 base g n cap l i j p q b w) (hk : k ≠ p ∧ k ≠ q) : SwGC R d w0 base g n cap l i j p q (upd b k) w := by
 refine ⟨?_, h.fp⟩
 have e : swG d l i j p q (upd b k) = swG d l i j p q b := by
  unfold swG upd
  simp only
  rw [if_neg hk.1.symm, if_neg hk.2.symm]
 rw [e]
 exact h.own
theorem OwnQ.setSame (h : OwnQ R w base (.slice (some ⟨g, 0, none⟩) n cap) l) (hi : i < l.length) : OwnQ R (w.setCells g (i * R.k) (R.enc (l.getD i d))) base (.slice (some ⟨g, 0, none⟩) n cap) l ∧ Fp [g] w (w.setCells g (i * R.k) (R.enc (l.getD i d))) := by
 obtain ⟨h1, h2⟩ := h.setQ (l.getD i d) hi
 refine ⟨?_, h2⟩
 have e : l.set i (l.getD i d) = l := by
  refine List.ext_getElem? fun k => ?_
  rw [List.getElem?_set]
  by_cases h : i = k
  ·subst h
   rw [if_pos rfl, if_pos hi, List.getD_eq_getElem?_getD, List.getElem?_eq_getElem hi]; rfl
  ·rw [if_neg h]
 rw [e] at h1
 exact h1
end
section
open Go.RowKit Go.Lib Go.Maps Go.MapKept Go.ChangeMaps
structure PutC (w0 : World) (base g n cap : Nat) (l : List JobR) (i : Nat) (j : JobR) (V L q : Nat) (done : Bool) (w : World) : Prop where
 own : OwnQ jobTy w base (.slice (some ⟨g, 0, none⟩) n cap) (if done then l.set i j else l)
 drv : DrvCells w V L (.slice (some ⟨g, 0, none⟩) n cap)
 box : w.heap[q]? = some (.cells (jobL j).toArray 42 (0, 0))
 fp : Fp [g] w0 w
theorem PutC.set {w0 w : World} {base g n cap i V L q : Nat} {l : List JobR} {j : JobR} (h : PutC w0 base g n cap l i j V L q false w) (hi : i < l.length) (hqg : q ≠ g) (hVg : V ≠ g) :
  PutC w0 base g n cap l i j V L q true (w.setCells g (i * 4) (jobL j)) := by
 have h1 := h.own
 have h2 : OwnQ jobTy w base (.slice (some ⟨g, 0, none⟩) n cap) l := h1
 obtain ⟨h3, h4⟩ := h2.setQ j hi
 exact ⟨h3, h.drv.fp h4 (by simpa using hVg), (h4.block _ (heap_lt h.box) (by simpa using hqg)).trans h.box, h.fp.trans h4 (by intro k hk; exact Or.inl hk)⟩
def ownL (v : Value) : List Nat := v.ownBlock.toList
theorem own_kind {w : World} {base : Nat} {v : Value} {l : List JobR} (h : OwnQ jobTy w base v l) : ∀ k, v.ownBlock = some k → ∃ c, w.heap[k]? = some (.cells c 42 (0, 0)) := by
 intro k hk
 rcases h.2 with ⟨rfl, _⟩ | ⟨g, cap, cur, rfl, _, hh, _⟩
 ·cases hk
 ·obtain rfl : g = k := by simpa [Value.ownBlock] using hk
  exact ⟨_, hh⟩
theorem own_off {w : World} {base k : Nat} {v : Value} {l : List JobR} {c : Array Value} {T : TypeId} {fr : Nat × Nat} (h : OwnQ jobTy w base v l) (hk : w.heap[k]? = some (.cells c T fr)) (hT : T ≠ 42) : k ∉ ownL v := by
 intro hm
 unfold ownL at hm
 have hv : v.ownBlock = some k := by simpa using hm
 obtain ⟨c2, h2⟩ := own_kind h k hv
 rw [hk] at h2
 injection Option.some.inj h2 with _ h3
 exact hT h3
theorem dput_any (w : World) (base V L : Nat) (v : Value) (l : List JobR) (j : JobR) (hV : DrvCells w V L v) (ho : OwnQ jobTy w base v l) (hb : base ≤ w.heap.size) (hn : l.length ≤ 100000) :
  Calls Tryz.prog 62 #[.pointer (some ⟨V, 0, none⟩), jobV j] w fun e w' => e = .returned (.tuple #[]) ∧ (∃ v', DrvCells w' V L v' ∧ OwnQ jobTy w' base v' (putJ l j)) ∧ Tf base [42] [V] w w' := by
 obtain ⟨jid, jp, jx, jn⟩ := j
 have hfa := Fp.alloc w (.cells #[.int .u64 jid, .int .i64 jp, .int .i64 jx, .string jn] 42)
 have hbx : (w.alloc (.cells #[.int .u64 jid, .int .i64 jp, .int .i64 jx, .string jn] 42)).heap[w.heap.size]? = some (.cells #[.int .u64 jid, .int .i64 jp, .int .i64 jx, .string jn] 42 (0, 0)) := heap_alloc_at rfl _
 have HC := Lib.hid (dat_any (w.alloc (.cells #[.int .u64 jid, .int .i64 jp, .int .i64 jx, .string jn] 42)) base V L jid v l (hV.fp hfa (by simp)) (ho.fp hfa (by simp)) (by omega))
 have hlt := heap_lt hV
 have HBX := Lib.hid hbx
 have HF := Lib.hid hfa
 have HO := Lib.hid (ho.fp hfa (by simp))
 have HV := Lib.hid (hV.fp hfa (by simp))
 have hold : ∀ k, v.ownBlock = some k → k < w.heap.size := fun k hk => (ho.lt k hk).2
 have HOLD := Lib.hid hold
 unfold jobV jobL
 simp only
 clear hV ho hfa hbx hold
 cases hat : atJ l jid with
 |some i =>
  have hi := atJ_lt hat
  have HP : Hid (putJ l ⟨jid, jp, jx, jn⟩ = l.set i ⟨jid, jp, jx, jn⟩) := putJ_set hat
  rw [idxJ_some hat] at HC
  obtain ⟨g, cap, rfl, -, hbg, -⟩ := jobs_get HO.out hi
  have hgw := HOLD.out g rfl
  have zi : (i : Int) < (l.length : Int) := by omega
  have hVg : V ≠ g := by
   intro e
   have := own_off HO.out HV.out (by decide)
   exact this (by rw [e]; simp [ownL, Value.ownBlock])
  clear hat
  go_enter Tryz.func62, Tryz.ntmps62
  go_wp2_with (fail)
  (with_reducible refine HC.out.mono ?_)
  rintro e w2 ⟨rfl, hf2⟩
  have HC0 : Hid (PutC w2 base g l.length cap l i ⟨jid, jp, jx, jn⟩ V L w.heap.size false w2) := Lib.hid ⟨HO.out.fp hf2 (by simp), HV.out.fp hf2 (by simp), (hf2.block _ (heap_lt HBX.out) (by simp)).trans HBX.out, Fp.refl _ _⟩
  have HF2 := Lib.hid (HF.out.trans hf2 (by simp))
  have hqg : w.heap.size ≠ g := by omega
  clear hf2
  go_wp2_with (fail)
  refine wp_region_n (fun bb w' => PutC w2 base g l.length cap l i ⟨jid, jp, jx, jn⟩ V L w.heap.size (bb 7) w') (fun _ _ => True) (by kernel_rfl) (by kernel_rfl) ⟨HC0.out.own.fp (Fp.drew w2) (by simp), HC0.out.drv.fp (Fp.drew w2) (by simp), ((Fp.drew w2).block _ (heap_lt HC0.out.box) (by simp)).trans HC0.out.box, (Fp.drew w2).mono (by simp)⟩ ?_
  iterate 7
   apply nx_plain (fun _ _ h => h) rfl rfl rfl
   ·intro b a w hC hA K hK
    try have h0 := hA.fr 0 rfl
    try have h11 := hA.eq 0 11 rfl
    try have h12 := hA.eq 1 12 rfl
    try have h13 := hA.eq 2 13 rfl
    try have h4 := hA.fr 4 rfl
    try have h3 := hA.fr 3 rfl
    try have h14 := hA.eq 3 14 rfl
    try have h15 := hA.eq 4 15 rfl
    have q1 := cell_of_block hC.drv 1
    have b0 := cell_of_block hC.box 0
    have b1 := cell_of_block hC.box 1
    have b2 := cell_of_block hC.box 2
    have b3 := cell_of_block hC.box 3
    have hlt3 := heap_lt hC.drv
    simp only [jobL, List.getElem?_toArray, List.getElem?_cons_succ, List.getElem?_cons_zero] at q1 b0 b1 b2 b3
    simp only [Oper.wp, execOp]; go_simp
    exact hK _ hC trivial
  apply nx_effect (fun _ => True) rfl rfl
  ·intro b a w hC hA K hK
   have h17 := hA.eq 6 17 rfl
   have h16 := hA.eq 5 16 rfl
   have h7 := hA.self
   rw [h7] at hC
   have hst := PutC.set hC hi hqg hVg
   have hown : OwnQ jobTy w base (.slice (some ⟨g, 0, none⟩) l.length cap) l := hC.own
   obtain ⟨hqc, hz, -, -, -, -⟩ := hown.elem hi
   obtain ⟨k0, k1, k2, k3⟩ := job_cells hqc
   have z0 := hz (i * 4)
   have z1 := hz (i * 4 + 1)
   have z2 := hz (i * 4 + 2)
   have z3 := hz (i * 4 + 3)
   clear hz hqc
   unfold jobL at hst
   simp only [show jobTy.k = 4 from rfl] at k0 k1 k2 k3
   simp only [Oper.wp, execOp]; go_simp
   exact hK undef _ hst trivial trivial
  refine ⟨?_, ?_⟩
  ·refine ⟨fun _ _ _ _ _ => trivial, ?_⟩
   iterate 7 refine stabN_val _ ?_
   exact trivial
  ·intro wa bb hC hbb
   simp only [List.reverse_cons, List.reverse_nil, List.nil_append, List.cons_append]
   iterate 7 (refine all_val ?_)
   refine all_some ?_
   intro v7 u7
   refine all_nil ?_
   simp only [putAll, Act.put, List.setIfInBounds_toArray, List.set_cons_succ, List.set_cons_zero]
   have hC2 := hC
   rw [hbb 7 (by decide)] at hC2
   have HD := Lib.hid hC2
   clear hC hbb hC2
   go_wp2_with (fail)
   refine bodyPost_ret (v := .tuple #[]) (results_none rfl _ _ _) rfl ?_
   refine ⟨rfl, ⟨.slice (some ⟨g, 0, none⟩) l.length cap, HD.out.drv, ?_⟩, ?_⟩
   ·rw [HP.out]; exact HD.out.own
   ·have hfa : Fp [g] w wa := (HF2.out.mono (S' := [g]) (by simp)).trans HD.out.fp (by intro k hk; exact Or.inl hk)
    refine ⟨hfa.os, hfa.tape, hfa.output, hfa.size, fun k h1 _ h3 => hfa.block k h1 fun hm => ?_⟩
    obtain rfl := List.mem_singleton.1 hm
    obtain ⟨c2, h2⟩ := own_kind HO.out k rfl
    rw [Below.heap_alloc _ _ _ h1] at h2
    exact h3 hbg _ _ _ h2 (by simp)
 |none =>
  have HP : Hid (putJ l ⟨jid, jp, jx, jn⟩ = l ++ [⟨jid, jp, jx, jn⟩]) := putJ_new hat
  rw [idxJ_none hat] at HC
  obtain ⟨va, vc, hv, -, -⟩ := HO.out.len
  clear hat
  go_enter Tryz.func62, Tryz.ntmps62
  go_wp2_with (fail)
  (with_reducible refine HC.out.mono ?_)
  rintro e w2 ⟨rfl, hf2⟩
  have HO2 := Lib.hid (HO.out.fp hf2 (by simp))
  have HV2 := Lib.hid (HV.out.fp hf2 (by simp))
  have HBX2 := Lib.hid ((hf2.block _ (heap_lt HBX.out) (by simp)).trans HBX.out)
  have HF2 := Lib.hid (HF.out.trans hf2 (by simp))
  have hb2 : base ≤ w2.heap.size := Nat.le_trans hb HF2.out.size
  clear hf2
  go_wp2_with (fail)
  refine wp_region_v (fun bb vs w' => AppG jobTy [42] 123 (fun v => #[.pointer (some ⟨L, 0, none⟩), v]) base V v l ⟨jid, jp, jx, jn⟩ 6 7 10 w2 bb vs w' ∧ (bb 7 = false → Fp [] w2 w')) (fun _ _ => True) (by kernel_rfl) (by kernel_rfl) (fun _ => ⟨AppG.start HO2.out HV2.out hb2, fun _ => Fp.drew w2⟩) ?_
  iterate 4
   apply vx_plain (fun _ _ _ h _ => ⟨h.1.plain (by decide), h.2⟩) rfl rfl rfl
   ·intro b a w hC hA K hK
    try have h0 := hA.fr 0 rfl
    try have h19 := hA.eq 1 19 rfl
    try have h20 := hA.eq 2 20 rfl
    simp only [Oper.wp, execOp]; go_simp
    exact hK _ hC trivial
  apply vx_plain (fun _ _ _ h _ => ⟨h.1.plain (by decide), h.2⟩) rfl rfl rfl
  ·intro b a w hC hA K hK
   have h21 := hA.eq 3 21 rfl
   have q0 := cell_of_block (hC.1.first (hA.post 7 (by kernel_rfl))) 1
   simp only [List.getElem?_toArray, List.getElem?_cons_succ, List.getElem?_cons_zero] at q0
   rw [hv] at q0
   simp only [Oper.wp, execOp]; go_simp
   rw [← hv]
   exact hK _ hC trivial
  apply vx_plain (fun _ _ _ h _ => ⟨h.1.plain (by decide), h.2⟩) rfl rfl rfl
  ·intro b a w hC hA K hK
   have h3 := hA.fr 3 rfl
   have hf0 := hC.2 (notB hC.1.ob (hA.post 6 (by kernel_rfl)))
   have hbb0 := (hf0.block _ (heap_lt HBX2.out) (by simp)).trans HBX2.out
   have b0 := cell_of_block hbb0 0
   have b1 := cell_of_block hbb0 1
   have b2 := cell_of_block hbb0 2
   have b3 := cell_of_block hbb0 3
   simp only [List.getElem?_toArray, List.getElem?_cons_succ, List.getElem?_cons_zero] at b0 b1 b2 b3
   simp only [Oper.wp, execOp]; go_simp
   exact hK _ hC trivial
  apply vx_turn (fun _ _ => True) rfl rfl rfl
  ·intro b a w hC hA K hK
   have h23 := hA.eq 5 23 rfl
   have hst := hC.1.build hA.self (by decide)
   have hst2 : upd b 6 7 = false → Fp [] w2 (w.alloc (.cells (jobTy.enc ⟨jid, jp, jx, jn⟩).toArray jobTy.e)) := fun e => (hC.2 e).alloc' _
   simp only [Oper.wp, execOp]; go_simp
   exact hK _ _ ⟨hst, hst2⟩ trivial trivial
  apply vx_turn (fun _ _ => True) rfl rfl rfl
  ·intro b a w hC hA K hK
   have h22 := hA.eq 4 22 rfl
   have h24 := hA.dep 6 24 _ (by kernel_rfl) rfl
   obtain ⟨g, hg1, hg2⟩ := hC.1.bld (hA.pre 6 (by kernel_rfl)) hA.self
   refine wp_append_q (R := jobTy) 75 Tryz.underlying75 Tryz.infoJob rfl (by decide) (.tmp 22) (.tmp 24) rfl base v l (ev_tmp h22) (hC.1.own0 hA.self) _ _ _ [⟨jid, jp, jx, jn⟩] (ev_tmp ((hA.val 6 24 (by kernel_rfl)).trans hg1)) hg2 (by simp; omega) hC.1.sz ?_
   intro v' w' h1 h2 h3
   exact hK _ _ ⟨hC.1.append (hA.pre 6 (by kernel_rfl)) hA.self h1 h3 (by simp [jobTy]) (by decide) (by decide), fun e => by simp [upd] at e⟩ trivial trivial
  iterate 2
   apply vx_plain (fun _ _ _ h _ => ⟨h.1.plain (by decide), h.2⟩) rfl rfl rfl
   ·intro b a w hC hA K hK
    try have h18 := hA.eq 0 18 rfl
    try have h26 := hA.eq 8 26 rfl
    simp only [Oper.wp, execOp]; go_simp
    exact hK _ hC trivial
  apply vx_effect (fun _ => True) rfl rfl rfl
  ·intro b a w hC hA K hK
   have h27 := hA.eq 9 27 rfl
   have h25 := hA.dep 7 25 _ (by kernel_rfl) rfl
   obtain ⟨a2, n2, c2, e2⟩ := hC.1.slice (hA.pre 7 (by kernel_rfl))
   have hvv := (hA.val 7 25 (by kernel_rfl)).trans e2
   have hst := hC.1.store (off := 1) (hA.pre 7 (by kernel_rfl)) hA.self (by simp) (by decide) (by decide)
   rw [e2] at hst
   have hst2 : upd b 10 7 = false → Fp [] w2 (w.setCell ⟨V, 1, none⟩ (.slice a2 n2 c2)) := fun e => absurd ((hA.pre 7 (by kernel_rfl)).symm.trans e) (by decide)
   have f0 := frozen_of_block hC.1.cel 1
   have q0 := cell_of_block hC.1.cel 1
   simp only [Oper.wp, execOp]; go_simp
   exact hK undef _ ⟨hst, hst2⟩ trivial trivial
  refine ⟨?_, ?_⟩
  ·refine ⟨fun _ _ _ _ _ => trivial, ?_⟩
   refine stabV_val _ ?_
   refine stabV_val _ ?_
   refine ⟨fun _ _ _ _ _ => trivial, ?_⟩
   refine ⟨fun _ _ _ _ _ => trivial, ?_⟩
   iterate 6 refine stabV_val _ ?_
   exact trivial
  ·intro wa bb hbb
   simp only [List.reverse_cons, List.reverse_nil, List.nil_append, List.cons_append]
   iterate 6 (refine all_val ?_)
   refine all_some ?_
   intro v6 u6
   refine all_some ?_
   intro v7 u7
   iterate 2 (refine all_val ?_)
   refine all_some ?_
   intro v10 u10
   refine all_nil ?_
   intro hC
   simp only [putAll, Act.put, List.setIfInBounds_toArray, List.set_cons_succ, List.set_cons_zero]
   have hcel := hC.1.cel
   rw [hbb 10 (by simp)] at hcel
   have HC1 := Lib.hid hcel
   have HC2 := Lib.hid (hC.1.own1 (hbb 7 (by simp)))
   have HC3 : Hid (Tf base [42] [V] w wa) := Lib.hid (((Tf.of HF2.out : Tf base [42] [] w w2).mono (by simp)).trans hC.1.tf (by intro i hi; exact Or.inl hi))
   clear hC hbb hcel
   go_wp2_with (fail)
   go_end0
   exact ⟨rfl, ⟨_, HC1.out, by rw [HP.out]; exact HC2.out⟩, HC3.out⟩
end
section
open Go.RowKit Go.Lib
def errPan (e : Int) : List PanicEntry := [{ v := .iface 30 (.int .i64 e), recovered := false }]
theorem sure_ok (w : World) : Calls Tryz.prog 48 #[.int .i64 0] w fun e w' => (∃ v, e = .returned v) ∧ w' = w := by
 go_enter Tryz.func48, Tryz.ntmps48
 go_wp2_with (fail)
 go_end0
 exact ⟨⟨_, rfl⟩, rfl⟩
theorem sure_bad (w : World) (x : Int) (hx : ¬ x = 0) : Calls Tryz.prog 48 #[.int .i64 x] w fun e w' => e = .panicked (errPan x) ∧ w' = w := by
 have hb : (x != 0) = true := by simpa using hx
 go_enter Tryz.func48, Tryz.ntmps48
 go_wp2_with (fail)
 exact ⟨rfl, rfl, rfl⟩
attribute [local go_sem] wpOpsS recoverD
theorem catch_idle (p : Addr) (w : World) : CallsD Tryz.prog 83 #[.pointer (some p)] .returning w fun e u' w' => (∃ v, e = .returned v) ∧ u' = .returning ∧ w' = w := by
 refine callsD_of_wpS Tryz.func83 rfl fun c₀ cs hu => ?_
 apply wpS_seq
 apply wpS_region
 simp [wpOpsS, go_sem, recoverD, hu, Tryz.ntmps83, Exit.thenS]
 refine wpS_of_wp ?_
 go_wp2_with (fail)
 cases c₀
 simp only at hu
 subst hu
 exact ⟨rfl, _, rfl, _, results_none rfl _ _ _, ⟨_, rfl⟩, rfl, rfl⟩
theorem catch_err (p : Addr) (x : Int) (w : World) (old : Value) (hc : w.cell? p = some old) (hz : w.frozen? p = false) (older : List PanicEntry) : CallsD Tryz.prog 83 #[.pointer (some p)] (.panicking (errPan x ++ older)) w fun e u' w' =>
  (∃ v, e = .returned v) ∧ u' = .panicking ({ v := .iface 30 (.int .i64 x), recovered := true } :: older) ∧ w' = w.setCell p (.int .i64 x) := by
 refine callsD_of_wpS Tryz.func83 rfl fun c₀ cs hu => ?_
 unfold errPan at hu
 have hta : ∀ w, (Instr.typeAssert (.iface 30 (.int .i64 x)) 20 30 true).run Tryz.prog w = .ok (.tuple #[.int .i64 x, .bool true]) w := fun _ => by kernel_rfl
 apply wpS_seq
 apply wpS_region
 simp [wpOpsS, go_sem, recoverD, hu, Tryz.ntmps83, Exit.thenS]
 refine wpS_of_wp ?_
 go_wp2_with (fail)
 exact ⟨rfl, _, rfl, _, results_none rfl _ _ _, ⟨_, rfl⟩, rfl, rfl⟩
theorem tried_any (w : World) (F : Nat) (cap : Array Value) (hen : ∀ args w, (callFunc F args).run Tryz.prog w = .ok (.enter F args) w) (Post : World → Prop) (PostE : Int → World → Prop)
  (hdo : ∀ W, Fp [] w W → w.heap.size + 1 ≤ W.heap.size → W.heap[w.heap.size]? = some (.cells #[.int .i64 0] 30 (0, 0)) → Calls Tryz.prog F cap W fun e W' => W'.heap[w.heap.size]? = some (.cells #[.int .i64 0] 30 (0, 0)) ∧ (((∃ v, e = .returned v) ∧ Post W') ∨ ∃ x, ¬ x = 0 ∧ e = .panicked (errPan x) ∧ PostE x W'))
  (hP : ∀ A B, Post A → Fp [w.heap.size] A B → Post B) (hPE : ∀ x A B, PostE x A → Fp [w.heap.size] A B → PostE x B) :
  Calls Tryz.prog 45 #[.func (.func F) #[] cap] w fun e w' => (e = .returned (.int .i64 0) ∧ Post w') ∨ ∃ x, ¬ x = 0 ∧ e = .returned (.int .i64 x) ∧ PostE x w' := by
 have hmf : ∀ (fn : Fn) (first cap : Array Value) (w : World), (Instr.makeFunc fn first cap).run Tryz.prog w = .ok (.func fn first cap) w := fun _ _ _ _ => rfl
 have HDO := Lib.hid hdo
 clear hdo
 go_enter_defers Tryz.func45, Tryz.ntmps45
 go_wp2_with (fail)
 (with_reducible refine (HDO.out _ (Fp.alloc _ _) (by simp) (heap_alloc_at rfl _)).mono ?_)
 rintro e w1 ⟨hh, (⟨⟨v, rfl⟩, hp⟩ | ⟨x, hx, rfl, hp⟩)⟩
 ·have q0 : w1.cell? ⟨w.heap.size, 0, none⟩ = some (.int .i64 0) := cell_of_block hh 0
  have f0 : w1.frozen? ⟨w.heap.size, 0, none⟩ = false := frozen_of_block hh 0
  have HH := Lib.hid hh
  have HP := Lib.hid hp
  clear hh hp
  go_wp2_with (fail)
  refine leaves_cons (f := 83) (args := #[.pointer (some ⟨w.heap.size, 0, none⟩)]) (by simp) (by simp [go_sem]) ?_
  refine (catch_idle ⟨w.heap.size, 0, none⟩ _).mono ?_
  rintro e u' w'' ⟨⟨v2, rfl⟩, rfl, rfl⟩
  have q1 : (w1.setCell ⟨w.heap.size, 0, none⟩ (.int .i64 0)).cell? ⟨w.heap.size, 0, none⟩ = some (.int .i64 0) := cell_of_block ((heap_setCell_same HH.out _).trans rfl) 0
  exact ⟨.int .i64 0, by simp [results, Tryz.results45, go_sem, q1], Or.inl ⟨rfl, hP _ _ HP.out (Fp.setCell _ ⟨w.heap.size, 0, none⟩ _)⟩⟩
 ·have HH := Lib.hid hh
  have HP := Lib.hid hp
  clear hh hp
  go_wp2_with (fail)
  refine leaves_cons (f := 83) (args := #[.pointer (some ⟨w.heap.size, 0, none⟩)]) (by simp) (by simp [go_sem]) ?_
  refine (catch_err ⟨w.heap.size, 0, none⟩ x _ (.int .i64 0) (cell_of_block HH.out 0) (frozen_of_block HH.out 0) []).mono ?_
  rintro e u' w'' ⟨⟨v2, rfl⟩, rfl, rfl⟩
  have q1 : (w1.setCell ⟨w.heap.size, 0, none⟩ (.int .i64 x)).cell? ⟨w.heap.size, 0, none⟩ = some (.int .i64 x) := cell_of_block ((heap_setCell_same HH.out _).trans rfl) 0
  exact ⟨.int .i64 x, by simp [results, Tryz.results45, go_sem, q1], Or.inr ⟨x, hx, rfl, hPE x _ _ HP.out (Fp.setCell _ ⟨w.heap.size, 0, none⟩ _)⟩⟩
end
end Go.Proofs.YtkagolpnaicdoaaGreatDoor
