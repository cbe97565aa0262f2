/-
 Slices of cells as they lie. engine: twice. Functions that the evaluator meets by what they are known to do: twice, of one cell. Counting, searching and joining, where bytes are not known. The checksum: by a table of four bits, and by bits: the same. The checksum: what it computes, and the document's. The sum of a text, met. States that are written down: values and blocks compared, memory less what is of no use. What is met at calls, one list; package-level variables.
-/
import Derived.Test.YtigajcabgaddgaaGreatDoorWCellPure
import Derived.Test.YtigajcabgaddgaaGreatDoorWRegionN
import Derived.Test.YtigajcabgaddgaaGreatDoorWEwN
import Derived.Test.YtigajcabgaddgaaGreatDoorRows
import Derived.DeepKeys4
import Derived.Test.YtigajcabgaddgaaGreatDoorWMem
import Derived.Test.YtigajcabgaddgaaGreatDoorWRegion
import Derived.Laws.BitsLemmas
import Derived.IntWalk
set_option maxRecDepth 100000
set_option maxHeartbeats 8000000
namespace Go.Proofs.YtigajcabgaddgaaGreatDoor
section
open Go.RowKit
structure CelCells (w : World) (b o : Nat) (c : Cel) : Prop where
 c0 : w.cell? ⟨b, o, none⟩ = some (.string c.row)
 c1 : w.cell? ⟨b, o + 1, none⟩ = some (.string c.col)
 c2 : w.cell? ⟨b, o + 2, none⟩ = some (.int .u64 c.ts)
 c3 : w.cell? ⟨b, o + 3, none⟩ = some (.int .u64 c.seq)
 c4 : w.cell? ⟨b, o + 4, none⟩ = some (.bool c.del)
 c5 : w.cell? ⟨b, o + 5, none⟩ = some (.string c.val)
theorem CelCells.fp {w w' : World} {b o : Nat} {c : Cel} {S : List Nat} (h : CelCells w b o c) (hf : Fp S w w') (hb : b < w.heap.size) (hS : b ∉ S) : CelCells w' b o c :=
 ⟨(hf.cell (by exact hb) hS).trans h.c0, (hf.cell (by exact hb) hS).trans h.c1, (hf.cell (by exact hb) hS).trans h.c2, (hf.cell (by exact hb) hS).trans h.c3, (hf.cell (by exact hb) hS).trans h.c4, (hf.cell (by exact hb) hS).trans h.c5⟩
structure CelsAt (w : World) (a : Option Addr) (len : Nat) (l : List Cel) : Prop where
 len : len = l.length
 cells : l = [] ∨ ∃ b o, a = some ⟨b, o, none⟩ ∧ b < w.heap.size ∧ ∀ i (h : i < l.length), CelCells w b (o + i * 6) l[i]
 ok : ∀ c ∈ l, CelOK c
theorem CelsAt.fp {w w' : World} {a : Option Addr} {len : Nat} {l : List Cel} (h : CelsAt w a len l) (hf : Fp [] w w') : CelsAt w' a len l := by
 refine ⟨h.len, ?_, h.ok⟩
 rcases h.cells with h0 | ⟨b, o, rfl, hb, hc⟩
 ·exact Or.inl h0
 ·exact Or.inr ⟨b, o, rfl, Nat.lt_of_lt_of_le hb hf.size, fun i hi => (hc i hi).fp hf hb (by simp)⟩
theorem cels_get {w : World} {a : Option Addr} {len k : Nat} {l : List Cel} (h : CelsAt w a len l) (hk : k < l.length) : ∃ b1 o1, a = some ⟨b1, o1, none⟩ ∧ b1 < w.heap.size ∧ ∀ w2, Fp [] w w2 → CelCells w2 b1 (o1 + k * 6) l[k] := by
 rcases h.cells with h0 | ⟨b1, o1, h1, h2, h3⟩
 ·subst h0; exact absurd hk (Nat.not_lt_zero _)
 ·exact ⟨b1, o1, h1, h2, fun w2 hf => (h3 k hk).fp hf h2 (by simp)⟩
end
section
open Go.RowKit Go.Lib Go.Maps Go.MapKept Go.ChangeMaps
section
variable {P : Program} {t k e : TypeId} {κ ν : Type}
theorem MTy.entry_new (M : MTy P t k e κ ν) {w : World} {b : Nat} (h : w.heap[b]? = some (.map #[] 0)) {x : κ} (hx : M.ok x) :
  (Instr.mapEntry t (.map (some b)) (M.kv x)).run P w = .ok (.tuple #[M.mv M.zero, .int .i64 0]) (setBlock w b (.map #[⟨M.kv x, M.mv M.zero, 0⟩] 1)) := by
 obtain ⟨l, hl⟩ := M.key hx
 have hf : (Instr.findKey k (M.kv x) []).run P w = .ok none w := by
  rcases M.K.find w hl [] (by simp) with ⟨h1, _⟩ | ⟨j, y, _, h2, _⟩
  ·exact h1
  ·simp at h2
 simp [Instr.mapEntry, run_underlying M.ht, MapKept.run_getObj_map h, M.K.check w false hl, hf, M.hz, MapKept.run_setObj_map _ h, Result.andThen, setBlock, goInt]
theorem MTy.entry_again (M : MTy P t k e κ ν) {w : World} {b : Nat} {v : Value} {x : κ} (h : w.heap[b]? = some (.map #[⟨M.kv x, v, 0⟩] 1)) (hx : M.ok x) :
  (Instr.mapEntry t (.map (some b)) (M.kv x)).run P w = .ok (.tuple #[v, .int .i64 0]) (setBlock w b (.map #[⟨M.kv x, v, 0⟩] 1)) := by
 obtain ⟨l, hl⟩ := M.key hx
 have hf : (Instr.findKey k (M.kv x) [⟨M.kv x, v, 0⟩]).run P w = .ok (some (0, v)) w := by
  rcases M.K.find w hl [⟨M.kv x, v, 0⟩] (by intro y hy; simp at hy; subst hy; exact ⟨l, hl⟩) with ⟨_, h1⟩ | ⟨j, y, h1, h2, _⟩
  ·exact absurd rfl (h1 _ (List.mem_singleton.2 rfl))
  ·match j, h2 with
   |0, h2 => cases h2; exact h1
 simp [Instr.mapEntry, run_underlying M.ht, MapKept.run_getObj_map h, M.K.check w false hl, hf, M.K.stays w hl, MapKept.run_setObj_map _ h, Result.andThen, setBlock, goInt]
theorem entry_store {w : World} {b : Nat} {kv v : Value} (h : w.heap[b]? = some (.map #[⟨kv, v, 0⟩] 1)) (val : Value) :
  (Instr.entryStore t (.map (some b)) (.int .i64 0) val).run P w = .ok () (setBlock w b (.map #[⟨kv, val, 0⟩] 1)) := by
 simp [Instr.entryStore, MapKept.run_getObj_map h, MapKept.run_setObj_map _ h, Result.andThen, setBlock, asInt, asIntOf]
theorem MTy.look_new (M : MTy P t k e κ ν) {w : World} {b : Nat} (h : w.heap[b]? = some (.map #[] 0)) {x : κ} (hx : M.ok x) :
  (Instr.lookup t (.map (some b)) (M.kv x) false).run P w = .ok (M.mv M.zero) w := by
 obtain ⟨l, hl⟩ := M.key hx
 have hf : (Instr.findKey k (M.kv x) []).run P w = .ok none w := by
  rcases M.K.find w hl [] (by simp) with ⟨h1, _⟩ | ⟨j, y, _, h2, _⟩
  ·exact h1
  ·simp at h2
 simp [Instr.lookup, run_underlying M.ht, MapKept.run_getObj_map h, M.K.check w _ hl, hf, M.hz, Result.andThen]
theorem MTy.look_again (M : MTy P t k e κ ν) {w : World} {b : Nat} {v : Value} {x : κ} (h : w.heap[b]? = some (.map #[⟨M.kv x, v, 0⟩] 1)) (hx : M.ok x) :
  (Instr.lookup t (.map (some b)) (M.kv x) false).run P w = .ok v w := by
 obtain ⟨l, hl⟩ := M.key hx
 have hf : (Instr.findKey k (M.kv x) [⟨M.kv x, v, 0⟩]).run P w = .ok (some (0, v)) w := by
  rcases M.K.find w hl [⟨M.kv x, v, 0⟩] (by intro y hy; simp at hy; subst hy; exact ⟨l, hl⟩) with ⟨_, h1⟩ | ⟨j, y, h1, h2, _⟩
  ·exact absurd rfl (h1 _ (List.mem_singleton.2 rfl))
  ·match j, h2 with
   |0, h2 => cases h2; exact h1
 simp [Instr.lookup, run_underlying M.ht, MapKept.run_getObj_map h, M.K.check w _ hl, hf, Result.andThen]
theorem map_len {P : Program} {t k e : TypeId} (ht : P.underlying t = some (.map k e)) {w : World} {b : Nat} {es : Array MapEntry} {cl : Nat} (h : w.heap[b]? = some (.map es cl)) (ty : TypeId) : (Builtin.len_ #[t] ty #[.map (some b)]).run P w = .ok (.int .i64 es.size) w := by
 simp [Builtin.len_, run_underlying ht, MapKept.run_getObj_map h, Result.andThen, goInt]
end
theorem laidE : laidOutB Tryz.prog = true := by kernel_rfl
theorem cellRowE : (98 : TypeId) < Tryz.prog.types.size := of_decide_eq_true (by kernel_rfl)
theorem cellWideE : (match Tryz.prog.underlying 98 with | some (.array _ _) | some (.struct _) => true | _ => false) = true := by kernel_rfl
theorem cellKeyed : Keyed Tryz.prog 98 := Keyed.of_law (deep_law_laid laidE (m := 2) (by omega) cellRowE (by kernel_rfl) cellWideE)
theorem cells24E : Tryz.prog.cellsOf 98 = 6 := by kernel_rfl
theorem cells9E : Tryz.prog.cellsOf 9 = 1 := by kernel_rfl
theorem cells22E : Tryz.prog.cellsOf 23 = 1 := by kernel_rfl
theorem cells4E : Tryz.prog.cellsOf 4 = 1 := by kernel_rfl
theorem keyTypeE : Tryz.prog.keyType 98 = true := by kernel_rfl
theorem litU64 {n : Nat} (h : n < 18446744073709551616) : (Lit.int .u64 n).wf = true := by
 simp [Lit.wf, IntKind.min, IntKind.max, IntKind.bits, IntKind.signed]
 omega
theorem cellFormed (row col val : ByteArray) (ts seq : Nat) (del : Bool) : (cellV ⟨row, col, ts, seq, del, val⟩).formed Tryz.prog 98 = true := by simp [Value.formed, cellV, Tryz.underlying98, cells24E]
theorem cellLits (n : Nat) (row col val : ByteArray) (ts seq : Nat) (del : Bool) (h1 : ts < 18446744073709551616) (h2 : seq < 18446744073709551616) (h3 : row.size ≤ maxLen) (h4 : col.size ≤ maxLen) (h5 : val.size ≤ maxLen) :
  ∃ l, Tryz.prog.keyLits (n + 2) 98 (cellV ⟨row, col, ts, seq, del, val⟩).cells.toList = some l := by
 simp [Program.keyLits, Tryz.underlying98, Tryz.underlying9, Tryz.underlying23, Tryz.underlying4, cells24E, cells9E, cells22E, cells4E, cellV, Value.cells, if_pos h3, if_pos h4, if_pos h5, litU64 h1, litU64 h2]
theorem cellFuel (N : Nat) (h : 98 < N) : ∃ n, N + 1 = n + 2 := ⟨N - 1, by omega⟩
theorem cellKey (c : Cel) (h : CelOK c) : ∃ l, keyOf Tryz.prog 98 (cellV c) = some l := by
 obtain ⟨row, col, ts, seq, del, val⟩ := c
 obtain ⟨h1, h2, h3, h4, h5⟩ := h
 obtain ⟨n, hn⟩ := cellFuel _ cellRowE
 obtain ⟨l, hl⟩ := cellLits n row col val ts seq del h1 h2 h3 h4 h5
 unfold keyOf
 rw [Tryz.underlying98]
 simp only [cellFormed, keyTypeE, Bool.and_true, if_true]
 rw [hn, hl]
 exact ⟨_, rfl⟩
noncomputable def hadTy : MTy Tryz.prog 507 98 3 Cel Int where
 K := cellKeyed
 ht := Tryz.underlying507
 kv := cellV
 mv := .int .i64
 ok := CelOK
 inj := fun {a b} h => by
  obtain ⟨_, _, _, _, _, _⟩ := a
  obtain ⟨_, _, _, _, _, _⟩ := b
  unfold cellV at h
  simp at h
  obtain ⟨e1, e2, e3, e4, e5, e6⟩ := h
  have e3 := Int.ofNat.inj e3
  have e4 := Int.ofNat.inj e4
  subst e1 e2 e3 e4 e5 e6
  rfl
 key := fun {a} h => cellKey a h
 zero := 0
 hz := fun w => by kernel_rfl
def mapSt (kv : Value) (o : Option Int) : Obj := match o with
 |none => .map #[] 0
 |some v => .map #[⟨kv, .int .i64 v, 0⟩] 1
section
variable {P : Program} {t k e : TypeId} {κ : Type}
theorem MTy.st_look (M : MTy P t k e κ Int) (hmv : ∀ v, M.mv v = .int .i64 v) (hz : M.zero = 0) {w : World} {b : Nat} {x : κ} {o : Option Int} (h : w.heap[b]? = some (mapSt (M.kv x) o)) (hx : M.ok x) :
  (Instr.lookup t (.map (some b)) (M.kv x) false).run P w = .ok (.int .i64 (o.getD 0)) w := by
 cases o with
 |none => have := M.look_new h hx; rw [hmv, hz] at this; exact this
 |some v => exact M.look_again h hx
theorem MTy.st_entry (M : MTy P t k e κ Int) (hmv : ∀ v, M.mv v = .int .i64 v) (hz : M.zero = 0) {w : World} {b : Nat} {x : κ} {o : Option Int} (h : w.heap[b]? = some (mapSt (M.kv x) o)) (hx : M.ok x) :
  (Instr.mapEntry t (.map (some b)) (M.kv x)).run P w = .ok (.tuple #[.int .i64 (o.getD 0), .int .i64 0]) (setBlock w b (mapSt (M.kv x) (some (o.getD 0)))) := by
 cases o with
 |none => have := M.entry_new h hx; rw [hmv, hz] at this; exact this
 |some v => exact M.entry_again h hx
end
theorem st_store {P : Program} {t : TypeId} {w : World} {b : Nat} {kv : Value} {v : Int} (h : w.heap[b]? = some (mapSt kv (some v))) (u : Int) :
  (Instr.entryStore t (.map (some b)) (.int .i64 0) (.int .i64 u)).run P w = .ok () (setBlock w b (mapSt kv (some u))) := entry_store h _
theorem setBlock_at {w : World} {b : Nat} {o o2 : Obj} (h : w.heap[b]? = some o) : (setBlock w b o2).heap[b]? = some o2 := by
 have := heap_lt h
 simp [setBlock, this]
structure CountC (w0 : World) (m : Nat) (kv : Value) (o : Option Int) (a z : Bool) (w : World) : Prop where
 fp : Fp [m] w0 w
 map : w.heap[m]? = some (mapSt kv (if z then some (o.getD 0 + 1) else if a then some (o.getD 0) else o))
theorem CountC.pre {w0 w : World} {m : Nat} {kv : Value} {o : Option Int} {a z : Bool} (h : CountC w0 m kv o a z w) (hz : z = false) : w.heap[m]? = some (mapSt kv (if a then some (o.getD 0) else o)) := by
 have := h.map
 rw [hz] at this
 exact this
theorem getD_if (o : Option Int) (a : Bool) : (if a then some (o.getD 0) else o).getD 0 = o.getD 0 := by cases a <;> rfl
theorem twice_any (w : World) (a : Option Addr) (n cap : Nat) (l : List Cel) (x : Cel) (hl : CelsAt w a n l) (hn : n ≤ 1000000) (h0 : 0 < n) (hx : CelOK x) (hsame : ∀ c ∈ l, (⟨c.row, c.col, c.ts, 0, false, ⟨#[]⟩⟩ : Cel) = x) :
  Calls Tryz.prog 356 #[.slice a n cap] w fun e w' => e = .returned (.bool (decide (1 < n))) ∧ Fp [] w w' := by
 have HLN := Lib.hid hl.len
 have hmm := @run_makeMap Tryz.prog
 have HL := Lib.hid hl
 have HS := Lib.hid hsame
 have HX := Lib.hid hx
 clear hl hsame hx
 obtain ⟨m, hm0⟩ : ∃ m, m = w.heap.size := ⟨_, rfl⟩
 go_enter Tryz.func356, Tryz.ntmps356
 go_wp2_with (fail)
 rw [← hm0]
 have HM0 := Lib.hid hm0
 clear hm0
 go_loopg [9] n (fun g vi W => ∃ k : Nat, g + k = n ∧ vi = .int .i64 k ∧ W.heap[m]? = some (mapSt (cellV x) (if k = 0 then none else some k)) ∧ Fp [] w W)
 case atStart => exact ⟨0, rfl, rfl, heap_alloc_at HM0.out _, Fp.alloc _ _⟩
 case round =>
  obtain ⟨k, hg, rfl, hm, hf⟩ := hrel
  have HM := Lib.hid hm
  have HF := Lib.hid hf
  clear hm hf
  by_cases hk : k < n
  ·have hkl : k < l.length := by have := HLN.out; omega
   obtain ⟨b1, o1, rfl, hb1, hcells⟩ := cels_get HL.out hkl
   have hxc := HS.out l[k] (List.getElem_mem hkl)
   obtain ⟨c, hc⟩ : ∃ c, l[k] = c := ⟨_, rfl⟩
   rw [hc] at hcells hxc
   obtain ⟨q0, q1, q2, q3, q4, q5⟩ := hcells wr HF.out
   clear hcells hc
   obtain ⟨row, col, ts, seq, del, val⟩ := c
   simp only at hxc
   subst hxc
   obtain ⟨o, ho⟩ : ∃ o : Option Int, (if k = 0 then none else some (k : Int)) = o := ⟨_, rfl⟩
   have hod : o.getD 0 = k := by
    rw [← ho]
    by_cases e : k = 0
    ·subst e; rfl
    ·rw [if_neg e]; rfl
   rw [ho] at HM
   clear ho
   obtain ⟨W, hW⟩ : ∃ W, W = wr.alloc (.cells #[.string row, .string col, .int .u64 ts, .int .u64 seq, .bool del, .string val] 98) := ⟨_, rfl⟩
   have hWF : Fp [] wr W := by rw [hW]; exact Fp.alloc _ _
   have hbx : W.heap[wr.heap.size]? = some (.cells #[.string row, .string col, .int .u64 ts, .int .u64 seq, .bool del, .string val] 98 (0, 0)) := by rw [hW]; exact heap_alloc_at rfl _
   have hmlt := heap_lt HM.out
   have HXB : Hid (∀ w', Fp [m] W w' → w'.cell? ⟨wr.heap.size, 0, none⟩ = some (.string row) ∧ w'.cell? ⟨wr.heap.size, 1, none⟩ = some (.string col) ∧ w'.cell? ⟨wr.heap.size, 2, none⟩ = some (.int .u64 ts)) := fun w' hf => by
    have hb := (hf.block _ (heap_lt hbx) (by simp; omega)).trans hbx
    exact ⟨cell_of_block hb 0, cell_of_block hb 1, cell_of_block hb 2⟩
   have HMW := Lib.hid ((hWF.block _ hmlt (by simp)).trans HM.out)
   have HF1 := Lib.hid (HF.out.trans hWF (by simp))
   have u1 : IntKind.i64.wrap ((k : Int) + 1) = (k : Int) + 1 := by rw [IntKind.wrap_i64]; omega
   have hok := HX.out
   clear hbx hWF HM
   go_wp2_with (fail)
   rw [← hW]
   clear hW q0 q1 q2 q3 q4 q5
   refine wp_region_n (fun bb w3 => CountC W m (cellV ⟨row, col, ts, 0, false, ⟨#[]⟩⟩) o (bb 10) (bb 12) w3) (Fp [m]) (by kernel_rfl) (by kernel_rfl) ⟨(Fp.drew _).mono (by simp), ((Fp.drew _).block _ (heap_lt HMW.out) (by simp)).trans HMW.out⟩ ?_
   apply nx_plain (fun _ _ h => h) rfl rfl rfl
   ·intro b a w hC hA K hK
    have h3 := hA.free 3 _ (by kernel_rfl) rfl
    simp only [Oper.wp, execOp]; go_simp
    exact hK _ hC (Fp.refl _ _)
   apply nx_plain (fun _ _ h => h) rfl rfl rfl
   ·intro b a w hC hA K hK
    have h5 := hA.free 5 _ (by kernel_rfl) rfl
    simp only [Oper.wp, execOp]; go_simp
    exact hK _ hC (Fp.refl _ _)
   apply nx_plain (fun _ _ h => h) rfl rfl rfl
   ·intro b a w hC hA K hK
    have h14 : a.tmps[14]?.getD undef = _ := hA.dep 1 14 _ (by kernel_rfl) rfl
    obtain ⟨y0, y1, y2⟩ := HXB.out _ hC.fp
    simp only [Oper.wp, execOp]; go_simp
    exact hK _ hC (Fp.refl _ _)
   apply nx_plain (fun _ _ h => h) rfl rfl rfl
   ·intro b a w hC hA K hK
    have h5 := hA.free 5 _ (by kernel_rfl) rfl
    simp only [Oper.wp, execOp]; go_simp
    exact hK _ hC (Fp.refl _ _)
   apply nx_plain (fun _ _ h => h) rfl rfl rfl
   ·intro b a w hC hA K hK
    have h16 : a.tmps[16]?.getD undef = _ := hA.dep 3 16 _ (by kernel_rfl) rfl
    obtain ⟨y0, y1, y2⟩ := HXB.out _ hC.fp
    simp only [Oper.wp, execOp]; go_simp
    exact hK _ hC (Fp.refl _ _)
   apply nx_plain (fun _ _ h => h) rfl rfl rfl
   ·intro b a w hC hA K hK
    have h5 := hA.free 5 _ (by kernel_rfl) rfl
    simp only [Oper.wp, execOp]; go_simp
    exact hK _ hC (Fp.refl _ _)
   apply nx_plain (fun _ _ h => h) rfl rfl rfl
   ·intro b a w hC hA K hK
    have h18 : a.tmps[18]?.getD undef = _ := hA.dep 5 18 _ (by kernel_rfl) rfl
    obtain ⟨y0, y1, y2⟩ := HXB.out _ hC.fp
    simp only [Oper.wp, execOp]; go_simp
    exact hK _ hC (Fp.refl _ _)
   apply nx_plain (fun _ _ h => h) rfl rfl rfl
   ·intro b a w hC hA K hK
    have h15 : a.tmps[15]?.getD undef = _ := hA.dep 2 15 _ (by kernel_rfl) rfl
    have h17 : a.tmps[17]?.getD undef = _ := hA.dep 4 17 _ (by kernel_rfl) rfl
    have h19 : a.tmps[19]?.getD undef = _ := hA.dep 6 19 _ (by kernel_rfl) rfl
    simp only [Oper.wp, execOp]; go_simp
    exact hK _ hC (Fp.refl _ _)
   apply nx_plain (fun _ _ h => h) rfl rfl rfl
   ·intro b a w hC hA K hK
    have h13 : a.tmps[13]?.getD undef = _ := hA.dep 0 13 _ (by kernel_rfl) rfl
    have h20 : a.tmps[20]?.getD undef = _ := hA.dep 7 20 _ (by kernel_rfl) rfl
    have r : (Instr.lookup 507 (.map (some m)) (.agg #[.string row, .string col, .int .u64 ts, .int .u64 0, .bool false, .string ⟨#[]⟩]) false).run Tryz.prog w = .ok (.int .i64 k) w := by
     have := hadTy.st_look (fun _ => rfl) rfl (x := ⟨row, col, ts, 0, false, ⟨#[]⟩⟩) (hC.pre (hA.post 12 (by kernel_rfl))) hok
     rw [getD_if, hod] at this
     exact this
    simp only [Oper.wp, execOp]; go_simp
    exact hK _ hC (Fp.refl _ _)
   apply nx_plain (fun _ _ h => h) rfl rfl rfl
   ·intro b a w hC hA K hK
    have h21 : a.tmps[21]?.getD undef = _ := hA.dep 8 21 _ (by kernel_rfl) rfl
    simp only [Oper.wp, execOp]; go_simp
    exact hK _ hC (Fp.refl _ _)
   apply nx_turn (eqV (.tuple #[.int .i64 k, .int .i64 0])) rfl rfl rfl
   ·intro b a w hC hA K hK
    have h13 : a.tmps[13]?.getD undef = _ := hA.dep 0 13 _ (by kernel_rfl) rfl
    have h20 : a.tmps[20]?.getD undef = _ := hA.dep 7 20 _ (by kernel_rfl) rfl
    have hh := hC.pre (hA.post 12 (by kernel_rfl))
    have r := hadTy.st_entry (fun _ => rfl) rfl (x := ⟨row, col, ts, 0, false, ⟨#[]⟩⟩) hh hok
    rw [getD_if, hod] at r
    have r : (Instr.mapEntry 507 (.map (some m)) (.agg #[.string row, .string col, .int .u64 ts, .int .u64 0, .bool false, .string ⟨#[]⟩])).run Tryz.prog w = .ok (.tuple #[.int .i64 k, .int .i64 0]) _ := r
    have hst := setBlock_at (o2 := mapSt (cellV ⟨row, col, ts, 0, false, ⟨#[]⟩⟩) (some k)) hh
    simp only [Oper.wp, execOp]; go_simp
    exact hK _ _ ⟨hC.fp.trans (Fp.setBlock _ _ _) (by simp), by have h12 := hA.post 12 (by kernel_rfl); simp only [upd] at *; simp [h12, hod]; exact hst⟩ (Fp.setBlock _ _ _) rfl
   apply nx_plain (fun _ _ h => h) rfl rfl rfl
   ·intro b a w hC hA K hK
    have h23 : a.tmps[23]?.getD undef = _ := hA.dep 10 23 _ (by kernel_rfl) rfl
    simp only [Oper.wp, execOp]; go_simp
    exact hK _ hC (Fp.refl _ _)
   apply nx_effect (fun _ => True) rfl rfl
   ·intro b a w hC hA K hK
    have h13 : a.tmps[13]?.getD undef = _ := hA.dep 0 13 _ (by kernel_rfl) rfl
    have h24 : a.tmps[24]?.getD undef = _ := hA.dep 11 24 _ (by kernel_rfl) rfl
    have h22 : a.tmps[22]?.getD undef = _ := hA.dep 9 22 _ (by kernel_rfl) rfl
    have hh := hC.map
    rw [hA.self, hA.pre 10 (by kernel_rfl), hod] at hh
    have r : (Instr.entryStore 507 (.map (some m)) (.int .i64 0) (.int .i64 ((k : Int) + 1))).run Tryz.prog w = .ok () _ := st_store hh _
    have hst := setBlock_at (o2 := mapSt (cellV ⟨row, col, ts, 0, false, ⟨#[]⟩⟩) (some ((k : Int) + 1))) hh
    simp only [Oper.wp, execOp]; go_simp
    exact hK undef _ ⟨hC.fp.trans (Fp.setBlock _ _ _) (by simp), by simp [upd, hod]; exact hst⟩ (Fp.setBlock _ _ _) trivial
   refine ⟨?_, ?_⟩
   ·refine ⟨fun _ _ _ _ _ => trivial, ?_⟩
    refine stabN_val _ ?_
    refine ⟨fun _ _ _ _ h => h, ?_⟩
    refine stabN_val _ ?_
    refine stabN_val _ ?_
    refine stabN_val _ ?_
    refine stabN_val _ ?_
    refine stabN_val _ ?_
    refine stabN_val _ ?_
    refine stabN_val _ ?_
    refine stabN_val _ ?_
    refine stabN_val _ ?_
    refine stabN_val _ ?_
    exact trivial
   ·intro w3 bb hC hbb
    simp only [List.reverse_cons, List.reverse_nil, List.nil_append, List.cons_append]
    iterate 10 (refine all_val ?_)
    refine all_some ?_
    intro v10 u10
    obtain rfl := u10
    iterate 1 (refine all_val ?_)
    refine all_some ?_
    intro v12 u12
    refine all_nil ?_
    simp only [putAll, Act.put, List.setIfInBounds_toArray, List.set_cons_succ, List.set_cons_zero]
    have hm3 := hC.map
    rw [hbb 12 (by decide), hod] at hm3
    have HM3 := Lib.hid hm3
    have HF3 := Lib.hid hC.fp
    clear hC hm3 hbb
    go_wp2_with (fail)
    go_roundg (gk - 1)
    case measure => omega
    case rel => exact ⟨k + 1, by omega, by go_num, by rw [if_neg (by omega), Int.natCast_add]; exact HM3.out, HF1.out.trans HF3.out (by have := HM0.out; simp; omega)⟩
  ·obtain rfl : k = n := by omega
   have hm : wr.heap[m]? = some (.map #[⟨cellV x, .int .i64 k, 0⟩] 1) := by have := HM.out; rw [if_neg (by omega)] at this; exact this
   have hlen := map_len Tryz.underlying507 hm 3
   simp only [List.size_toArray, List.length_cons, List.length_nil] at hlen
   go_wp2_with (fail)
   go_ret
   have e : decide ((1 : Int) < (k : Int)) = decide (1 < k) := decide_eq_decide.2 (by omega)
   exact ⟨congrArg (fun b => Ending.returned (.bool b)) e, HF.out⟩
end
section
open Go.RowKit
variable [Val]
section
variable {w0 : World} {ρ : ERho}
theorem i_twice {l : List AV} {xs : List Value} (hx : VRs ρ l xs) : EVN Tryz.prog w0 ρ (itwice l) (callFunc 356 xs.toArray) := by
 refine evn_calls (fun w => call_enter Tryz.func356 (by kernel_rfl) (by kernel_rfl) _ w) fun s v s' hm w hw _ => ?_
 unfold itwice at hm
 split at hm
 ·rename_i i o n c
  cases hx with
  |cons _ x1 _ _ h1 h2 =>
   cases h2
   obtain ⟨h3, h4⟩ := ecase_ok hm
   have hn := nbeq_t h3
   subst hn
   obtain ⟨cc, s1, h5, h6⟩ := ebind_ok h4
   obtain ⟨hb, rfl⟩ := ecells_ok h5
   cases h1 with
   |sl _ _ _ _ c' r hr hc =>
    obtain ⟨ca, f, z, hc1, hz, hd0, hroom, hl⟩ := hp_cells hw hb hr
    obtain ⟨ct, cl, cf⟩ := cc
    simp only at h6 hb hc1 hroom hl
    rw [hd0] at hl ⊢
    obtain ⟨row, hrow⟩ : ∃ row, ltake (ldrop cl o) 6 = row := ⟨_, rfl⟩
    rw [hrow] at h6
    rw [ltake_eq, ldrop_eq] at hrow
    split at h6
    ·rename_i rr rc t q d rv
     obtain ⟨h7, h8⟩ := ecase_ok h6
     obtain ⟨rfl, rfl⟩ := epure_ok h8
     simp only [iand_eq, Bool.and_eq_true] at h7
     obtain ⟨⟨e1, e2⟩, e3, e4, e5⟩ := h7
     have ht := nblt_iff.1 e1
     have hq := nblt_iff.1 e2
     have b1 := nble_iff.1 e3
     have b2 := nble_iff.1 e4
     have b3 := nble_iff.1 e5
     rw [llen_eq] at b1 b2 b3
     have at_ : ∀ (j : Nat) (u : AV), j < 6 → ((cl.drop o).take 6)[j]? = some u → ∃ x, ca[o + j]? = some x ∧ VR ρ u x := fun j u hj hu => by
      rw [List.getElem?_take, if_pos hj, List.getElem?_drop] at hu
      obtain ⟨x, hx, hv⟩ := hl (o + j) u hu
      rw [Nat.zero_add] at hx
      exact ⟨x, hx, hv⟩
     obtain ⟨x0, g0, v0⟩ := at_ 0 (.st rr) (by omega) (by rw [hrow]; rfl)
     obtain ⟨x1, g1, v1⟩ := at_ 1 (.st rc) (by omega) (by rw [hrow]; rfl)
     obtain ⟨x2, g2, v2⟩ := at_ 2 (.it .u64 (.ofNat t)) (by omega) (by rw [hrow]; rfl)
     obtain ⟨x3, g3, v3⟩ := at_ 3 (.it .u64 (.ofNat q)) (by omega) (by rw [hrow]; rfl)
     obtain ⟨x4, g4, v4⟩ := at_ 4 (.bo d) (by omega) (by rw [hrow]; rfl)
     obtain ⟨x5, g5, v5⟩ := at_ 5 (.st rv) (by omega) (by rw [hrow]; rfl)
     cases v0
     cases v1
     cases v2
     cases v3
     cases v4
     cases v5
     have cell : ∀ (j : Nat) (x : Value), ca[o + j]? = some x → w.cell? ⟨r.b, o + j, none⟩ = some x := fun j x hx => (cell_of_block hc1 _).trans hx
     have hok : CelOK ⟨bsA rr, bsA rc, t, q, d, bsA rv⟩ := ⟨ht, hq, by show (bsA rr).size ≤ _; rw [bsA_size]; omega, by show (bsA rc).size ≤ _; rw [bsA_size]; omega, by show (bsA rv).size ≤ _; rw [bsA_size]; omega⟩
     have hk : CelOK ⟨bsA rr, bsA rc, t, 0, false, ⟨#[]⟩⟩ := ⟨ht, (by show 0 < 18446744073709551616; decide), by show (bsA rr).size ≤ _; rw [bsA_size]; omega, by show (bsA rc).size ≤ _; rw [bsA_size]; omega, (by show (⟨#[]⟩ : ByteArray).size ≤ 9223372036854775807; decide)⟩
     have hcl : CelsAt w (some ⟨r.b, 0 + o, none⟩) 1 [⟨bsA rr, bsA rc, t, q, d, bsA rv⟩] := by
      refine ⟨rfl, Or.inr ⟨r.b, 0 + o, rfl, heap_lt hc1, fun i hi => ?_⟩, fun c hc => by rw [List.mem_singleton.1 hc]; exact hok⟩
      have : i = 0 := by simp only [List.length_cons, List.length_nil] at hi; omega
      subst this
      rw [show 0 + o + 0 * 6 = o by omega]
      exact ⟨cell 0 _ g0, cell 1 _ g1, cell 2 _ g2, cell 3 _ g3, cell 4 _ g4, cell 5 _ g5⟩
     refine (twice_any w _ 1 c' _ ⟨bsA rr, bsA rc, t, 0, false, ⟨#[]⟩⟩ hcl (by omega) (by omega) hk fun c hc => by rw [List.mem_singleton.1 hc]).mono ?_
     rintro e w' ⟨rfl, hf⟩
     exact ⟨_, rfl, kok_calm (.bo false) hw rfl rfl hf⟩
    ·exact (efail_ok (e := [121]) h6).elim
 ·exact (efail_ok (e := [120]) (s := s) hm).elim
end
end
section
set_option linter.unusedSectionVars false
open Go.RowKit
noncomputable section
end
section
variable [Val]
variable {w0 : World} {ρ : ERho}
end
end
section
def polyN : Nat := 3988292384
def bitN (n : Nat) : Nat := (n / 2) ^^^ (if n % 2 = 1 then polyN else 0)
def fourL : List Nat := [0, 498536548, 997073096, 651767980, 1994146192, 1802195444, 1303535960, 1342533948, 3988292384, 4027552580, 3604390888, 3412177804, 2607071920, 2262029012, 2685067896, 3183342108]
def nibN (n : Nat) : Nat := (n / 16) ^^^ fourL.getD (n % 16) 0
theorem xor_div2 (a b : Nat) : (a ^^^ b) / 2 = (a / 2) ^^^ (b / 2) := by
 have := Nat.shiftRight_xor_distrib (a := a) (b := b) (i := 1)
 simpa [Nat.shiftRight_eq_div_pow] using this
theorem xor_mod2 (a b : Nat) : (a ^^^ b) % 2 = (a % 2 + b % 2) % 2 := by
 have h := Nat.xor_mod_two_pow (a := a) (b := b) (n := 1)
 rw [Nat.pow_one] at h
 rw [h]
 rcases Nat.mod_two_eq_zero_or_one a with ha | ha <;> rcases Nat.mod_two_eq_zero_or_one b with hb | hb <;> rw [ha, hb] <;> rfl
theorem bit_xor (a b : Nat) : bitN (a ^^^ b) = bitN a ^^^ bitN b := by
 unfold bitN
 rw [xor_div2, xor_mod2]
 rcases Nat.mod_two_eq_zero_or_one a with ha | ha <;> rcases Nat.mod_two_eq_zero_or_one b with hb | hb <;> rw [ha, hb]
 ·simp
 ·simp [Nat.xor_assoc]
 ·simp [Nat.xor_assoc, Nat.xor_comm (b / 2)]
 ·simp only [Nat.reduceAdd, Nat.reduceMod, Nat.reduceEqDiff, if_false, if_true, Nat.xor_zero]
  rw [Nat.xor_assoc, Nat.xor_comm polyN, Nat.xor_assoc, Nat.xor_self, Nat.xor_zero]
theorem bit_even (m : Nat) : bitN (2 * m) = m := by
 unfold bitN
 rw [Nat.mul_div_cancel_left m (by decide), Nat.mul_mod_right, if_neg (by decide), Nat.xor_zero]
theorem split16 (n : Nat) : n = (16 * (n / 16)) ^^^ (n % 16) := by
 have h := Nat.two_pow_add_eq_or_of_lt (i := 4) (b := n % 16) (Nat.mod_lt _ (by decide)) (n / 16)
 have h2 : (16 * (n / 16)) ^^^ (n % 16) = 2 ^ 4 * (n / 16) + n % 16 := by
  apply Nat.eq_of_testBit_eq
  intro i
  rw [Nat.testBit_two_pow_mul_add _ (Nat.mod_lt _ (by decide)), Nat.testBit_xor, show (16 : Nat) = 2 ^ 4 from rfl, Nat.testBit_two_pow_mul, Nat.testBit_mod_two_pow]
  by_cases hi : i < 4
  ·have : ¬ 4 ≤ i := by omega
   simp [hi, this]
  ·simp [hi]; omega
 omega
theorem nib_bits (n : Nat) : nibN n = bitN (bitN (bitN (bitN n))) := by
 conv => rhs; rw [split16 n]
 rw [bit_xor, show 16 * (n / 16) = 2 * (8 * (n / 16)) by omega, bit_even, bit_xor, show 8 * (n / 16) = 2 * (4 * (n / 16)) by omega, bit_even, bit_xor, show 4 * (n / 16) = 2 * (2 * (n / 16)) by omega, bit_even, bit_xor, bit_even]
 unfold nibN
 congr 1
 have h : n % 16 < 16 := Nat.mod_lt _ (by decide)
 generalize n % 16 = r at h
 have key : ∀ r, r < 16 → fourL.getD r 0 = bitN (bitN (bitN (bitN r))) := by decide
 exact key r h
def nibsN (n : Nat) (b : UInt8) : Nat := nibN (nibN (n ^^^ b.toNat))
def byteR (n : Nat) (b : UInt8) : Nat := bitN (bitN (bitN (bitN (bitN (bitN (bitN (bitN (n ^^^ b.toNat))))))))
theorem byte_same (n : Nat) (b : UInt8) : nibsN n b = byteR n b := by unfold nibsN byteR; rw [nib_bits, nib_bits]
def sumN (n : Nat) (l : List UInt8) : Nat := l.foldl byteR n
theorem bit_lt {n : Nat} (h : n < 4294967296) : bitN n < 4294967296 := by
 unfold bitN
 refine Nat.xor_lt_two_pow (n := 32) (by omega) ?_
 split <;> decide
theorem byteR_lt {n : Nat} {b : UInt8} (h : n < 4294967296) : byteR n b < 4294967296 := by
 have hb := b.toNat_lt
 unfold byteR
 exact bit_lt (bit_lt (bit_lt (bit_lt (bit_lt (bit_lt (bit_lt (bit_lt (Nat.xor_lt_two_pow (n := 32) h (by omega)))))))))
end
section
open Go.RowKit
theorem bits_xor_u32 (a b : Nat) (ha : a < 4294967296) (hb : b < 4294967296) : bits .xor .u32 (a : Int) (b : Int) = ((a ^^^ b : Nat) : Int) := by
 have hx : a ^^^ b < 2 ^ 32 := Nat.xor_lt_two_pow (by omega) (by omega)
 have h1 : (BitVec.ofInt 32 (a : Int)).toNat = a := by
  rw [BitVec.ofInt_natCast, BitVec.toNat_ofNat]; exact Nat.mod_eq_of_lt (by omega)
 have h2 : (BitVec.ofInt 32 (b : Int)).toNat = b := by
  rw [BitVec.ofInt_natCast, BitVec.toNat_ofNat]; exact Nat.mod_eq_of_lt (by omega)
 show IntKind.u32.wrap ((BitVec.ofInt 32 (a : Int) ^^^ BitVec.ofInt 32 (b : Int)).toNat : Int) = _
 rw [BitVec.toNat_xor, h1, h2, IntKind.wrap_u32]
 omega
theorem bits_low_u32 (a : Nat) (ha : a < 4294967296) : bits .and .u32 (a : Int) 15 = ((a % 16 : Nat) : Int) :=
 bits_mask .u32 32 (by decide) (fun n h0 h1 => by rw [IntKind.wrap_u32]; omega) 4 (by decide) a (by omega) (by omega)
def TabAt (w : World) : Prop := ∀ i, i < 16 → w.cell? ⟨6, i, none⟩ = some (.int .u32 (fourL.getD i 0 : Nat))
theorem TabAt.fp {w w' : World} {S : List Nat} (h : TabAt w) (hf : Fp S w w') (hs : 6 ∉ S) : TabAt w' := fun i hi =>
 (hf.cell (p := ⟨6, i, none⟩) (World.block_lt_of_cell? _ _ (h i hi)) hs).trans (h i hi)
theorem four_lt (i : Nat) : fourL.getD i 0 < 4294967296 := by
 by_cases h : i < 16
 ·have key : ∀ r, r < 16 → fourL.getD r 0 < 4294967296 := by decide
  exact key i h
 ·rw [List.getD_eq_getElem?_getD, List.getElem?_eq_none (by show 16 ≤ i; omega)]; decide
theorem bytes_in_crc (w : World) (s : ByteArray) : ∃ cap W, (convert 9 90 (.string s)).run Tryz.prog w = .ok (.slice (some ⟨w.heap.size, 0, none⟩) s.size cap) W ∧
  (∀ j (h : j < s.size), W.cell? ⟨w.heap.size, j, none⟩ = some (.int .u8 s[j].toNat)) ∧ Fp [] w W := by
 have h := run_bytes_of_string (P := Tryz.prog) w 9 90 5 s Tryz.underlying9 Tryz.underlying90 Tryz.underlying5
 refine ⟨_, _, h, ?_, (Fp.drew w).alloc' _⟩
 have hb := heap_alloc_at (w := w.drew) (n := w.heap.size) rfl (.cells (bytesRow s (grownCap w s.size 0 5)) 5 ((bytesRow s (grownCap w s.size 0 5)).size, (bytesRow s (grownCap w s.size 0 5)).size + 1))
 intro j hj
 rw [cell_of_block hb, bytesRow_at s _ j hj]
 rfl
theorem sumN_snoc (n : Nat) (l : List UInt8) (b : UInt8) : sumN n (l ++ [b]) = byteR (sumN n l) b := by unfold sumN; rw [List.foldl_append]; rfl
theorem sumN_lt (l : List UInt8) : ∀ n, n < 4294967296 → sumN n l < 4294967296 := by
 induction l with
 |nil => intro n h; exact h
 |cons b l ih => intro n h; exact ih _ (byteR_lt h)
def sumK (n : Nat) (s : ByteArray) (k : Nat) : Nat := sumN n (s.data.toList.take k)
theorem sumK_succ (n : Nat) (s : ByteArray) (k : Nat) (hk : k < s.size) : sumK n s (k + 1) = byteR (sumK n s k) s[k] := by
 have hl : k < s.data.toList.length := hk
 have e : s.data.toList[k]? = some s[k] := by
  rw [List.getElem?_eq_getElem hl]; simp; rfl
 rw [List.getElem?_eq_getElem hl] at e
 unfold sumK
 rw [List.take_succ_eq_append_getElem hl, sumN_snoc, Option.some.inj e]
theorem sumK_all (n : Nat) (s : ByteArray) : sumK n s s.size = sumN n s.data.toList := by
 unfold sumK; exact congrArg (sumN n) (List.take_of_length_le (Nat.le_refl s.data.toList.length))
theorem sumK_lt {n : Nat} (s : ByteArray) (k : Nat) (h : n < 4294967296) : sumK n s k < 4294967296 := sumN_lt _ _ h
def moreN (n : Nat) (s : ByteArray) : Nat := 4294967295 - sumN (4294967295 - n) s.data.toList
theorem not_u32 (n : Nat) (h : n < 4294967296) : bits .xor .u32 IntKind.u32.max (n : Int) = ((4294967295 - n : Nat) : Int) := by
 have e : IntKind.u32.max = ((4294967295 : Nat) : Int) := rfl
 rw [e, bits_xor_u32 _ _ (by decide) h]
 congr 1
 have h1 : (BitVec.allOnes 32 ^^^ BitVec.ofNat 32 n).toNat = 4294967295 ^^^ n := by
  rw [BitVec.toNat_xor, BitVec.toNat_allOnes, BitVec.toNat_ofNat, Nat.mod_eq_of_lt (by omega)]
 rw [← h1, BitVec.allOnes_xor, BitVec.toNat_not, BitVec.toNat_ofNat, Nat.mod_eq_of_lt (by omega)]
theorem more_any (n : Nat) (s : ByteArray) (w : World) (hn : n < 4294967296) (hs : s.size ≤ 100000000) (ht : TabAt w) :
  Calls Tryz.prog 248 #[.int .u32 n, .string s] w fun e w' => e = .returned (.int .u32 (moreN n s)) ∧ Fp [] w w' := by
 obtain ⟨cap, W, hconv, hrow, hf⟩ := bytes_in_crc w s
 have HT := Lib.hid (ht.fp hf List.not_mem_nil)
 have HROW := Lib.hid hrow
 have HF0 := Lib.hid hf
 clear ht hrow hf
 have hsg : IntKind.u32.signed = false := rfl
 have hnot := not_u32 n hn
 obtain ⟨n0, hn0⟩ : ∃ n0, 4294967295 - n = n0 := ⟨_, rfl⟩
 have HM : Hid (moreN n s = 4294967295 - sumK n0 s s.size) := by unfold Hid moreN; rw [hn0, sumK_all]
 have hn1 : n0 < 4294967296 := by omega
 rw [hn0] at hnot
 clear hn0
 go_enter Tryz.func248, Tryz.ntmps248
 go_wp2_with (fail)
 go_loopg [5, 13] s.size (fun g vn vi wr => ∃ k : Nat, g + k = s.size ∧ vn = .int .u32 (sumK n0 s k) ∧ vi = .int .i64 k ∧ Fp [] W wr)
 case atStart => exact ⟨0, by omega, rfl, rfl, Fp.refl _ _⟩
 case round =>
  obtain ⟨k, hg, rfl, rfl, hf⟩ := hrel
  have HF := Lib.hid hf
  clear hf
  by_cases hk : k < s.size
  ·have HS := Lib.hid (sumK_succ n0 s k hk)
   have hlt := sumK_lt s k hn1
   obtain ⟨m, hm⟩ : ∃ m, sumK n0 s k = m := ⟨_, rfl⟩
   rw [hm] at HS hlt
   rw [hm]
   have q0 : wr.cell? ⟨w.heap.size, k, none⟩ = some (.int .u8 s[k].toNat) := by
    rw [HF.out.cell (p := ⟨w.heap.size, k, none⟩) (World.block_lt_of_cell? _ _ (HROW.out k hk)) List.not_mem_nil]; exact HROW.out k hk
   obtain ⟨b, hb⟩ : ∃ b, s[k] = b := ⟨_, rfl⟩
   rw [hb] at q0 HS
   have hbl := b.toNat_lt
   have wb : IntKind.u32.wrap (b.toNat : Int) = (b.toNat : Int) := by rw [IntKind.wrap_u32]; omega
   have x1 := bits_xor_u32 m b.toNat hlt (by omega)
   have l1 : m ^^^ b.toNat < 4294967296 := Nat.xor_lt_two_pow (n := 32) hlt (by omega)
   obtain ⟨m1, hm1⟩ : ∃ m1, m ^^^ b.toNat = m1 := ⟨_, rfl⟩
   rw [hm1] at x1 l1
   have HT1 := Lib.hid (HT.out.fp HF.out List.not_mem_nil)
   have HB : Hid (byteR m b = nibN (nibN m1)) := by unfold Hid; rw [← byte_same, nibsN, hm1]
   clear hm hb hm1
   obtain ⟨r1, hr1⟩ : ∃ r, m1 % 16 = r := ⟨_, rfl⟩
   have rl1 : r1 < 16 := by omega
   have a1 := bits_low_u32 m1 l1
   rw [hr1] at a1
   obtain ⟨d1, hd1⟩ : ∃ d, m1 / 16 = d := ⟨_, rfl⟩
   have e1 : (m1 : Int) / 16 = (d1 : Int) := by omega
   have t1 : wr.cell? ⟨6, r1, none⟩ = some (.int .u32 (fourL.getD r1 0 : Nat)) := HT1.out r1 rl1
   have fl1 := four_lt r1
   have HN1 : Hid (nibN m1 = d1 ^^^ fourL.getD r1 0) := by unfold Hid nibN; rw [hr1, hd1]
   obtain ⟨f1, hf1⟩ : ∃ f, fourL.getD r1 0 = f := ⟨_, rfl⟩
   rw [hf1] at t1 fl1 HN1
   have x2 := bits_xor_u32 d1 f1 (by omega) fl1
   have l2 : d1 ^^^ f1 < 4294967296 := Nat.xor_lt_two_pow (n := 32) (by omega) fl1
   obtain ⟨m2, hm2⟩ : ∃ m, d1 ^^^ f1 = m := ⟨_, rfl⟩
   rw [hm2] at x2 l2 HN1
   clear hr1 hd1 hf1 hm2
   obtain ⟨r2, hr2⟩ : ∃ r, m2 % 16 = r := ⟨_, rfl⟩
   have rl2 : r2 < 16 := by omega
   have a2 := bits_low_u32 m2 l2
   rw [hr2] at a2
   obtain ⟨d2, hd2⟩ : ∃ d, m2 / 16 = d := ⟨_, rfl⟩
   have e2 : (m2 : Int) / 16 = (d2 : Int) := by omega
   have t2 : wr.cell? ⟨6, r2, none⟩ = some (.int .u32 (fourL.getD r2 0 : Nat)) := HT1.out r2 rl2
   have fl2 := four_lt r2
   have HN2 : Hid (nibN m2 = d2 ^^^ fourL.getD r2 0) := by unfold Hid nibN; rw [hr2, hd2]
   obtain ⟨f2, hf2⟩ : ∃ f, fourL.getD r2 0 = f := ⟨_, rfl⟩
   rw [hf2] at t2 fl2 HN2
   have x3 := bits_xor_u32 d2 f2 (by omega) fl2
   have l3 : d2 ^^^ f2 < 4294967296 := Nat.xor_lt_two_pow (n := 32) (by omega) fl2
   obtain ⟨m3, hm3⟩ : ∃ m, d2 ^^^ f2 = m := ⟨_, rfl⟩
   rw [hm3] at x3 l3 HN2
   clear hr2 hd2 hf2 hm3
   go_wp2_with (fail)
   go_roundg (gk - 1)
   case measure => omega
   case rel => exact ⟨k + 1, by omega, by rw [HS.out, HB.out, HN1.out, HN2.out], by simp, HF.out⟩
  ·obtain rfl : k = s.size := by omega
   have hlt := sumK_lt s s.size hn1
   obtain ⟨m, hm⟩ : ∃ m, sumK n0 s s.size = m := ⟨_, rfl⟩
   rw [hm] at HM hlt
   rw [hm]
   have hnot2 := not_u32 m hlt
   go_wp2_with (fail)
   go_ret
   exact ⟨by rw [HM.out]; rfl, HF0.out.trans HF.out (by simp)⟩
end
section
set_option linter.unusedSectionVars false
open Go.RowKit
noncomputable section
def tabN : Nat := 9937593612760466100516450665319420528403982636753068485404800763335476026940182181175496972418787619281442302519629725716261212251300561153615832085954560
def mnib (k : Nat) : Nat := Nat.xor (Nat.div k 16) (Nat.mod (Nat.div tabN (Nat.pow 2 (Nat.mul 32 (Nat.mod k 16)))) 4294967296)
def mlist (l : List Nat) : Nat → Nat := List.rec (fun n => n) (fun b _ ih n => ih (mnib (mnib (Nat.xor n b)))) l
def imore (l : List AV) : EM AV := match l with
 |[.it .u32 (.ofNat n), v] => ebind (eopt [140] (sOf v)) fun s => ecase [140] (iand (Nat.blt n 4294967296) (Nat.blt (llen s) 1000000)) (Bool.rec (epure (ivfull .u32)) (epure (.it .u32 (Int.ofNat (Nat.sub 4294967295 (mlist s (Nat.sub 4294967295 n)))))) (all256 s))
 |[.iv .u32 _ lo hi, v] => ebind (eopt [140] (sOf v)) fun s => ecase [140] (iand (ile 0 lo) (iand (ilt hi 4294967296) (Nat.blt (llen s) 1000000))) (epure (ivfull .u32))
 |_ => efail [140]
end
theorem mnib_eq (k : Nat) : mnib k = nibN k := by
 have key : ∀ r, r < 16 → tabN / 2 ^ (32 * r) % 4294967296 = fourL.getD r 0 := by decide +kernel
 unfold nibN
 rw [← key (k % 16) (Nat.mod_lt _ (by decide))]
 rfl
theorem mlist_eq : ∀ (l : List Nat) (n : Nat), (∀ x ∈ l, x < 256) → mlist l n = sumN n (l.map UInt8.ofNat)
 |[], n, _ => rfl
 |b :: l, n, h => by
  have hb := h b (by simp)
  have ih := mlist_eq l (mnib (mnib (Nat.xor n b))) fun x hx => h x (by simp [hx])
  show mlist l (mnib (mnib (Nat.xor n b))) = _
  rw [ih, List.map_cons]
  show _ = sumN (byteR n (UInt8.ofNat b)) (l.map UInt8.ofNat)
  rw [← byte_same, mnib_eq, mnib_eq]
  unfold nibsN
  have e : (UInt8.ofNat b).toNat = b := by
   simp only [UInt8.toNat_ofNat']
   omega
  rw [e]
  rfl
section
variable [Val] {w0 : World} {ρ : ERho}
theorem i_more (ht : TabAt w0) {l : List AV} {xs : List Value} (hx : VRs ρ l xs) : EVN Tryz.prog w0 ρ (imore l) (callFunc 248 xs.toArray) := by
 refine evn_calls (fun w => call_enter Tryz.func248 (by kernel_rfl) (by kernel_rfl) _ w) fun s v s' hm w hw _ => ?_
 have htw := ht.fp hw.fp (by simp)
 unfold imore at hm
 split at hm
 ·rename_i n v0
  cases hx with
  |cons _ x1 _ _ h1 h2 => cases h2 with
   |cons _ x2 _ _ h3 h4 =>
    cases h4
    cases h1
    obtain ⟨sy, s1, h5, h6⟩ := ebind_ok hm
    obtain ⟨h7, rfl⟩ := eopt_ok h5
    obtain ⟨h8, h9⟩ := ecase_ok h6
    rw [iand_eq, Bool.and_eq_true] at h8
    have hn := nblt_iff.1 h8.1
    have hc := nblt_iff.1 h8.2
    rw [llen_eq] at hc
    obtain ⟨a, rfl, ha⟩ := sOf_vr h3 h7
    have hlen := ha.length
    refine (more_any n (bsA a) w hn (by rw [bsA_size]; omega) htw).mono ?_
    rintro e w' ⟨rfl, hf⟩
    have hlt : sumN (4294967295 - n) (bsA a).data.toList < 4294967296 := sumN_lt _ _ (by omega)
    have hmn : moreN n (bsA a) = 4294967295 - sumN (4294967295 - n) (bsA a).data.toList := rfl
    rw [hmn]
    cases hall : all256 sy with
    |false =>
     rw [hall] at h9
     obtain ⟨rfl, rfl⟩ := epure_ok h9
     refine ⟨_, rfl, kok_calm (full_vr ?_ ?_) hw rfl rfl hf⟩
     ·show (0 : Int) ≤ _; omega
     ·show _ ≤ (4294967295 : Int); omega
    |true =>
     rw [hall] at h9
     obtain ⟨rfl, rfl⟩ := epure_ok h9
     obtain ⟨rfl, hb⟩ := ha.same hall
     refine ⟨_, rfl, kok_calm ?_ hw rfl rfl hf⟩
     rw [bsA_data, ← mlist_eq _ _ hb]
     exact .it _ _
 ·rename_i a lo hi v0
  cases hx with
  |cons _ x1 _ _ h1 h2 => cases h2 with
   |cons _ x2 _ _ h3 h4 =>
    cases h4
    cases h1 with
    |iv _ _ _ _ k g1 g2 g3 =>
     obtain ⟨sy, s1, h5, h6⟩ := ebind_ok hm
     obtain ⟨h7, rfl⟩ := eopt_ok h5
     obtain ⟨h8, h9⟩ := ecase_ok h6
     obtain ⟨rfl, rfl⟩ := epure_ok h9
     rw [iand_eq, iand_eq, Bool.and_eq_true, Bool.and_eq_true, ile_eq, ilt_eq, decide_eq_true_eq, decide_eq_true_eq] at h8
     have hc := nblt_iff.1 h8.2.2
     rw [llen_eq] at hc
     obtain ⟨a, rfl, ha⟩ := sOf_vr h3 h7
     have hlen := ha.length
     obtain ⟨m, rfl⟩ : ∃ m : Nat, k = m := ⟨k.toNat, by omega⟩
     refine (more_any m (bsA a) w (by omega) (by rw [bsA_size]; omega) htw).mono ?_
     rintro e w' ⟨rfl, hf⟩
     have hlt : sumN (4294967295 - m) (bsA a).data.toList < 4294967296 := sumN_lt _ _ (by omega)
     have hmn : moreN m (bsA a) = 4294967295 - sumN (4294967295 - m) (bsA a).data.toList := rfl
     rw [hmn]
     refine ⟨_, rfl, kok_calm (full_vr ?_ ?_) hw rfl rfl hf⟩
     ·show (0 : Int) ≤ _; omega
     ·show _ ≤ (4294967295 : Int); omega
 ·exact (efail_ok (e := [140]) (s := s) hm).elim
end
end
section
set_option linter.unusedSectionVars false
open Go.RowKit
noncomputable section
abbrev Lit := List (Nat × Blk)
end
section
variable [Val] {P : Program} {w0 : World} {ρ : ERho}
theorem ERel.sub {hp hp2 : ET Blk} {w : World} (h : ERel P w0 ρ hp w) (hs : ∀ i b, hp2.get (i + 1) = some b → hp.get (i + 1) = some b) : ERel P w0 ρ hp2 w :=
 ⟨h.fp, fun i b hb => h.blk i b (hs i b hb), fun i j b c r q hi hj => h.inj i j b c r q (hs i b hi) (hs j c hj)⟩
end
end
section
open Go.RowKit
noncomputable section
def G1 : Globs := fun g o => Bool.rec none (Option.rec none (fun x => some (.it .u32 (Int.ofNat x))) (lnth fourL o)) (Nat.beq g 6)
def ilist (l : List (Nat × (List AV → EM AV))) : Intr := fun f => List.rec none (fun x _ ih => Bool.rec ih (some x.2) (Nat.beq f x.1)) l
def I1 : Intr := ilist [(248, imore), (356, itwice), (142, icopyCheck [103, 443]), (269, isorted 396 9 198), (185, icount), (186, iindexStr), (75, ijoin)]
def okTrue (r : ERes AV) : Bool := match r with
 |.ok (.bo true) _ => true
 |_ => false
end
theorem okTrue_ok {r : ERes AV} (h : okTrue r = true) : ∃ s, r = .ok (.bo true) s := by
 unfold okTrue at h
 split at h
 ·exact ⟨_, rfl⟩
 ·cases h
theorem ilist_ok {l : List (Nat × (List AV → EM AV))} : ∀ {f : FuncId} {g : List AV → EM AV}, ilist l f = some g → (f, g) ∈ l := by
 induction l with
 |nil => intro f g h; cases h
 |cons x l ih =>
  intro f g h
  have h' : (Bool.rec (ilist l f) (some x.2) (Nat.beq f x.1) : Option (List AV → EM AV)) = some g := h
  cases hb : Nat.beq f x.1 with
  |true =>
   rw [hb] at h'
   cases h'
   have := nbeq_t hb
   subst this
   simp
  |false =>
   rw [hb] at h'
   have := ih h'
   simp [this]
section
variable [Val] {w0 : World} {m : Int} (ht : TabAt w0) (hm0 : w0.cell? ⟨4, 0, none⟩ = some (.int .i64 m)) (h10 : 4 < w0.heap.size)
include ht hm0 h10
theorem isound1 : ISound Tryz.prog w0 I1 := by
 intro f g hfg ρ l xs hx
 have h := ilist_ok hfg
 simp only [List.mem_cons, Prod.mk.injEq, List.not_mem_nil, or_false] at h
 rcases h with ⟨rfl, rfl⟩ | ⟨rfl, rfl⟩ | ⟨rfl, rfl⟩ | ⟨rfl, rfl⟩ | ⟨rfl, rfl⟩ | ⟨rfl, rfl⟩ | ⟨rfl, rfl⟩
 ·exact i_more ht hx
 ·exact i_twice hx
 ·exact i_copyCheck builder_types hx
 ·exact i_sorted hx
 ·exact i_count hx
 ·exact i_index hm0 h10 hx
 ·exact i_join hx
end
theorem loc_sorted (k t mt : Nat) (l : List AV) : Loc (isorted k t mt l) := by
 unfold isorted
 repeat' first | exact loc_pure _ | exact loc_fail _ | exact loc_cells _ | exact loc_map _ | exact loc_new _ | refine loc_case ?_ | refine loc_bind ?_ (fun _ => ?_) | split
theorem loc_check (T : List TypeId) (l : List AV) : Loc (icopyCheck T l) := by
 unfold icopyCheck
 repeat' first | exact loc_pure _ | exact loc_fail _ | exact loc_cells _ | exact loc_set _ _ | refine loc_case ?_ | refine loc_bind ?_ (fun _ => ?_) | split
theorem loc_twice (l : List AV) : Loc (itwice l) := by
 unfold itwice
 repeat' first | exact loc_pure _ | exact loc_fail _ | exact loc_cells _ | refine loc_case ?_ | refine loc_bind ?_ (fun _ => ?_) | split
theorem loc_count (l : List AV) : Loc (icount l) := by
 unfold icount
 repeat' first | exact loc_pure _ | exact loc_fail _ | refine loc_case ?_ | split
theorem loc_indexStr (l : List AV) : Loc (iindexStr l) := by
 unfold iindexStr
 repeat' first | exact loc_pure _ | exact loc_fail _ | refine loc_case ?_ | split
theorem loc_join (l : List AV) : Loc (ijoin l) := by
 unfold ijoin
 repeat' first | exact loc_pure _ | exact loc_fail _ | exact loc_cells _ | refine loc_case ?_ | refine loc_bind ?_ (fun _ => ?_) | split
theorem loc_more (l : List AV) : Loc (imore l) := by
 unfold imore
 repeat' first | exact loc_pure _ | exact loc_fail _ | exact loc_opt _ _ | refine loc_case ?_ | refine loc_bool ?_ ?_ | refine loc_bind ?_ (fun _ => ?_) | split
theorem iloc1 : ILoc I1 := by
 intro f g hfg l
 have h := ilist_ok hfg
 simp only [List.mem_cons, Prod.mk.injEq, List.not_mem_nil, or_false] at h
 rcases h with ⟨rfl, rfl⟩ | ⟨rfl, rfl⟩ | ⟨rfl, rfl⟩ | ⟨rfl, rfl⟩ | ⟨rfl, rfl⟩ | ⟨rfl, rfl⟩ | ⟨rfl, rfl⟩
 ·exact loc_more l
 ·exact loc_twice l
 ·exact loc_check _ l
 ·exact loc_sorted _ _ _ l
 ·exact loc_count l
 ·exact loc_indexStr l
 ·exact loc_join l
theorem glob1 [Val] {w : World} (ht : TabAt w) (hl : 6 < w.heap.size) : GlobR w G1 := by
 intro g o v h
 have h' : (Bool.rec none (Option.rec none (fun x => some (.it .u32 (Int.ofNat x))) (lnth fourL o)) (Nat.beq g 6) : Option AV) = some v := h
 cases hg : Nat.beq g 6 with
 |false => rw [hg] at h'; cases h'
 |true =>
  rw [hg] at h'
  have := nbeq_t hg
  subst this
  rw [lnth_eq] at h'
  cases ho : fourL[o]? with
  |none => rw [ho] at h'; cases h'
  |some x =>
   rw [ho] at h'
   cases h'
   have hlt : o < 16 := (List.getElem?_eq_some_iff.1 ho).1
   refine ⟨_, ht o hlt, hl, fun ρ => ?_⟩
   rw [List.getD_eq_getElem?_getD, ho]
   exact .it _ _
end
end Go.Proofs.YtigajcabgaddgaaGreatDoor
