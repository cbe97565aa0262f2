/-
 mem: trees of no cell, of one cell; Put. The bytes of cells' keys: plain laws.
-/
import Derived.Test.YtkjmgbifoaoefaaGreatDoorQCellA
import Derived.Test.YtkjmgbifoaoefaaGreatDoorQRegion
import Derived.Test.YtkjmgbifoaoefaaGreatDoorQCellPure
import Derived.Lib.ReplaceLaws
set_option maxRecDepth 100000
set_option maxHeartbeats 8000000
namespace Go.Proofs.YtkjmgbifoaoefaaGreatDoor
section
open Go.RowKit Go.Lib
def nodeA (c : Cel) (lo hi : Value) : Array Value := #[.string c.row, .string c.col, .int .u64 c.ts, .int .u64 c.seq, .bool c.del, .string c.val, lo, hi, .int .i64 0]
def NodeAt (w : World) (p : Nat) (c : Cel) (lo hi : Value) : Prop := w.heap[p]? = some (.cells (nodeA c lo hi) 211 (0, 0))
def ptrV (p : Nat) : Value := .pointer (some ⟨p, 0, none⟩)
theorem NodeAt.cell {w : World} {p : Nat} {c : Cel} {lo hi : Value} (h : NodeAt w p c lo hi) (i : Nat) : w.cell? ⟨p, i, none⟩ = (nodeA c lo hi)[i]? := cell_of_block h i
theorem NodeAt.fp {S : List Nat} {w w' : World} {p : Nat} {c : Cel} {lo hi : Value} (h : NodeAt w p c lo hi) (hf : Fp S w w') (hS : p ∉ S) : NodeAt w' p c lo hi := (hf.block p (heap_lt h) hS).trans h
theorem NodeAt.setLow {w : World} {p : Nat} {c : Cel} {lo hi v : Value} (h : NodeAt w p c lo hi) : NodeAt (w.setCell ⟨p, 6, none⟩ v) p c v hi := (heap_setCell_same h _).trans rfl
theorem NodeAt.setHigh {w : World} {p : Nat} {c : Cel} {lo hi v : Value} (h : NodeAt w p c lo hi) : NodeAt (w.setCell ⟨p, 7, none⟩ v) p c lo v := (heap_setCell_same h _).trans rfl
theorem NodeAt.other {w : World} {p q i : Nat} {c : Cel} {lo hi v : Value} (h : NodeAt w p c lo hi) (hq : p ≠ q) : NodeAt (w.setCell ⟨q, i, none⟩ v) p c lo hi := (heap_setCell_other hq _).trans h
theorem nput_none (w : World) (c : Cel) :
  Calls Tryz.prog 80 #[.pointer none, cellV c] w fun e w' => e = .returned (.tuple #[ptrV (w.heap.size + 1), .bool true]) ∧ NodeAt w' (w.heap.size + 1) c (.pointer none) (.pointer none) ∧ Fp [] w w' := by
 obtain ⟨row, col, ts, seq, del, val⟩ := c
 unfold cellV ptrV
 have hf := ((Fp.alloc w (.cells #[.string row, .string col, .int .u64 ts, .int .u64 seq, .bool del, .string val] 24)).alloc' (.cells (nodeA ⟨row, col, ts, seq, del, val⟩ (.pointer none) (.pointer none)) 211))
 have HF := Lib.hid hf
 clear hf
 go_enter Tryz.func80, Tryz.ntmps80
 go_wp2_with (fail)
 go_ret2
 exact ⟨rfl, heap_alloc_at (by simp) _, HF.out⟩
theorem nskew_none (w : World) (p : Nat) (c : Cel) (hi : Value) (h : NodeAt w p c (.pointer none) hi) :
  Calls Tryz.prog 147 #[ptrV p] w fun e w' => e = .returned (ptrV p) ∧ Fp [] w w' := by
 unfold ptrV
 have q6 : w.cell? ⟨p, 6, none⟩ = some (.pointer none) := h.cell 6
 have H := Lib.hid h
 clear h
 go_enter Tryz.func147, Tryz.ntmps147
 go_wp2_with (fail)
 refine wp_region_calm (by kernel_rfl) (by kernel_rfl) ?_
 iterate 13
  first
  |apply ex_no _ _ rfl rfl rfl rfl (by kernel_rfl) rfl rfl
  |apply ex_plain rfl rfl rfl
   ·intro a w hC hA K hK
    have := hA.f 3
    try have := hA.e 0 8
    try have := hA.e 1 9
    try have := hA.e 2 10
    try have := hA.e 11 19
    simp only [Oper.wp, execOp]; go_simp
    exact hK _ hC (Fp.refl _ _)
 refine ex_end ?_
 iterate 13 refine end_val ?_
 refine end_nil fun w' hC => ?_
 ·simp only [putAll, Act.put, List.setIfInBounds_toArray, List.set_cons_succ, List.set_cons_zero]
  have HF := Lib.hid hC
  clear hC
  go_wp2_with (fail)
  go_ret
  exact ⟨rfl, HF.out⟩
theorem nskew_leaf (w : World) (p q : Nat) (c x : Cel) (hi : Value) (h : NodeAt w p c (ptrV q) hi) (h2 : NodeAt w q x (.pointer none) (.pointer none)) (hpq : p ≠ q) :
  Calls Tryz.prog 147 #[ptrV p] w fun e w' => e = .returned (ptrV q) ∧ NodeAt w' p c (.pointer none) hi ∧ NodeAt w' q x (.pointer none) (ptrV p) ∧ Fp [p, q] w w' := by
 unfold ptrV at h ⊢
 have q6 : w.cell? ⟨p, 6, none⟩ = some (.pointer (some ⟨q, 0, none⟩)) := h.cell 6
 have H := Lib.hid h
 have H2 := Lib.hid h2
 clear h h2
 go_enter Tryz.func147, Tryz.ntmps147
 go_wp2_with (fail)
 refine wp_region_calm (by kernel_rfl) (by kernel_rfl) ?_
 iterate 13
  first | apply ex_plain rfl rfl rfl | apply ex_yes _ _ rfl rfl rfl rfl (by kernel_rfl) rfl rfl
  ·intro a w hC hA K hK
   have := hA.f 3
   have := hA.f 0
   try have := hA.e 0 8
   try have := hA.e 1 9
   try have := hA.e 3 11
   try have := hA.e 4 12
   try have := hA.e 5 13
   try have := hA.e 7 15
   try have := hA.e 8 16
   try have := hA.e 9 17
   try have := hA.e 6 14
   try have := hA.e 10 18
   try have := hA.e 2 10
   try have := hA.e 11 19
   have q8 : w.cell? ⟨p, 8, none⟩ = some (.int .i64 0) := (H.out.fp hC (by simp)).cell 8
   have r8 : w.cell? ⟨q, 8, none⟩ = some (.int .i64 0) := (H2.out.fp hC (by simp)).cell 8
   simp only [Oper.wp, execOp]; go_simp
   exact hK _ hC (Fp.refl _ _)
 refine ex_end ?_
 iterate 13 refine end_val ?_
 refine end_nil fun w' hC => ?_
 ·simp only [putAll, Act.put, List.setIfInBounds_toArray, List.set_cons_succ, List.set_cons_zero]
  have h1 := H.out.fp hC (by simp)
  have h2 := H2.out.fp hC (by simp)
  have r7 : w'.cell? ⟨q, 7, none⟩ = some (.pointer none) := h2.cell 7
  have q6' : w'.cell? ⟨p, 6, none⟩ = some (.pointer (some ⟨q, 0, none⟩)) := h1.cell 6
  have f6 : w'.frozen? ⟨p, 6, none⟩ = false := frozen_of_block h1 6
  have h3 := h1.setLow (v := .pointer none)
  have h4 := h2.other (i := 6) (v := .pointer none) hpq.symm
  have r7' : (w'.setCell ⟨p, 6, none⟩ (.pointer none)).cell? ⟨q, 7, none⟩ = some (.pointer none) := h4.cell 7
  have f7 : (w'.setCell ⟨p, 6, none⟩ (.pointer none)).frozen? ⟨q, 7, none⟩ = false := frozen_of_block h4 7
  have h5 := h3.other (i := 7) (v := .pointer (some ⟨p, 0, none⟩)) hpq
  have h6 := h4.setHigh (v := .pointer (some ⟨p, 0, none⟩))
  have hf : Fp [p, q] w ((w'.setCell ⟨p, 6, none⟩ (.pointer none)).setCell ⟨q, 7, none⟩ (.pointer (some ⟨p, 0, none⟩))) := ((hC.mono (S' := [p, q]) (by simp)).trans (Fp.setCell _ ⟨p, 6, none⟩ _) (by simp)).trans (Fp.setCell _ ⟨q, 7, none⟩ _) (by simp)
  have H5 := Lib.hid h5
  have H6 := Lib.hid h6
  have HF := Lib.hid hf
  clear hC h1 h2 h3 h4 h5 h6 hf
  go_wp2_with (fail)
  go_ret
  exact ⟨rfl, H5.out, H6.out, HF.out⟩
theorem nsplit_none (w : World) (p : Nat) (c : Cel) (lo : Value) (h : NodeAt w p c lo (.pointer none)) :
  Calls Tryz.prog 148 #[ptrV p] w fun e w' => e = .returned (ptrV p) ∧ Fp [] w w' := by
 unfold ptrV
 have q7 : w.cell? ⟨p, 7, none⟩ = some (.pointer none) := h.cell 7
 have H := Lib.hid h
 clear h
 go_enter Tryz.func148, Tryz.ntmps148
 go_wp2_with (fail)
 refine wp_region_calm (by kernel_rfl) (by kernel_rfl) ?_
 iterate 23
  first
  |apply ex_no _ _ rfl rfl rfl rfl (by kernel_rfl) rfl rfl
  |apply ex_plain rfl rfl rfl
   ·intro a w hC hA K hK
    have := hA.f 3
    try have := hA.e 0 8
    try have := hA.e 1 9
    try have := hA.e 2 10
    try have := hA.e 7 15
    try have := hA.e 8 16
    try have := hA.e 9 17
    try have := hA.e 21 29
    simp only [Oper.wp, execOp]; go_simp
    exact hK _ hC (Fp.refl _ _)
 refine ex_end ?_
 iterate 23 refine end_val ?_
 refine end_nil fun w' hC => ?_
 ·simp only [putAll, Act.put, List.setIfInBounds_toArray, List.set_cons_succ, List.set_cons_zero]
  have HF := Lib.hid hC
  clear hC
  go_wp2_with (fail)
  go_ret
  exact ⟨rfl, HF.out⟩
theorem nsplit_leaf (w : World) (p q : Nat) (c x : Cel) (lo lo2 : Value) (h : NodeAt w p c lo (ptrV q)) (h2 : NodeAt w q x lo2 (.pointer none)) :
  Calls Tryz.prog 148 #[ptrV p] w fun e w' => e = .returned (ptrV p) ∧ Fp [] w w' := by
 unfold ptrV at h ⊢
 have q7 : w.cell? ⟨p, 7, none⟩ = some (.pointer (some ⟨q, 0, none⟩)) := h.cell 7
 have H := Lib.hid h
 have H2 := Lib.hid h2
 clear h h2
 go_enter Tryz.func148, Tryz.ntmps148
 go_wp2_with (fail)
 refine wp_region_calm (by kernel_rfl) (by kernel_rfl) ?_
 iterate 23
  first
  |apply ex_no _ _ rfl rfl rfl rfl (by kernel_rfl) rfl rfl
  |first | apply ex_plain rfl rfl rfl | apply ex_yes _ _ rfl rfl rfl rfl (by kernel_rfl) rfl rfl
   ·intro a w hC hA K hK
    have := hA.f 3
    try have := hA.e 0 8
    try have := hA.e 1 9
    try have := hA.e 3 11
    try have := hA.e 4 12
    try have := hA.e 5 13
    try have := hA.e 6 14
    try have := hA.e 2 10
    try have := hA.e 7 15
    try have := hA.e 8 16
    try have := hA.e 9 17
    try have := hA.e 21 29
    have r7 : w.cell? ⟨q, 7, none⟩ = some (.pointer none) := (H2.out.fp hC (by simp)).cell 7
    simp only [Oper.wp, execOp]; go_simp
    exact hK _ hC (Fp.refl _ _)
 refine ex_end ?_
 iterate 23 refine end_val ?_
 refine end_nil fun w' hC => ?_
 ·simp only [putAll, Act.put, List.setIfInBounds_toArray, List.set_cons_succ, List.set_cons_zero]
  have HF := Lib.hid hC
  clear hC
  go_wp2_with (fail)
  go_ret
  exact ⟨rfl, HF.out⟩
structure PutC (w0 : World) (p : Nat) (x c : Cel) (high done : Bool) (w' : World) : Prop where
 fp : Fp [p] w0 w'
 pre : done = false → NodeAt w' p x (.pointer none) (.pointer none)
 post : done = true → ∃ q, w0.heap.size ≤ q ∧ NodeAt w' q c (.pointer none) (.pointer none) ∧ (if high then NodeAt w' p x (.pointer none) (ptrV q) else NodeAt w' p x (ptrV q) (.pointer none))
theorem PutC.on {w0 w1 w2 : World} {p : Nat} {x c : Cel} {hi b : Bool} (h : PutC w0 p x c hi b w1) (hb : b = false) (hf : Fp [] w1 w2) : PutC w0 p x c hi b w2 :=
 ⟨h.fp.trans hf (by simp), fun hb => (h.pre hb).fp hf (by simp), fun h2 => by rw [hb] at h2; cases h2⟩
theorem PutC.start {w0 : World} {p : Nat} {x c : Cel} {hi : Bool} (h : NodeAt w0 p x (.pointer none) (.pointer none)) : PutC w0 p x c hi false w0.drew :=
 ⟨(Fp.drew w0).mono (by simp), fun _ => h.fp (Fp.drew w0) (by simp), fun h2 => by cases h2⟩
def LeafV (n : Nat) (c : Cel) (w' : World) (v : Value) : Prop := ∃ q, v = .tuple #[ptrV q, .bool true] ∧ n ≤ q ∧ NodeAt w' q c (.pointer none) (.pointer none)
def LeafP (n : Nat) (c : Cel) (w' : World) (v : Value) : Prop := ∃ q, v = ptrV q ∧ n ≤ q ∧ NodeAt w' q c (.pointer none) (.pointer none)
theorem LeafV.fp {n p : Nat} {c : Cel} {w1 w2 : World} {v : Value} (hp : p < n) (h : LeafV n c w1 v) (hf : Fp [p] w1 w2) : LeafV n c w2 v := by
 obtain ⟨q, h1, h2, h3⟩ := h
 exact ⟨q, h1, h2, h3.fp hf (by simp; omega)⟩
theorem LeafP.fp {n p : Nat} {c : Cel} {w1 w2 : World} {v : Value} (hp : p < n) (h : LeafP n c w1 v) (hf : Fp [p] w1 w2) : LeafP n c w2 v := by
 obtain ⟨q, h1, h2, h3⟩ := h
 exact ⟨q, h1, h2, h3.fp hf (by simp; omega)⟩
theorem nput_leaf (w : World) (p : Nat) (c x : Cel) (h : NodeAt w p x (.pointer none) (.pointer none)) :
  Calls Tryz.prog 80 #[ptrV p, cellV c] w fun e w' => ∃ q is, e = .returned (.tuple #[ptrV q, .bool is]) ∧ Fp [p] w w' := by
 have HA := Lib.hid (fun w => cmp_any c x w)
 have HB := Lib.hid (fun w => nput_none w c)
 obtain ⟨k, hk⟩ : ∃ k, cmpC c x = k := ⟨_, rfl⟩
 rw [hk] at HA
 clear hk
 have hlt := heap_lt h
 obtain ⟨row, col, ts, seq, del, val⟩ := c
 obtain ⟨xrow, xcol, xts, xseq, xdel, xval⟩ := x
 obtain ⟨W, hW⟩ : ∃ W, W = w.alloc (.cells #[.string row, .string col, .int .u64 ts, .int .u64 seq, .bool del, .string val] 24) := ⟨_, rfl⟩
 have hWF : Fp [] w W := by rw [hW]; exact Fp.alloc _ _
 have hbx : W.heap[w.heap.size]? = some (.cells #[.string row, .string col, .int .u64 ts, .int .u64 seq, .bool del, .string val] 24 (0, 0)) := by rw [hW]; exact heap_alloc_at rfl _
 have hn := h.fp hWF (by simp)
 have HXB : Hid (∀ w', Fp [p] W w' → w'.cell? ⟨w.heap.size, 0, none⟩ = some (.string row) ∧ w'.cell? ⟨w.heap.size, 1, none⟩ = some (.string col) ∧ w'.cell? ⟨w.heap.size, 2, none⟩ = some (.int .u64 ts) ∧ w'.cell? ⟨w.heap.size, 3, none⟩ = some (.int .u64 seq) ∧ w'.cell? ⟨w.heap.size, 4, none⟩ = some (.bool del) ∧ w'.cell? ⟨w.heap.size, 5, none⟩ = some (.string val)) := fun w' hf => by
  have hb := (hf.block _ (heap_lt hbx) (by simp; omega)).trans hbx
  exact ⟨cell_of_block hb 0, cell_of_block hb 1, cell_of_block hb 2, cell_of_block hb 3, cell_of_block hb 4, cell_of_block hb 5⟩
 have H := Lib.hid hn
 have HWF := Lib.hid hWF
 clear h hn hbx hWF
 unfold ptrV cellV at *
 go_enter Tryz.func80, Tryz.ntmps80
 go_wp2_with (fail)
 rw [← hW]
 clear hW
 refine wp_region_calm (by kernel_rfl) (by kernel_rfl) ?_
 iterate 7
  apply ex_plain rfl rfl rfl
  ·intro a w hC hA K hK
   have := hA.f 3
   have := hA.f 0
   try have := hA.e 1 14
   try have := hA.e 2 15
   try have := hA.e 3 16
   try have := hA.e 0 13
   try have := hA.e 4 17
   try have := hA.e 5 18
   obtain ⟨y0, y1, y2, y3, y4, y5⟩ := HXB.out _ (hC.mono (by simp))
   have hn := H.out.fp hC (by simp)
   have x0 : w.cell? ⟨p, 0, none⟩ = some (.string xrow) := hn.cell 0
   have x1 : w.cell? ⟨p, 1, none⟩ = some (.string xcol) := hn.cell 1
   have x2 : w.cell? ⟨p, 2, none⟩ = some (.int .u64 xts) := hn.cell 2
   have x3 : w.cell? ⟨p, 3, none⟩ = some (.int .u64 xseq) := hn.cell 3
   have x4 : w.cell? ⟨p, 4, none⟩ = some (.bool xdel) := hn.cell 4
   have x5 : w.cell? ⟨p, 5, none⟩ = some (.string xval) := hn.cell 5
   clear hn
   simp only [Oper.wp, execOp]; go_simp
   first
   |exact hK _ hC (Fp.refl _ _)
   |(with_reducible refine (HA.out _).mono ?_); rintro e w2 ⟨rfl, hf⟩; exact hK _ (hC.trans hf (by simp)) hf
 refine ex_end ?_
 iterate 7 refine end_val ?_
 refine end_nil fun w' hC => ?_
 ·simp only [putAll, Act.put, List.setIfInBounds_toArray, List.set_cons_succ, List.set_cons_zero]
  have HF := Lib.hid hC
  have H1 := Lib.hid (H.out.fp hC (by simp))
  clear hC
  by_cases zk : k < 0
  ·go_wp2_with (fail)
   refine wp_region_n (fun bb w2 => PutC w' p ⟨xrow, xcol, xts, xseq, xdel, xval⟩ ⟨row, col, ts, seq, del, val⟩ false (bb 12) w2) (Fp [p]) (by kernel_rfl) (by kernel_rfl) (PutC.start H1.out) ?_
   iterate 4
    apply nx_plain (fun _ _ h => h) rfl rfl rfl
    ·intro b a w hC hA K hK
     have := hA.f 0
     try have := hA.e 1 24
     try have := hA.e 2 25
     simp only [Oper.wp, execOp]; go_simp
     exact hK _ hC (Fp.refl _ _)
   apply nx_plain (fun _ _ h => h) rfl rfl rfl
   ·intro b a w hC hA K hK
    have h26 := hA.e 3 26
    have hno := hA.post 12 (by kernel_rfl)
    have q6 : w.cell? ⟨p, 6, none⟩ = some (.pointer none) := (hC.pre hno).cell 6
    obtain ⟨y0, y1, y2, y3, y4, y5⟩ := HXB.out _ ((HF.out.mono (S' := [p]) (by simp)).trans hC.fp (by simp))
    simp only [Oper.wp, execOp]; go_simp
    exact hK _ hC (Fp.refl _ _)
   apply nx_plain (fun _ _ h => h) rfl rfl rfl
   ·intro b a w hC hA K hK
    have h3 := hA.f 3
    have hno := hA.post 12 (by kernel_rfl)
    have q6 : w.cell? ⟨p, 6, none⟩ = some (.pointer none) := (hC.pre hno).cell 6
    obtain ⟨y0, y1, y2, y3, y4, y5⟩ := HXB.out _ ((HF.out.mono (S' := [p]) (by simp)).trans hC.fp (by simp))
    simp only [Oper.wp, execOp]; go_simp
    exact hK _ hC (Fp.refl _ _)
   apply nx_turn (LeafV w'.heap.size ⟨row, col, ts, seq, del, val⟩) rfl rfl rfl
   ·intro b a w hC hA K hK
    have h27 := hA.e 4 27
    have h28 := hA.e 5 28
    have hno := hA.post 12 (by kernel_rfl)
    simp only [Oper.wp, execOp]; go_simp
    (with_reducible refine (HB.out _).mono ?_)
    rintro e w2 ⟨rfl, hn, hf⟩
    exact hK _ _ (hC.on hno hf) (hf.mono (by simp)) ⟨_, rfl, by have := hC.fp.size; omega, hn⟩
   apply nx_turn (LeafV w'.heap.size ⟨row, col, ts, seq, del, val⟩) rfl rfl rfl
   ·intro b a w hC hA K hK
    have h29 := hA.dep 6 29 _ (by kernel_rfl) rfl
    obtain ⟨q, h29, hq, hn⟩ := h29
    simp only [Oper.wp, execOp]; go_simp
    exact hK _ _ hC (Fp.refl _ _) ⟨q, rfl, hq, hn⟩
   apply nx_turn (LeafP w'.heap.size ⟨row, col, ts, seq, del, val⟩) rfl rfl rfl
   ·intro b a w hC hA K hK
    have h22 := hA.dep 7 22 _ (by kernel_rfl) rfl
    obtain ⟨q, h22, hq, hn⟩ := h22
    simp only [Oper.wp, execOp]; go_simp
    exact hK _ _ hC (Fp.refl _ _) ⟨q, rfl, hq, hn⟩
   apply nx_turn (eqV (.bool true)) rfl rfl rfl
   ·intro b a w hC hA K hK
    have h22 := hA.dep 7 22 _ (by kernel_rfl) rfl
    obtain ⟨q, h22, hq, hn⟩ := h22
    simp only [Oper.wp, execOp]; go_simp
    exact hK _ _ hC (Fp.refl _ _) rfl
   iterate 2
    apply nx_plain (fun _ _ h => h) rfl rfl rfl
    ·intro b a w hC hA K hK
     try have := hA.e 0 23
     try have := hA.e 10 32
     simp only [Oper.wp, execOp]; go_simp
     exact hK _ hC (Fp.refl _ _)
   apply nx_effect (fun _ => True) rfl rfl
   ·intro b a w hC hA K hK
    have h33 := hA.e 11 33
    have h30 := hA.dep 8 30 _ (by kernel_rfl) rfl
    obtain ⟨q, h30, hq, hn⟩ := h30
    unfold ptrV at h30
    have hno := hA.self
    have q6 : w.cell? ⟨p, 6, none⟩ = some (.pointer none) := (hC.pre hno).cell 6
    have f6 : w.frozen? ⟨p, 6, none⟩ = false := frozen_of_block (hC.pre hno) 6
    simp only [Oper.wp, execOp]; go_simp
    exact hK undef _ ⟨hC.fp.trans (Fp.setCell _ ⟨p, 6, none⟩ _) (by simp), (fun h => by cases h), fun _ => ⟨q, hq, hn.other (by have := heap_lt H1.out; omega), (hC.pre hno).setLow⟩⟩ (Fp.setCell _ ⟨p, 6, none⟩ _) trivial
   apply nx_plain (fun _ _ h => h) rfl rfl rfl
   ·intro b a w hC hA K hK
    have h31 := hA.e 9 31
    simp only [Oper.wp, execOp]; go_simp
    exact hK _ hC (Fp.refl _ _)
   refine ⟨?_, ?_⟩
   ·refine stabN_val _ ?_
    refine ⟨fun _ _ _ _ _ => trivial, ?_⟩
    iterate 3 refine stabN_val _ ?_
    refine ⟨fun w1 w2 v hf h => LeafP.fp (heap_lt H1.out) h hf, ?_⟩
    refine ⟨fun w1 w2 v hf h => LeafV.fp (heap_lt H1.out) h hf, ?_⟩
    refine ⟨fun w1 w2 v hf h => LeafV.fp (heap_lt H1.out) h hf, ?_⟩
    iterate 6 refine stabN_val _ ?_
    exact trivial
   ·intro w3 bb hC hbb
    simp only [List.reverse_cons, List.reverse_nil, List.nil_append, List.cons_append]
    iterate 6 (refine all_val ?_)
    refine all_some ?_
    intro v6 u6
    refine all_some ?_
    intro v7 u7
    refine all_some ?_
    intro v8 u8
    refine all_some ?_
    intro v9 u9
    obtain rfl := u9
    iterate 2 (refine all_val ?_)
    refine all_some ?_
    intro v12 u12
    iterate 1 (refine all_val ?_)
    refine all_nil ?_
    simp only [putAll, Act.put, List.setIfInBounds_toArray, List.set_cons_succ, List.set_cons_zero]
    obtain ⟨q, hpq, hq, hp⟩ := hC.post (hbb 12 (by decide))
    have HF3 := Lib.hid hC.fp
    have hqw : w.heap.size ≤ q := Nat.le_trans (Nat.le_trans HWF.out.size HF.out.size) hpq
    have M1 := Lib.hid (nskew_leaf w3 p q _ _ _ hp hq (by omega))
    clear hC hp hq hbb u6 u7 u8 u12
    unfold ptrV at M1
    go_wp2_with (fail)
    refine M1.out.mono ?_
    rintro e w4 ⟨rfl, h1, h2, hf4⟩
    have M2 := Lib.hid (nsplit_leaf w4 q p _ _ _ _ h2 h1)
    have HF4 := Lib.hid hf4
    clear M1 h1 h2 hf4
    unfold ptrV at M2
    go_wp2_with (fail)
    refine M2.out.mono ?_
    rintro e w5 ⟨rfl, hf5⟩
    have HF5 := Lib.hid hf5
    clear M2 hf5
    go_wp2_with (fail)
    go_ret2
    exact ⟨q, true, rfl, (((HWF.out.trans HF.out (by simp)).mono (S' := [p]) (by simp)).trans HF3.out (by simp)).trans (HF4.out.trans HF5.out (by simp)) (by
     intro i hi
     simp only [List.mem_cons, List.not_mem_nil, or_false] at hi ⊢
     omega)⟩
  by_cases zg : 0 < k
  ·go_wp2_with (fail)
   refine wp_region_n (fun bb w2 => PutC w' p ⟨xrow, xcol, xts, xseq, xdel, xval⟩ ⟨row, col, ts, seq, del, val⟩ true (bb 12) w2) (Fp [p]) (by kernel_rfl) (by kernel_rfl) (PutC.start H1.out) ?_
   iterate 4
    apply nx_plain (fun _ _ h => h) rfl rfl rfl
    ·intro b a w hC hA K hK
     have := hA.f 0
     try have := hA.e 1 39
     try have := hA.e 2 40
     simp only [Oper.wp, execOp]; go_simp
     exact hK _ hC (Fp.refl _ _)
   apply nx_plain (fun _ _ h => h) rfl rfl rfl
   ·intro b a w hC hA K hK
    have h41 := hA.e 3 41
    have hno := hA.post 12 (by kernel_rfl)
    have q7 : w.cell? ⟨p, 7, none⟩ = some (.pointer none) := (hC.pre hno).cell 7
    obtain ⟨y0, y1, y2, y3, y4, y5⟩ := HXB.out _ ((HF.out.mono (S' := [p]) (by simp)).trans hC.fp (by simp))
    simp only [Oper.wp, execOp]; go_simp
    exact hK _ hC (Fp.refl _ _)
   apply nx_plain (fun _ _ h => h) rfl rfl rfl
   ·intro b a w hC hA K hK
    have h3 := hA.f 3
    have hno := hA.post 12 (by kernel_rfl)
    have q7 : w.cell? ⟨p, 7, none⟩ = some (.pointer none) := (hC.pre hno).cell 7
    obtain ⟨y0, y1, y2, y3, y4, y5⟩ := HXB.out _ ((HF.out.mono (S' := [p]) (by simp)).trans hC.fp (by simp))
    simp only [Oper.wp, execOp]; go_simp
    exact hK _ hC (Fp.refl _ _)
   apply nx_turn (LeafV w'.heap.size ⟨row, col, ts, seq, del, val⟩) rfl rfl rfl
   ·intro b a w hC hA K hK
    have h42 := hA.e 4 42
    have h43 := hA.e 5 43
    have hno := hA.post 12 (by kernel_rfl)
    simp only [Oper.wp, execOp]; go_simp
    (with_reducible refine (HB.out _).mono ?_)
    rintro e w2 ⟨rfl, hn, hf⟩
    exact hK _ _ (hC.on hno hf) (hf.mono (by simp)) ⟨_, rfl, by have := hC.fp.size; omega, hn⟩
   apply nx_turn (LeafV w'.heap.size ⟨row, col, ts, seq, del, val⟩) rfl rfl rfl
   ·intro b a w hC hA K hK
    have h44 := hA.dep 6 44 _ (by kernel_rfl) rfl
    obtain ⟨q, h44, hq, hn⟩ := h44
    simp only [Oper.wp, execOp]; go_simp
    exact hK _ _ hC (Fp.refl _ _) ⟨q, rfl, hq, hn⟩
   apply nx_turn (LeafP w'.heap.size ⟨row, col, ts, seq, del, val⟩) rfl rfl rfl
   ·intro b a w hC hA K hK
    have h37 := hA.dep 7 37 _ (by kernel_rfl) rfl
    obtain ⟨q, h37, hq, hn⟩ := h37
    simp only [Oper.wp, execOp]; go_simp
    exact hK _ _ hC (Fp.refl _ _) ⟨q, rfl, hq, hn⟩
   apply nx_turn (eqV (.bool true)) rfl rfl rfl
   ·intro b a w hC hA K hK
    have h37 := hA.dep 7 37 _ (by kernel_rfl) rfl
    obtain ⟨q, h37, hq, hn⟩ := h37
    simp only [Oper.wp, execOp]; go_simp
    exact hK _ _ hC (Fp.refl _ _) rfl
   iterate 2
    apply nx_plain (fun _ _ h => h) rfl rfl rfl
    ·intro b a w hC hA K hK
     try have := hA.e 0 38
     try have := hA.e 10 47
     simp only [Oper.wp, execOp]; go_simp
     exact hK _ hC (Fp.refl _ _)
   apply nx_effect (fun _ => True) rfl rfl
   ·intro b a w hC hA K hK
    have h48 := hA.e 11 48
    have h45 := hA.dep 8 45 _ (by kernel_rfl) rfl
    obtain ⟨q, h45, hq, hn⟩ := h45
    unfold ptrV at h45
    have hno := hA.self
    have q7 : w.cell? ⟨p, 7, none⟩ = some (.pointer none) := (hC.pre hno).cell 7
    have f7 : w.frozen? ⟨p, 7, none⟩ = false := frozen_of_block (hC.pre hno) 7
    simp only [Oper.wp, execOp]; go_simp
    exact hK undef _ ⟨hC.fp.trans (Fp.setCell _ ⟨p, 7, none⟩ _) (by simp), (fun h => by cases h), fun _ => ⟨q, hq, hn.other (by have := heap_lt H1.out; omega), (hC.pre hno).setHigh⟩⟩ (Fp.setCell _ ⟨p, 7, none⟩ _) trivial
   apply nx_plain (fun _ _ h => h) rfl rfl rfl
   ·intro b a w hC hA K hK
    have h46 := hA.e 9 46
    simp only [Oper.wp, execOp]; go_simp
    exact hK _ hC (Fp.refl _ _)
   refine ⟨?_, ?_⟩
   ·refine stabN_val _ ?_
    refine ⟨fun _ _ _ _ _ => trivial, ?_⟩
    iterate 3 refine stabN_val _ ?_
    refine ⟨fun w1 w2 v hf h => LeafP.fp (heap_lt H1.out) h hf, ?_⟩
    refine ⟨fun w1 w2 v hf h => LeafV.fp (heap_lt H1.out) h hf, ?_⟩
    refine ⟨fun w1 w2 v hf h => LeafV.fp (heap_lt H1.out) h hf, ?_⟩
    iterate 6 refine stabN_val _ ?_
    exact trivial
   ·intro w3 bb hC hbb
    simp only [List.reverse_cons, List.reverse_nil, List.nil_append, List.cons_append]
    iterate 6 (refine all_val ?_)
    refine all_some ?_
    intro v6 u6
    refine all_some ?_
    intro v7 u7
    refine all_some ?_
    intro v8 u8
    refine all_some ?_
    intro v9 u9
    obtain rfl := u9
    iterate 2 (refine all_val ?_)
    refine all_some ?_
    intro v12 u12
    iterate 1 (refine all_val ?_)
    refine all_nil ?_
    simp only [putAll, Act.put, List.setIfInBounds_toArray, List.set_cons_succ, List.set_cons_zero]
    obtain ⟨q, hpq, hq, hp⟩ := hC.post (hbb 12 (by decide))
    have HF3 := Lib.hid hC.fp
    have hqw : w.heap.size ≤ q := Nat.le_trans (Nat.le_trans HWF.out.size HF.out.size) hpq
    have M1 := Lib.hid (nskew_none w3 p _ _ hp)
    have HP := Lib.hid (show NodeAt w3 p _ (.pointer none) (ptrV q) from hp)
    have HQ := Lib.hid hq
    clear hC hp hq hbb u6 u7 u8 u12
    unfold ptrV at M1
    go_wp2_with (fail)
    refine M1.out.mono ?_
    rintro e w4 ⟨rfl, hf4⟩
    have M2 := Lib.hid (nsplit_leaf w4 p q _ _ _ _ (HP.out.fp hf4 (by simp)) (HQ.out.fp hf4 (by simp)))
    have HF4 := Lib.hid hf4
    clear M1 hf4
    unfold ptrV at M2
    go_wp2_with (fail)
    refine M2.out.mono ?_
    rintro e w5 ⟨rfl, hf5⟩
    have HF5 := Lib.hid hf5
    clear M2 hf5
    go_wp2_with (fail)
    go_ret2
    exact ⟨p, true, rfl, (((HWF.out.trans HF.out (by simp)).mono (S' := [p]) (by simp)).trans HF3.out (by simp)).trans (HF4.out.trans HF5.out (by simp)) (by simp)⟩
  ·have M1 := Lib.hid (nskew_none w' p _ _ H1.out)
   unfold ptrV at M1
   go_wp2_with (fail)
   refine M1.out.mono ?_
   rintro e w4 ⟨rfl, hf4⟩
   have M2 := Lib.hid (nsplit_none w4 p _ _ (H1.out.fp hf4 (by simp)))
   have HF4 := Lib.hid hf4
   clear M1 hf4
   unfold ptrV at M2
   go_wp2_with (fail)
   refine M2.out.mono ?_
   rintro e w5 ⟨rfl, hf5⟩
   have HF5 := Lib.hid hf5
   clear M2 hf5
   go_wp2_with (fail)
   go_ret2
   exact ⟨p, false, rfl, ((((HWF.out.trans HF.out (by simp)).trans HF4.out (by simp)).trans HF5.out (by simp)).mono (by simp))⟩
end
section
open Go.Lib
theorem repl_all (s old new : List UInt8) (h : old ≠ new) : replaceAll s old new = replaceK old new (count s old) s := by
 unfold replaceAll replace replaceNum
 rw [if_neg (by simpa using h), if_pos (Or.inl (by decide))]
theorem repl_nil (old new : List UInt8) (hne : old ≠ []) (h : old ≠ new) : replaceAll [] old new = [] := by
 rw [repl_all _ _ _ h]
 have : index [] old = -1 := by
  unfold index
  cases old with
  |nil => exact absurd rfl hne
  |cons a l => rfl
 rw [count_miss this]
 rfl
theorem repl_hit (s old new : List UInt8) (hne : old ≠ []) (h : old ≠ new) (hp : index s old = ((0 : Nat) : Int)) : replaceAll s old new = new ++ replaceAll (s.drop old.length) old new := by
 rw [repl_all _ _ _ h, repl_all _ _ _ h, count_hit hne hp, Nat.add_comm 1, replaceK_hit _ _ _ _ 0 hp]
 simp
theorem repl_skip (b : UInt8) (l old new : List UInt8) (hne : old ≠ []) (h : old ≠ new) (hp : old.isPrefixOf (b :: l) = false) : replaceAll (b :: l) old new = b :: replaceAll l old new := by
 have hix : index (b :: l) old = if index l old == -1 then -1 else index l old + 1 := by
  conv => lhs; unfold index
  rw [hp]; simp
 rw [repl_all _ _ _ h, repl_all _ _ _ h]
 have hge := index_ge l old
 by_cases hm : index l old = -1
 ·rw [hm] at hix
  rw [count_miss hm, count_miss (by rw [hix]; rfl)]
  rfl
 ·obtain ⟨i, hi⟩ : ∃ i : Nat, index l old = i := ⟨(index l old).toNat, by omega⟩
  have hix2 : index (b :: l) old = ((i + 1 : Nat) : Int) := by
   rw [hix, hi, if_neg (by simp)]; omega
  have e : (b :: l).drop (i + 1 + old.length) = l.drop (i + old.length) := by
   rw [show i + 1 + old.length = (i + old.length) + 1 by omega]; rfl
  rw [count_hit hne hix2, count_hit hne hi, e, Nat.add_comm 1, replaceK_hit _ _ _ _ _ hix2, replaceK_hit _ _ _ _ _ hi, e]
  rfl
theorem index_pre {s sub : List UInt8} (h : sub.isPrefixOf s = true) : index s sub = ((0 : Nat) : Int) := by
 cases s with
 |nil =>
  cases sub with
  |nil => rfl
  |cons a l => cases h
 |cons b l => unfold index; rw [if_pos h]; rfl
def esc : List UInt8 → List UInt8
 |[] => []
 |b :: l => if b = 0 then 0 :: 255 :: esc l else b :: esc l
theorem esc_zero (l : List UInt8) : esc (0 :: l) = 0 :: 255 :: esc l := rfl
theorem esc_one {b : UInt8} (h : b ≠ 0) (l : List UInt8) : esc (b :: l) = b :: esc l := if_neg h
theorem esc_length (l : List UInt8) : (esc l).length ≤ 2 * l.length := by
 induction l with
 |nil => exact Nat.le_refl _
 |cons b l ih =>
  by_cases h : b = 0
  ·subst h; rw [esc_zero]; simp only [List.length_cons]; omega
  ·rw [esc_one h]; simp only [List.length_cons]; omega
theorem repl_esc (l : List UInt8) : replaceAll l [0] [0, 255] = esc l := by
 induction l with
 |nil => exact repl_nil _ _ (by simp) (by simp)
 |cons b l ih =>
  by_cases h : b = 0
  ·subst h
   rw [repl_hit _ _ _ (by simp) (by simp) (index_pre (by simp [List.isPrefixOf])), esc_zero]
   simp [ih]
  ·rw [repl_skip _ _ _ _ (by simp) (by simp) (by simpa [List.isPrefixOf] using Ne.symm h), esc_one h, ih]
theorem replK_length (old new : List UInt8) (hn : new.length ≤ old.length) : ∀ k s, (replaceK old new k s).length ≤ s.length
 |0, _ => Nat.le_refl _
 |k + 1, s => by
  unfold replaceK
  split
  ·exact Nat.le_refl _
  ·rename_i h
   have h1 : index s old ≠ -1 := by simpa using h
   have hge := index_ge s old
   have hr := index_room s old (by omega)
   have ih := replK_length old new hn k (s.drop ((index s old).toNat + old.length))
   simp only [List.length_append, List.length_take, List.length_drop] at ih ⊢
   omega
theorem repl_length (s old new : List UInt8) (hn : new.length ≤ old.length) : (replaceAll s old new).length ≤ s.length := by
 unfold replaceAll replace
 split
 ·exact Nat.le_refl _
 ·exact replK_length _ _ hn _ _
end
end Go.Proofs.YtkjmgbifoaoefaaGreatDoor
