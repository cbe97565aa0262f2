/-
 Cells: name, May, Cmp and what they call. Cells: Cmp and Same. Same: one coordinate. A region that draws its order, walked once: the same walk serves a function's body and the round of a range over a function. Over any program. A region that draws its order; some of its operations turn the world, in an order that is forced: the class knows which are done. Over any program.
-/
import Derived.Test.YtkjmgbifoaoefaaGreatDoorRows
import Derived.Test.YtkjmgbifoaoefaaGreatDoorQShelf
import Derived.Test.YtkjmgbifoaoefaaGreatDoorQCellPure
import Derived.Deep.RegionHeld3
import Derived.Deep.DrawnRows
import Derived.Test.YtkjmgbifoaoefaaGreatDoorQRegion
import Derived.RangeFuncCalls
import Derived.RegionIn
set_option maxRecDepth 100000
set_option maxHeartbeats 8000000
namespace Go.Proofs.YtkjmgbifoaoefaaGreatDoor
section
section
open Go.RowKit
theorem str_empty_eq {s : ByteArray} (h : s.size = 0) : s = ⟨#[]⟩ := by
 obtain ⟨⟨l⟩⟩ := s
 cases l with
 |nil => rfl
 |cons a r => cases h
theorem name_any (s : ByteArray) (w : World) (hs : s.size ≤ 9223372036854775807) : Calls Tryz.prog 68 #[.string s] w fun e w' => e = .returned (.bool (nmB s)) ∧ w = w' := by
 by_cases h0 : s.size = 0
 ·have H := Lib.hid (nmB_zero h0)
  obtain rfl := str_empty_eq h0
  clear h0
  go_enter Tryz.func68, Tryz.ntmps68
  go_wp2
  go_ret
  exact ⟨by rw [H.out]; rfl, rfl⟩
 ·have he := str_full (Nat.pos_of_ne_zero h0)
  by_cases h4 : s.size ≤ 40
  ·have H := Lib.hid (nmB_fit h0 h4)
   clear h0
   go_enter Tryz.func68, Tryz.ntmps68
   go_wp2
   go_ret
   exact ⟨ret_bool (by rw [H.out]; simp; omega), rfl⟩
  ·have H := Lib.hid (nmB_great h4)
   clear h0
   go_enter Tryz.func68, Tryz.ntmps68
   go_wp2
   go_ret
   exact ⟨ret_bool (by rw [H.out]; simp; omega), rfl⟩
theorem may_any (c : Cel) (w : World) (hc : CelOK c) : Calls Tryz.prog 24 #[cellV c] w fun e w' => e = .returned (.bool (mayB c)) ∧ Fp [] w w' := by
 obtain ⟨h1, h2, h3, h4, h5⟩ := hc
 unfold cellV
 have hf := Lib.hid (Fp.alloc w (.cells #[.string c.row, .string c.col, .int .u64 c.ts, .int .u64 c.seq, .bool c.del, .string c.val] 24))
 have HM : Hid (mayB c = (nmB c.row && nmB c.col && decide (c.val.size ≤ 100) && (!c.del || decide (c.val.size = 0)))) := rfl
 obtain ⟨r, hr⟩ : ∃ r, r = nmB c.row := ⟨_, rfl⟩
 obtain ⟨k, hk⟩ : ∃ k, k = nmB c.col := ⟨_, rfl⟩
 have n1 := fun w => name_any c.row w h3
 have n2 := fun w => name_any c.col w h4
 rw [← hr] at HM n1
 rw [← hk] at HM n2
 have N1 := Lib.hid n1
 have N2 := Lib.hid n2
 clear n1 n2 hr hk
 obtain ⟨dl, hdl⟩ : ∃ dl, dl = c.del := ⟨_, rfl⟩
 rw [← hdl] at HM hf ⊢
 clear hdl
 cases r
 ·have HT : Hid (mayB c = false) := HM.out
  go_enter Tryz.func24, Tryz.ntmps24
  go_wp2_with (go_at_call 68; refine (N1.out _).mono ?_; rintro e w' ⟨rfl, rfl⟩)
  go_ret
  exact ⟨by rw [HT.out]; rfl, hf.out⟩
 cases k
 ·have HT : Hid (mayB c = false) := HM.out
  go_enter Tryz.func24, Tryz.ntmps24
  go_wp2_with (fail)
  refine (N1.out _).mono ?_
  rintro e w' ⟨rfl, rfl⟩
  go_wp2_with (fail)
  refine (N2.out _).mono ?_
  rintro e w' ⟨rfl, rfl⟩
  go_wp2_with (fail)
  go_ret
  exact ⟨by rw [HT.out]; rfl, hf.out⟩
 by_cases hv : c.val.size ≤ 100
 case neg =>
  have HT : Hid (mayB c = false) := by unfold Hid; rw [HM.out, decide_eq_false hv]; rfl
  go_enter Tryz.func24, Tryz.ntmps24
  go_wp2_with (fail)
  refine (N1.out _).mono ?_
  rintro e w' ⟨rfl, rfl⟩
  go_wp2_with (fail)
  refine (N2.out _).mono ?_
  rintro e w' ⟨rfl, rfl⟩
  go_wp2_with (fail)
  go_ret
  exact ⟨by rw [HT.out]; rfl, hf.out⟩
 cases dl
 ·have HT : Hid (mayB c = true) := by unfold Hid; rw [HM.out, decide_eq_true hv]; rfl
  go_enter Tryz.func24, Tryz.ntmps24
  go_wp2_with (fail)
  refine (N1.out _).mono ?_
  rintro e w' ⟨rfl, rfl⟩
  go_wp2_with (fail)
  refine (N2.out _).mono ?_
  rintro e w' ⟨rfl, rfl⟩
  go_wp2_with (fail)
  go_ret
  exact ⟨by rw [HT.out]; rfl, hf.out⟩
 by_cases h0 : c.val.size = 0
 ·have HT : Hid (mayB c = true) := by unfold Hid; rw [HM.out, decide_eq_true hv, decide_eq_true h0]; rfl
  have he := str_empty_eq h0
  rw [he] at hf ⊢
  clear h0 he hv h5
  go_enter Tryz.func24, Tryz.ntmps24
  go_wp2_with (fail)
  refine (N1.out _).mono ?_
  rintro e w' ⟨rfl, rfl⟩
  go_wp2_with (fail)
  refine (N2.out _).mono ?_
  rintro e w' ⟨rfl, rfl⟩
  go_wp2_with (fail)
  go_ret
  exact ⟨by rw [HT.out]; rfl, hf.out⟩
 ·have HT : Hid (mayB c = false) := by unfold Hid; rw [HM.out, decide_eq_true hv, decide_eq_false h0]; rfl
  have he := str_full (Nat.pos_of_ne_zero h0)
  clear h0
  go_enter Tryz.func24, Tryz.ntmps24
  go_wp2_with (fail)
  refine (N1.out _).mono ?_
  rintro e w' ⟨rfl, rfl⟩
  go_wp2_with (fail)
  refine (N2.out _).mono ?_
  rintro e w' ⟨rfl, rfl⟩
  go_wp2_with (fail)
  go_ret
  exact ⟨by rw [HT.out]; rfl, hf.out⟩
theorem nan_any (a : Int) (w : World) : Calls Tryz.prog 230 #[.int .u64 a] w fun e w' => e = .returned (.bool false) ∧ w = w' := by
 go_enter Tryz.func230, Tryz.ntmps230
 go_wp2
 go_ret
 exact ⟨by simp, rfl⟩
theorem cmpN_lt {a b : Nat} (h : a < b) : cmpN a b = -1 := if_pos h
theorem cmpN_gt {a b : Nat} (h : b < a) : cmpN a b = 1 := by unfold cmpN; rw [if_neg (by omega), if_pos h]
theorem cmpN_eq {a b : Nat} (h : ¬ a < b) (h2 : ¬ b < a) : cmpN a b = 0 := by unfold cmpN; rw [if_neg h, if_neg h2]
theorem compareN_any (a b : Nat) (w : World) : Calls Tryz.prog 209 #[.int .u64 a, .int .u64 b] w fun e w' => e = .returned (.int .i64 (cmpN a b)) ∧ w = w' := by
 by_cases h1 : a < b
 ·have H := Lib.hid (cmpN_lt h1)
  go_enter Tryz.func209, Tryz.ntmps209
  go_wp2_with (go_at_call 230; refine (nan_any _ _).mono ?_; rintro e w' ⟨rfl, rfl⟩)
  go_ret
  exact ⟨by rw [H.out]; rfl, rfl⟩
 ·by_cases h2 : b < a
  ·have H := Lib.hid (cmpN_gt h2)
   go_enter Tryz.func209, Tryz.ntmps209
   go_wp2_with (go_at_call 230; refine (nan_any _ _).mono ?_; rintro e w' ⟨rfl, rfl⟩)
   go_ret
   exact ⟨by rw [H.out]; rfl, rfl⟩
  ·have H := Lib.hid (cmpN_eq h1 h2)
   go_enter Tryz.func209, Tryz.ntmps209
   go_wp2_with (go_at_call 230; refine (nan_any _ _).mono ?_; rintro e w' ⟨rfl, rfl⟩)
   go_ret
   exact ⟨by rw [H.out]; rfl, rfl⟩
end
section
open Go.RowKit
theorem firstN_at {l : List Int} {k : Nat} (h : ∀ x ∈ l.take k, x = 0) (hk : k < l.length) (hx : l[k] ≠ 0) : firstN l = l[k] := by
 induction l generalizing k with
 |nil => simp at hk
 |cons y r ih =>
  unfold firstN
  cases k with
  |zero => exact if_pos hx
  |succ k =>
   have : y = 0 := h y (by simp)
   rw [if_neg (by simp [this])]
   exact ih (fun x hx => h x (by simp [hx])) (by simpa using hk) hx
theorem firstN_none {l : List Int} (h : ∀ x ∈ l, x = 0) : firstN l = 0 := by
 induction l with
 |nil => rfl
 |cons y r ih =>
  unfold firstN
  rw [if_neg (by simp [h y (by simp)])]
  exact ih (fun x hx => h x (by simp [hx]))
theorem or_any (w : World) (sb : Nat) (l : List Int) (hs : w.heap[sb]? = some (.cells (l.map (Value.int .i64)).toArray 3 (0, 0))) (hn : l.length ≤ 1000) :
  Calls Tryz.prog 200 #[.slice (some ⟨sb, 0, none⟩) l.length l.length] w fun e w' => e = .returned (.int .i64 (firstN l)) ∧ w = w' := by
 have HS := Lib.hid hs
 have hlt := heap_lt hs
 clear hs
 go_enter Tryz.func200, Tryz.ntmps200
 go_wp2
 go_loop [8] (fun i => ∃ k : Nat, k ≤ l.length ∧ i = .int .i64 k ∧ ∀ x ∈ l.take k, x = 0) (fun i => l.length - (intOf i).toNat)
 case atStart => exact ⟨0, by omega, rfl, by simp⟩
 case round =>
  obtain ⟨k, hk, rfl, hall⟩ := hrel
  have HA := Lib.hid hall
  clear hall
  by_cases hlt' : k < l.length
  ·have hcell : w.cell? ⟨sb, k, none⟩ = some (.int .i64 l[k]) := by rw [cell_of_block HS.out]; simp [hlt']
   obtain ⟨x, hx⟩ : ∃ x, x = l[k] := ⟨_, rfl⟩
   rw [← hx] at hcell
   have HX := Lib.hid hx
   clear hx
   by_cases h0 : x = 0
   ·subst h0
    go_wp2
    go_round
    case rel =>
     refine ⟨k + 1, by omega, by go_num, ?_⟩
     rw [List.take_succ_eq_append_getElem hlt']
     intro y hy
     rcases List.mem_append.1 hy with hy | hy
     ·exact HA.out y hy
     ·rw [List.mem_singleton] at hy; rw [hy, ← HX.out]
    case measure => simp [intOf]; omega
   ·have hb : (x != 0) = true := by simpa using h0
    have H := Lib.hid (firstN_at HA.out hlt' (by rw [← HX.out]; exact h0))
    clear h0
    go_wp2
    go_ret
    exact ⟨by rw [H.out, ← HX.out]; rfl, rfl⟩
  ·have H := Lib.hid (firstN_none (l := l) (by have := HA.out; rwa [List.take_of_length_le (by omega)] at this))
   go_wp2
   go_ret
   exact ⟨by rw [H.out]; rfl, rfl⟩
theorem cmp_any (a b : Cel) (w : World) : Calls Tryz.prog 146 #[cellV a, cellV b] w fun e w' => e = .returned (.int .i64 (cmpC a b)) ∧ Fp [] w w' := by
 unfold cellV
 have HC : Hid (cmpC a b = firstN [cmpS a.row b.row, cmpS a.col b.col, cmpN b.ts a.ts, cmpN b.seq a.seq]) := rfl
 obtain ⟨x1, hx1⟩ : ∃ x, x = cmpS a.row b.row := ⟨_, rfl⟩
 obtain ⟨x2, hx2⟩ : ∃ x, x = cmpS a.col b.col := ⟨_, rfl⟩
 obtain ⟨x3, hx3⟩ : ∃ x, x = cmpN b.ts a.ts := ⟨_, rfl⟩
 obtain ⟨x4, hx4⟩ : ∃ x, x = cmpN b.seq a.seq := ⟨_, rfl⟩
 have n1 : ∀ w, Calls Tryz.prog 202 #[.string a.row, .string b.row] w fun e w' => e = .returned (.int .i64 x1) ∧ w' = w := fun w => by rw [hx1]; exact Tryz.strings_Compare _ _ w
 have n2 : ∀ w, Calls Tryz.prog 202 #[.string a.col, .string b.col] w fun e w' => e = .returned (.int .i64 x2) ∧ w' = w := fun w => by rw [hx2]; exact Tryz.strings_Compare _ _ w
 have n3 := fun w => compareN_any b.ts a.ts w
 have n4 := fun w => compareN_any b.seq a.seq w
 rw [← hx1, ← hx2, ← hx3, ← hx4] at HC
 rw [← hx3] at n3
 rw [← hx4] at n4
 have N1 := Lib.hid n1
 have N2 := Lib.hid n2
 have N3 := Lib.hid n3
 have N4 := Lib.hid n4
 clear n1 n2 n3 n4 hx1 hx2 hx3 hx4
 obtain ⟨W, hW⟩ : ∃ W, W = (w.alloc (.cells #[.string a.row, .string a.col, .int .u64 a.ts, .int .u64 a.seq, .bool a.del, .string a.val] 24)).alloc (.cells #[.string b.row, .string b.col, .int .u64 b.ts, .int .u64 b.seq, .bool b.del, .string b.val] 24) := ⟨_, rfl⟩
 have hfw : Fp [] w W := by rw [hW]; exact (Fp.alloc _ _).alloc' _
 have hba : W.heap[w.heap.size]? = some (.cells #[.string a.row, .string a.col, .int .u64 a.ts, .int .u64 a.seq, .bool a.del, .string a.val] 24 (0, 0)) := by
  rw [hW, Below.heap_alloc _ _ _ (by simp)]; exact heap_alloc_at rfl _
 have hbb : W.heap[w.heap.size + 1]? = some (.cells #[.string b.row, .string b.col, .int .u64 b.ts, .int .u64 b.seq, .bool b.del, .string b.val] 24 (0, 0)) := by
  rw [hW]; exact heap_alloc_at (by simp) _
 have hcell : ∀ w', Fp [] W w' → w'.cell? ⟨w.heap.size, 0, none⟩ = some (.string a.row) ∧ w'.cell? ⟨w.heap.size, 1, none⟩ = some (.string a.col) ∧ w'.cell? ⟨w.heap.size, 2, none⟩ = some (.int .u64 a.ts) ∧ w'.cell? ⟨w.heap.size, 3, none⟩ = some (.int .u64 a.seq) ∧ w'.cell? ⟨w.heap.size + 1, 0, none⟩ = some (.string b.row) ∧ w'.cell? ⟨w.heap.size + 1, 1, none⟩ = some (.string b.col) ∧ w'.cell? ⟨w.heap.size + 1, 2, none⟩ = some (.int .u64 b.ts) ∧ w'.cell? ⟨w.heap.size + 1, 3, none⟩ = some (.int .u64 b.seq) := by
  intro w' hf
  have h1 := (hf.block _ (heap_lt hba) (by simp)).trans hba
  have h2 := (hf.block _ (heap_lt hbb) (by simp)).trans hbb
  exact ⟨cell_of_block h1 0, cell_of_block h1 1, cell_of_block h1 2, cell_of_block h1 3, cell_of_block h2 0, cell_of_block h2 1, cell_of_block h2 2, cell_of_block h2 3⟩
 have HCELL := Lib.hid hcell
 have HFW := Lib.hid hfw
 have HW := Lib.hid hW
 clear hcell hfw hba hbb hW
 go_enter Tryz.func146, Tryz.ntmps146
 go_wp2_with (fail)
 rw [← HW.out]
 refine wp_region_calm (by kernel_rfl) (by kernel_rfl) ?_
 apply ex_plain rfl rfl rfl
 ·intro a w hC hA K hK
  have h2 := hA.free 2 _ (by kernel_rfl) rfl
  simp only [Oper.wp, execOp]; go_simp
  exact hK _ hC (Fp.refl _ _)
 apply ex_plain rfl rfl rfl
 ·intro a w hC hA K hK
  have h5 : a.tmps[5]?.getD undef = _ := hA.dep 0 5 _ (by kernel_rfl) rfl
  obtain ⟨c1, c2, c3, c4, c5, c6, c7, c8⟩ := HCELL.out _ hC
  simp only [Oper.wp, execOp]; go_simp
  exact hK _ hC (Fp.refl _ _)
 apply ex_plain rfl rfl rfl
 ·intro a w hC hA K hK
  have h3 := hA.free 3 _ (by kernel_rfl) rfl
  simp only [Oper.wp, execOp]; go_simp
  exact hK _ hC (Fp.refl _ _)
 apply ex_plain rfl rfl rfl
 ·intro a w hC hA K hK
  have h7 : a.tmps[7]?.getD undef = _ := hA.dep 2 7 _ (by kernel_rfl) rfl
  obtain ⟨c1, c2, c3, c4, c5, c6, c7, c8⟩ := HCELL.out _ hC
  simp only [Oper.wp, execOp]; go_simp
  exact hK _ hC (Fp.refl _ _)
 apply ex_plain rfl rfl rfl
 ·intro a w hC hA K hK
  have h6 : a.tmps[6]?.getD undef = _ := hA.dep 1 6 _ (by kernel_rfl) rfl
  have h8 : a.tmps[8]?.getD undef = _ := hA.dep 3 8 _ (by kernel_rfl) rfl
  simp only [Oper.wp, execOp]; go_simp
  refine (N1.out _).mono ?_
  rintro e w2 ⟨rfl, rfl⟩
  exact hK _ hC (Fp.refl _ _)
 apply ex_plain rfl rfl rfl
 ·intro a w hC hA K hK
  have h2 := hA.free 2 _ (by kernel_rfl) rfl
  simp only [Oper.wp, execOp]; go_simp
  exact hK _ hC (Fp.refl _ _)
 apply ex_plain rfl rfl rfl
 ·intro a w hC hA K hK
  have h10 : a.tmps[10]?.getD undef = _ := hA.dep 5 10 _ (by kernel_rfl) rfl
  obtain ⟨c1, c2, c3, c4, c5, c6, c7, c8⟩ := HCELL.out _ hC
  simp only [Oper.wp, execOp]; go_simp
  exact hK _ hC (Fp.refl _ _)
 apply ex_plain rfl rfl rfl
 ·intro a w hC hA K hK
  have h3 := hA.free 3 _ (by kernel_rfl) rfl
  simp only [Oper.wp, execOp]; go_simp
  exact hK _ hC (Fp.refl _ _)
 apply ex_plain rfl rfl rfl
 ·intro a w hC hA K hK
  have h12 : a.tmps[12]?.getD undef = _ := hA.dep 7 12 _ (by kernel_rfl) rfl
  obtain ⟨c1, c2, c3, c4, c5, c6, c7, c8⟩ := HCELL.out _ hC
  simp only [Oper.wp, execOp]; go_simp
  exact hK _ hC (Fp.refl _ _)
 apply ex_plain rfl rfl rfl
 ·intro a w hC hA K hK
  have h11 : a.tmps[11]?.getD undef = _ := hA.dep 6 11 _ (by kernel_rfl) rfl
  have h13 : a.tmps[13]?.getD undef = _ := hA.dep 8 13 _ (by kernel_rfl) rfl
  simp only [Oper.wp, execOp]; go_simp
  refine (N2.out _).mono ?_
  rintro e w2 ⟨rfl, rfl⟩
  exact hK _ hC (Fp.refl _ _)
 apply ex_plain rfl rfl rfl
 ·intro a w hC hA K hK
  have h3 := hA.free 3 _ (by kernel_rfl) rfl
  simp only [Oper.wp, execOp]; go_simp
  exact hK _ hC (Fp.refl _ _)
 apply ex_plain rfl rfl rfl
 ·intro a w hC hA K hK
  have h15 : a.tmps[15]?.getD undef = _ := hA.dep 10 15 _ (by kernel_rfl) rfl
  obtain ⟨c1, c2, c3, c4, c5, c6, c7, c8⟩ := HCELL.out _ hC
  simp only [Oper.wp, execOp]; go_simp
  exact hK _ hC (Fp.refl _ _)
 apply ex_plain rfl rfl rfl
 ·intro a w hC hA K hK
  have h2 := hA.free 2 _ (by kernel_rfl) rfl
  simp only [Oper.wp, execOp]; go_simp
  exact hK _ hC (Fp.refl _ _)
 apply ex_plain rfl rfl rfl
 ·intro a w hC hA K hK
  have h17 : a.tmps[17]?.getD undef = _ := hA.dep 12 17 _ (by kernel_rfl) rfl
  obtain ⟨c1, c2, c3, c4, c5, c6, c7, c8⟩ := HCELL.out _ hC
  simp only [Oper.wp, execOp]; go_simp
  exact hK _ hC (Fp.refl _ _)
 apply ex_plain rfl rfl rfl
 ·intro a w hC hA K hK
  have h16 : a.tmps[16]?.getD undef = _ := hA.dep 11 16 _ (by kernel_rfl) rfl
  have h18 : a.tmps[18]?.getD undef = _ := hA.dep 13 18 _ (by kernel_rfl) rfl
  simp only [Oper.wp, execOp]; go_simp
  refine (N3.out _).mono ?_
  rintro e w2 ⟨rfl, rfl⟩
  exact hK _ hC (Fp.refl _ _)
 apply ex_plain rfl rfl rfl
 ·intro a w hC hA K hK
  have h3 := hA.free 3 _ (by kernel_rfl) rfl
  simp only [Oper.wp, execOp]; go_simp
  exact hK _ hC (Fp.refl _ _)
 apply ex_plain rfl rfl rfl
 ·intro a w hC hA K hK
  have h20 : a.tmps[20]?.getD undef = _ := hA.dep 15 20 _ (by kernel_rfl) rfl
  obtain ⟨c1, c2, c3, c4, c5, c6, c7, c8⟩ := HCELL.out _ hC
  simp only [Oper.wp, execOp]; go_simp
  exact hK _ hC (Fp.refl _ _)
 apply ex_plain rfl rfl rfl
 ·intro a w hC hA K hK
  have h2 := hA.free 2 _ (by kernel_rfl) rfl
  simp only [Oper.wp, execOp]; go_simp
  exact hK _ hC (Fp.refl _ _)
 apply ex_plain rfl rfl rfl
 ·intro a w hC hA K hK
  have h22 : a.tmps[22]?.getD undef = _ := hA.dep 17 22 _ (by kernel_rfl) rfl
  obtain ⟨c1, c2, c3, c4, c5, c6, c7, c8⟩ := HCELL.out _ hC
  simp only [Oper.wp, execOp]; go_simp
  exact hK _ hC (Fp.refl _ _)
 apply ex_plain rfl rfl rfl
 ·intro a w hC hA K hK
  have h21 : a.tmps[21]?.getD undef = _ := hA.dep 16 21 _ (by kernel_rfl) rfl
  have h23 : a.tmps[23]?.getD undef = _ := hA.dep 18 23 _ (by kernel_rfl) rfl
  simp only [Oper.wp, execOp]; go_simp
  refine (N4.out _).mono ?_
  rintro e w2 ⟨rfl, rfl⟩
  exact hK _ hC (Fp.refl _ _)
 apply ex_some (fun w' v => ∃ g, v = .slice (some ⟨g, 0, none⟩) 4 4 ∧ w'.heap[g]? = some (.cells #[.int .i64 x1, .int .i64 x2, .int .i64 x3, .int .i64 x4] 3 (0, 0))) rfl rfl rfl
 ·intro a w hC hA K hK
  have h9 : a.tmps[9]?.getD undef = _ := hA.dep 4 9 _ (by kernel_rfl) rfl
  have h14 : a.tmps[14]?.getD undef = _ := hA.dep 9 14 _ (by kernel_rfl) rfl
  have h19 : a.tmps[19]?.getD undef = _ := hA.dep 14 19 _ (by kernel_rfl) rfl
  have h24 : a.tmps[24]?.getD undef = _ := hA.dep 19 24 _ (by kernel_rfl) rfl
  simp only [Oper.wp, execOp]; go_simp
  exact hK _ _ (hC.alloc' _) (Fp.alloc _ _) ⟨_, rfl, heap_alloc_at rfl _⟩
 apply ex_plain rfl rfl rfl
 ·intro a w hC hA K hK
  obtain ⟨g, h25, hg⟩ := hA.dep 20 25 _ (by kernel_rfl) rfl
  simp only [Oper.wp, execOp]; go_simp
  refine (or_any w g [x1, x2, x3, x4] hg (by simp)).mono ?_
  rintro e w2 ⟨rfl, rfl⟩
  exact hK _ hC (Fp.refl _ _)
 apply ex_plain rfl rfl rfl
 ·intro a w hC hA K hK
  have h26 : a.tmps[26]?.getD undef = _ := hA.dep 21 26 _ (by kernel_rfl) rfl
  simp only [Oper.wp, execOp]; go_simp
  exact hK _ hC (Fp.refl _ _)
 refine ⟨?_, ?_⟩
 ·repeat (first | exact trivial | refine stab_val _ ?_ | refine ⟨fun w1 w2 v _ hf ⟨g, h1, h2⟩ => ⟨g, h1, (hf.block g (heap_lt h2) (by simp)).trans h2⟩, ?_⟩)
 ·intro w' hC
  simp only [List.reverse_cons, List.reverse_nil, List.nil_append, List.cons_append]
  repeat (refine all_val ?_)
  refine all_some ?_
  intro v25 _
  repeat (refine all_val ?_)
  refine all_nil ?_
  simp only [putAll, Act.put, List.setIfInBounds_toArray, List.set_cons_succ, List.set_cons_zero]
  have HF := Lib.hid (HFW.out.trans hC (by simp))
  clear hC
  go_wp2
  go_ret
  exact ⟨ret_int HC.out.symm, HF.out⟩
end
section
open Go.RowKit
end
end
section
open Go.RowKit
section
variable {P : Program} {l : List Oper}
def wpAnyG (P : Program) (l : List Oper) (Qn : Act → World → Prop) : Nat → Array Bool → Act → World → Prop
 |0, listed, a, w => Region.ready .any l.toArray listed = [] ∧ Qn a w
 |fuel + 1, listed, a, w => (Region.ready .any l.toArray listed = [] → Qn a w) ∧ ∀ i ∈ Region.ready .any l.toArray listed, ∃ o, l[i]? = some o ∧
   if Region.wanted o (yielded l.toArray a.tmps) = true then o.wp P a w (wpAnyG P l Qn fuel (listed.setIfInBounds i true)) (fun _ _ _ => False) else wpAnyG P l Qn fuel (listed.setIfInBounds i true) (a.put o.dst undef) w
theorem wpAny_of_G {Q : Exit → Act → World → Prop} : ∀ (fuel : Nat) (listed : Array Bool) (a : Act) (w : World), wpAnyG P l (Q .normal) fuel listed a w → wpAny P .any l.toArray Q fuel listed a w
 |0, _, _, _, h => h
 |fuel + 1, listed, a, w, h => by
  refine ⟨h.1, fun i hi => ?_⟩
  obtain ⟨o, ho, hh⟩ := h.2 i hi
  have ho' : l.toArray[i]? = some o := by simpa using ho
  unfold wpOp
  simp only [ho']
  split
  ·rename_i hw
   rw [if_pos hw] at hh
   exact Or.inl (wp_mono_both (fun a2 w2 h => wpAny_of_G fuel _ a2 w2 h) (fun _ _ _ h => h.elim) hh)
  ·rename_i hw
   rw [if_neg hw] at hh
   exact wpAny_of_G fuel _ _ _ hh
theorem wp_region_G {id : Nat} {Q : Exit → Act → World → Prop} {a0 : Act} {w0 : World} (hm : P.follows .mixedOrders = true)
  (h : wpAnyG P l (Q .normal) l.toArray.size (Array.replicate l.toArray.size false) a0 { w0 with drawn := w0.drawn + 1 }) : (Code.region id l.toArray true).wp P Q a0 w0 := wp_region_any hm (wpAny_of_G _ _ _ _ h)
end
end
section
open Go.RowKit
section
variable {P : Program} {l : List Oper}
def upd (b : Nat → Bool) (i : Nat) : Nat → Bool := fun k => if k = i then true else b k
def bitsOf (listed : Array Bool) : Nat → Bool := fun k => listed.getD k false
theorem bits_none (n : Nat) : bitsOf (Array.replicate n false) = fun _ => false := by
 funext k
 unfold bitsOf
 rcases Nat.lt_or_ge k n with h | h
 ·simp [h]
 ·simp [h]
def RelOpN (P : Program) (l : List Oper) (Ss : List (World → Value → Prop)) (C : (Nat → Bool) → World → Prop) (R : World → World → Prop) (a0 : Act) (i : Nat) : Prop :=
 ∀ o S, l[i]? = some o → Ss[i]? = some S → ∀ (b : Nat → Bool) (a : Act) (w : World), C b w → b i = false → (∀ e ∈ o.after, Region.binds .any e = true → b e.on = true) →
  (∀ j oj, l[j]? = some oj → b j = true → ∀ e ∈ oj.after, Region.binds .any e = true → b e.on = true) → a.tmps.size = a0.tmps.size →
  (∀ t, (∀ j oj, l[j]? = some oj → oj.dst = some t → b j = false) → a.tmps.getD t undef = a0.tmps.getD t undef) →
  (∀ e ∈ o.after, Region.binds .any e = true → ∀ oe Se, l[e.on]? = some oe → Ss[e.on]? = some Se → Se w (valOf oe a)) →
  if Region.wanted o (yielded l.toArray a.tmps) = true then o.wp P a w (fun a2 w2 => ∃ v, a2 = a.put o.dst v ∧ C (upd b i) w2 ∧ R w w2 ∧ S w2 (match o.dst with | some _ => v | none => undef)) (fun _ _ _ => False)
  else S w undef ∧ C (upd b i) w
structure RelInvN (l : List Oper) (Ss : List (World → Value → Prop)) (C : (Nat → Bool) → World → Prop) (a0 : Act) (listed : Array Bool) (a : Act) (w : World) : Prop where
 size : listed.size = l.length
 defers : a.defers = a0.defers
 tmps : a.tmps.size = a0.tmps.size
 done : ∀ j o S, l[j]? = some o → Ss[j]? = some S → listed.getD j false = true → S w (valOf o a)
 same : ∀ t, (∀ j oj, l[j]? = some oj → oj.dst = some t → bitsOf listed j = false) → a.tmps.getD t undef = a0.tmps.getD t undef
 closed : ∀ j oj, l[j]? = some oj → bitsOf listed j = true → ∀ e ∈ oj.after, Region.binds .any e = true → bitsOf listed e.on = true
 cls : C (bitsOf listed) w
theorem rel_anyN {Ss : List (World → Value → Prop)} {C : (Nat → Bool) → World → Prop} {R : World → World → Prop} {a0 : Act} {Qn : Act → World → Prop} (hl : Ss.length = l.length) (hform : relForm l a0.tmps.size = true)
  (stab : ∀ S ∈ Ss, ∀ w w' v, R w w' → S w v → S w' v) (rel : ∀ i, i < l.length → RelOpN P l Ss C R a0 i)
  (fin : ∀ a w listed, RelInvN l Ss C a0 listed a w → (∀ j, j < l.length → listed.getD j false = true) → Qn a w) :
  ∀ (fuel : Nat) (listed : Array Bool) (a : Act) (w : World), unlisted listed = fuel → RelInvN l Ss C a0 listed a w → wpAnyG P l Qn fuel listed a w := by
 intro fuel
 induction fuel with
 |zero =>
  intro listed a w hu inv
  have hall := unlisted_zero hu
  rw [inv.size] at hall
  refine ⟨?_, fin a w listed inv hall⟩
  apply List.eq_nil_iff_forall_not_mem.2
  intro j hj
  obtain ⟨h1, o, ho, _⟩ := mem_ready.1 hj
  have hlt : j < l.length := by simpa using (Array.getElem?_eq_some_iff.1 ho).1
  have h2 := hall j hlt
  have hls : j < listed.size := by rw [inv.size]; exact hlt
  simp [hls] at h1 h2
  rw [h1] at h2
  cases h2
 |succ fuel ih =>
  intro listed a w hu inv
  refine ⟨fun hr => ?_, fun i hi => ?_⟩
  ·-- something is ready as long as not all is listed
   exfalso
   have hex : ∃ j, j < l.length ∧ listed.getD j false = false := by
    by_cases hex : ∃ j, j < l.length ∧ listed.getD j false = false
    ·exact hex
    ·exfalso
     have hall : ∀ j, j < l.length → listed.getD j false = true := fun j hj => by
      cases h : listed.getD j false
      ·exact absurd ⟨j, hj, h⟩ hex
      ·rfl
     have : unlisted listed = 0 := by
      unfold unlisted
      rw [List.length_eq_zero_iff, List.filter_eq_nil_iff]
      intro b hb
      obtain ⟨j, hj, rfl⟩ := List.getElem_of_mem hb
      have hj' : j < listed.size := by simpa using hj
      have := hall j (by rw [← inv.size]; exact hj')
      simp [hj'] at this ⊢
      exact this
     omega
   obtain ⟨j, hj, hleast⟩ : ∃ j, (j < l.length ∧ listed.getD j false = false) ∧ ∀ k, k < j → ¬ (k < l.length ∧ listed.getD k false = false) := by
    obtain ⟨j0, h0⟩ := hex
    induction j0 using Nat.strongRecOn with
    |_ n ih2 =>
     by_cases hk : ∃ k, k < n ∧ (k < l.length ∧ listed.getD k false = false)
     ·obtain ⟨k, hk1, hk2⟩ := hk
      exact ih2 k hk1 hk2
     ·exact ⟨n, h0, fun k hk1 hk2 => hk ⟨k, hk1, hk2⟩⟩
   have hjs : j < listed.size := by rw [inv.size]; exact hj.1
   have : j ∈ Region.ready .any l.toArray listed := by
    refine mem_ready.2 ⟨by have := hj.2; simp [hjs] at this ⊢; exact this, l[j], by simp [hj.1], fun e he hb => ?_⟩
    have hlt := relForm_edge hform (List.getElem?_eq_getElem hj.1) e he hb
    cases h : listed.getD e.on false
    ·exact absurd ⟨by omega, h⟩ (hleast e.on hlt)
    ·rfl
   rw [hr] at this
   cases this
  ·obtain ⟨h1, o, ho, hpre⟩ := mem_ready.1 hi
   have ho' : l[i]? = some o := by simpa using ho
   have hlt : i < l.length := (List.getElem?_eq_some_iff.1 ho').1
   have hls : i < listed.size := by rw [inv.size]; exact hlt
   obtain ⟨S, hS⟩ : ∃ S, Ss[i]? = some S := ⟨Ss[i]'(by omega), List.getElem?_eq_getElem (by omega)⟩
   have h1' : bitsOf listed i = false := by unfold bitsOf; simp [hls] at h1 ⊢; exact h1
   have hr := rel i hlt o S ho' hS (bitsOf listed) a w inv.cls h1' (fun e he hb => hpre e he hb) inv.closed inv.tmps inv.same (fun e he hb oe Se hoe hSe => inv.done e.on oe Se hoe hSe (hpre e he hb))
   have hbit : bitsOf (listed.setIfInBounds i true) = upd (bitsOf listed) i := by
    funext k
    unfold bitsOf upd
    by_cases e : k = i
    ·subst e; rw [if_pos rfl]; simp [hls]
    ·rw [if_neg e, getD_set_ne false (Ne.symm e)]
   have hnext : ∀ v w2, C (upd (bitsOf listed) i) w2 → (∀ S' ∈ Ss, ∀ v, S' w v → S' w2 v) → S w2 (match o.dst with | some _ => v | none => undef) → wpAnyG P l Qn fuel (listed.setIfInBounds i true) (a.put o.dst v) w2 := by
    intro v w2 hC hst hv
    refine ih _ _ _ (by have := unlisted_set hls h1; omega) ⟨by simp [inv.size], by rw [put_defers]; exact inv.defers, by rw [put_size]; exact inv.tmps, ?_, ?_, ?_, by rw [hbit]; exact hC⟩
    ·intro j oj Sj hj hSj hlj
     by_cases hij : i = j
     ·subst hij
      rw [ho'] at hj; cases hj
      rw [hS] at hSj; cases hSj
      unfold valOf
      cases hd : o.dst with
      |none => rw [hd] at hv; exact hv
      |some d =>
       rw [hd] at hv
       simp only
       rw [put_getD_same (by rw [inv.tmps]; exact (relForm_dst hform ho' hd).1)]
       exact hv
     ·rw [getD_set_ne false hij] at hlj
      have h2 := hst Sj (List.mem_of_getElem? hSj) _ (inv.done j oj Sj hj hSj hlj)
      have : valOf oj (a.put o.dst v) = valOf oj a := by
       unfold valOf
       cases hdj : oj.dst with
       |none => rfl
       |some d =>
        simp only
        refine put_getD_other fun hd => ?_
        exact (relForm_dst hform ho' hd).2 j oj hj (Ne.symm hij) hdj
      rw [this]
      exact h2
    ·intro t ht
     have hne : o.dst ≠ some t := fun hd => by
      have := ht i o ho' hd
      rw [hbit] at this
      unfold upd at this
      rw [if_pos rfl] at this
      cases this
     rw [put_getD_other hne]
     refine inv.same t fun j oj hj hd => ?_
     have := ht j oj hj hd
     rw [hbit] at this
     unfold upd at this
     by_cases e : j = i
     ·rw [if_pos e] at this; cases this
     ·rw [if_neg e] at this; exact this
    ·intro j oj hj hlj e he hb
     rw [hbit] at hlj ⊢
     have up : ∀ k, bitsOf listed k = true → upd (bitsOf listed) i k = true := fun k hk => by
      unfold upd
      by_cases e : k = i
      ·rw [if_pos e]
      ·rw [if_neg e]; exact hk
     by_cases ej : j = i
     ·subst ej
      rw [ho'] at hj; cases hj
      exact up _ (hpre e he hb)
     ·unfold upd at hlj
      rw [if_neg ej] at hlj
      exact up _ (inv.closed j oj hj hlj e he hb)
   refine ⟨o, ho', ?_⟩
   split
   ·rename_i hw
    rw [if_pos hw] at hr
    refine (wp_mono_both (fun a2 w2 h => ?_) (fun _ _ _ h => h.elim) hr)
    obtain ⟨v, rfl, hC, hR, hv⟩ := h
    exact hnext v w2 hC (fun S' hS' v hv => stab S' hS' w w2 v hR hv) hv
   ·rename_i hw
    rw [if_neg hw] at hr
    refine hnext undef w hr.2 (fun _ _ _ h => h) ?_
    cases o.dst <;> exact hr.1
theorem region_relN {Qn : Act → World → Prop} {a0 : Act} {w0 : World} (Ss : List (World → Value → Prop)) (C : (Nat → Bool) → World → Prop) (R : World → World → Prop)
  (hl : Ss.length = l.length) (hform : relForm l a0.tmps.size = true) (hC : C (fun _ => false) { w0 with drawn := w0.drawn + 1 })
  (stab : ∀ S ∈ Ss, ∀ w w' v, R w w' → S w v → S w' v) (rel : ∀ i, i < l.length → RelOpN P l Ss C R a0 i)
  (fin : ∀ vs w b, C b w → (∀ j, j < l.length → b j = true) → relAll w Ss vs → Qn (putAll l vs a0) w) : wpAnyG P l Qn l.toArray.size (Array.replicate l.toArray.size false) a0 { w0 with drawn := w0.drawn + 1 } := by
 refine (rel_anyN hl hform stab rel ?_ _ _ _ _ (by simp [unlisted]) ⟨by simp, rfl, rfl, ?_, fun _ _ => rfl, ?_, by rw [bits_none]; exact hC⟩)
 ·intro a w listed inv hall
  have hvs := fin (l.map (fun o => valOf o a)) w (bitsOf listed) inv.cls hall (relAll_of (by simp [hl]) (fun i S v h1 h2 => by
   rw [List.getElem?_map] at h2
   cases ho : l[i]? with
   |none => rw [ho] at h2; cases h2
   |some o =>
    rw [ho] at h2
    simp only [Option.map_some, Option.some.injEq] at h2
    rw [← h2]
    exact inv.done i o S ho h1 (hall i (List.getElem?_eq_some_iff.1 ho).1)))
  have : putAll l (l.map (fun o => valOf o a)) a0 = a := by
   have hdef : (putAll l (l.map (fun o => valOf o a)) a0).defers = a.defers := by rw [putAll_defers, inv.defers]
   have htm : (putAll l (l.map (fun o => valOf o a)) a0).tmps = a.tmps := by
    have hsz : (putAll l (l.map (fun o => valOf o a)) a0).tmps.size = a.tmps.size := by rw [putAll_size, inv.tmps]
    refine Array.ext hsz fun t h1 h2 => ?_
    have hg : (putAll l (l.map (fun o => valOf o a)) a0).tmps.getD t undef = a.tmps.getD t undef := by
     by_cases hex : ∃ o ∈ l, o.dst = some t
     ·obtain ⟨o, ho, hd⟩ := hex
      obtain ⟨i, hi, hio⟩ := List.getElem_of_mem ho
      have hio' : l[i]? = some o := by rw [List.getElem?_eq_getElem hi, hio]
      rw [putAll_at l _ a0 (by simp) (fun i j oi oj d hi hj h1 h2 => by
       by_cases hij : i = j
       ·exact hij
       ·exact absurd h2 ((relForm_dst hform hi h1).2 j oj hj (Ne.symm hij))) (fun o' ho' d hd' => by
       obtain ⟨k, hk, hko⟩ := List.getElem_of_mem ho'
       exact (relForm_dst hform (by rw [List.getElem?_eq_getElem hk, hko]) hd').1) i o (valOf o a) t hio' (by rw [List.getElem?_map, hio']; rfl) hd]
      unfold valOf
      rw [hd]
     ·have hex' : ∀ o ∈ l, o.dst ≠ some t := fun o ho hd => hex ⟨o, ho, hd⟩
      rw [putAll_other l _ a0 t hex', inv.same t (fun j oj hj hd => absurd hd (hex' oj (List.mem_of_getElem? hj)))]
    simpa [h1, h2] using hg
   cases a
   cases h : putAll l (l.map (fun o => valOf o _)) a0
   rw [h] at hdef htm
   simp only at hdef htm
   rw [hdef, htm]
  rw [this] at hvs
  exact hvs
 ·intro j o S _ _ h
  exfalso
  rcases Nat.lt_or_ge j l.length with h' | h'
  ·simp [h'] at h
  ·simp [h'] at h
 ·intro j o _ h
  exfalso
  unfold bitsOf at h
  rcases Nat.lt_or_ge j l.length with h' | h'
  ·simp [h'] at h
  ·simp [h'] at h
def freeN (l : List Oper) (i t : Nat) : Bool := (List.range l.length).all fun j => match l[j]? with
 |some o => o.dst != some t || (j == i || o.after.any fun e => Region.binds .any e && e.on == i)
 |none => true
def preN (l : List Oper) (i j : Nat) : Bool := match l[i]? with
 |some o => o.after.any fun e => Region.binds .any e && e.on == j
 |none => false
structure RelAtN (l : List Oper) (Ss : List (World → Value → Prop)) (a0 : Act) (i : Nat) (b : Nat → Bool) (a : Act) (w : World) : Prop where
 size : a.tmps.size = a0.tmps.size
 dep : ∀ (j t : Nat) (S : World → Value → Prop), depOK l i j t = true → Ss[i - 1 - j]? = some S → S w (a.tmps[t]?.getD undef)
 free : ∀ (t : Nat) (v : Value), freeN l i t = true → a0.tmps.getD t undef = v → a.tmps[t]?.getD undef = v
 pre : ∀ j, preN l i j = true → b j = true
 post : ∀ j, preN l j i = true → b j = false
 self : b i = false
theorem relAtN_of {Ss : List (World → Value → Prop)} {a0 : Act} {i : Nat} {b : Nat → Bool} {a : Act} {w : World} {o : Oper} (ho : l[i]? = some o) (hs : b i = false) (hp : ∀ e ∈ o.after, Region.binds .any e = true → b e.on = true)
  (hc : ∀ j oj, l[j]? = some oj → b j = true → ∀ e ∈ oj.after, Region.binds .any e = true → b e.on = true) (h1 : a.tmps.size = a0.tmps.size)
  (h2 : ∀ t, (∀ j oj, l[j]? = some oj → oj.dst = some t → b j = false) → a.tmps.getD t undef = a0.tmps.getD t undef)
  (h3 : ∀ e ∈ o.after, Region.binds .any e = true → ∀ oe Se, l[e.on]? = some oe → Ss[i - 1 - e.on]? = some Se → Se w (valOf oe a)) : RelAtN l Ss a0 i b a w := by
 have later : ∀ j oj, l[j]? = some oj → (oj.after.any fun e => Region.binds .any e && e.on == i) = true → b j = false := fun j oj hj ha => by
  obtain ⟨e, he, hb⟩ := Array.any_eq_true'.1 ha
  simp only [Bool.and_eq_true, beq_iff_eq] at hb
  cases hbj : b j with
  |false => rfl
  |true =>
   have := hc j oj hj hbj e he hb.1
   rw [hb.2, hs] at this
   cases this
 refine ⟨h1, fun j t S hd hS => ?_, fun t v hf hv => ?_, fun j hj => ?_, fun j hj => ?_, hs⟩
 ·unfold depOK at hd
  rw [ho] at hd
  cases hj : l[j]? with
  |none => rw [hj] at hd; cases hd
  |some oj =>
   rw [hj] at hd
   simp only [Bool.and_eq_true, beq_iff_eq] at hd
   obtain ⟨e, he, hb⟩ := Array.any_eq_true'.1 hd.1
   simp only [Bool.and_eq_true, beq_iff_eq] at hb
   obtain ⟨hb1, rfl⟩ := hb
   have := h3 e he hb1 oj S hj hS
   unfold valOf at this
   rw [hd.2] at this
   simpa using this
 ·have hw : ∀ j oj, l[j]? = some oj → oj.dst = some t → b j = false := fun j oj hj hd => by
   have hlt : j < l.length := (List.getElem?_eq_some_iff.1 hj).1
   have := List.all_eq_true.1 hf j (List.mem_range.2 hlt)
   rw [hj] at this
   simp only [hd, bne_self_eq_false, Bool.false_or, Bool.or_eq_true, beq_iff_eq] at this
   rcases this with rfl | h
   ·exact hs
   ·exact later j oj hj h
  have := h2 t hw
  rw [hv] at this
  simpa using this
 ·unfold preN at hj
  rw [ho] at hj
  obtain ⟨e, he, hb⟩ := Array.any_eq_true'.1 hj
  simp only [Bool.and_eq_true, beq_iff_eq] at hb
  rw [← hb.2]
  exact hp e he hb.1
 ·unfold preN at hj
  cases hlj : l[j]? with
  |none => rw [hlj] at hj; cases hj
  |some oj => rw [hlj] at hj; exact later j oj hlj hj
def StepN (P : Program) (l : List Oper) (done : List (World → Value → Prop)) (S : World → Value → Prop) (C : (Nat → Bool) → World → Prop) (R : World → World → Prop) (a0 : Act) (i : Nat) : Prop :=
 ∀ (b : Nat → Bool), ∀ o, l[i]? = some o → ∀ (a : Act) (w : World), C b w → RelAtN l done a0 i b a w →
  if Region.wanted o (yielded l.toArray a.tmps) = true then o.wp P a w (fun a2 w2 => ∃ v, a2 = a.put o.dst v ∧ C (upd b i) w2 ∧ R w w2 ∧ S w2 (match o.dst with | some _ => v | none => undef)) (fun _ _ _ => False)
  else S w undef ∧ C (upd b i) w
def stabN (R : World → World → Prop) : List (World → Value → Prop) → Prop
 |[] => True
 |S :: Ss => (∀ w w' v, R w w' → S w v → S w' v) ∧ stabN R Ss
theorem stabN_of {R : World → World → Prop} : ∀ {Ss : List (World → Value → Prop)}, stabN R Ss → ∀ S ∈ Ss, ∀ w w' v, R w w' → S w v → S w' v
 |[], _, S, hS => by cases hS
 |T :: Ss, h, S, hS => by
  rcases List.mem_cons.1 hS with rfl | hS
  ·exact h.1
  ·exact stabN_of h.2 S hS
theorem stabN_val (x : Value) {R : World → World → Prop} {Ss : List (World → Value → Prop)} (h : stabN R Ss) : stabN R (eqV x :: Ss) := ⟨fun _ _ _ _ h => h, h⟩
def relExN (P : Program) (l : List Oper) (C : (Nat → Bool) → World → Prop) (R : World → World → Prop) (a0 : Act) (F : Act → World → Prop) : Nat → List (World → Value → Prop) → Nat → Prop
 |_, done, 0 => stabN R done ∧ ∀ w b, C b w → (∀ j, j < l.length → b j = true) → ∀ vs, relAll w done.reverse vs → F (putAll l vs a0) w
 |i, done, n + 1 => ∃ S, StepN P l done S C R a0 i ∧ relExN P l C R a0 F (i + 1) (S :: done) n
theorem relExN_out {C : (Nat → Bool) → World → Prop} {R : World → World → Prop} {a0 : Act} {F : Act → World → Prop} (hform : relForm l a0.tmps.size = true) : ∀ (n i : Nat) (done : List (World → Value → Prop)), relExN P l C R a0 F i done n → done.length = i → i + n = l.length →
  ∃ Ss, (∃ r, Ss = done.reverse ++ r) ∧ Ss.length = l.length ∧ (∀ S ∈ Ss, ∀ w w' v, R w w' → S w v → S w' v) ∧ (∀ vs w b, C b w → (∀ j, j < l.length → b j = true) → relAll w Ss vs → F (putAll l vs a0) w) ∧ ∀ k, i ≤ k → k < l.length → RelOpN P l Ss C R a0 k
 |0, i, done, h, h1, h2 => ⟨done.reverse, ⟨[], by simp⟩, by simp; omega, fun S hS => stabN_of h.1 S (by simpa using hS), fun vs w b hC hb => h.2 w b hC hb vs, fun k h3 h4 => by omega⟩
 |n + 1, i, done, h, h1, h2 => by
  obtain ⟨S, hop, hrest⟩ := h
  obtain ⟨Ss, ⟨r, hr⟩, g1, g2, g3, g4⟩ := relExN_out hform n (i + 1) (S :: done) hrest (by simp [h1]) (by omega)
  rw [List.reverse_cons] at hr
  refine ⟨Ss, ⟨[S] ++ r, by rw [hr, List.append_assoc]⟩, g1, g2, g3, fun k h3 h4 => ?_⟩
  by_cases e : k = i
  ·subst e
   intro o S' ho hS' b a w hC m1 m2 m3 k1 k2 k3
   have hS : Ss[k]? = some S := by rw [hr, List.append_assoc, List.getElem?_append_right (by simp; omega)]; simp [h1]
   rw [hS] at hS'; cases hS'
   refine hop b o ho a w hC (relAtN_of ho m1 m2 m3 k1 k2 fun e he hb oe Se hoe hSe => k3 e he hb oe Se hoe ?_)
   have hlt := relForm_edge hform ho e he hb
   rw [hr, List.append_assoc, List.getElem?_append_left (by simp; omega), List.getElem?_reverse (by omega), h1]
   exact hSe
  ·exact g4 k (by omega) h4
theorem wp_region_n {id : Nat} {Q : Exit → Act → World → Prop} {a0 : Act} {w0 : World} (C : (Nat → Bool) → World → Prop) (R : World → World → Prop)
  (hm : P.follows .mixedOrders = true) (hform : relForm l a0.tmps.size = true) (hC : C (fun _ => false) { w0 with drawn := w0.drawn + 1 })
  (h : relExN P l C R a0 (fun a w => Q .normal a w) 0 [] l.length) : (Code.region id l.toArray true).wp P Q a0 w0 := by
 obtain ⟨Ss, _, g1, g2, g3, g4⟩ := relExN_out hform l.length 0 [] h rfl (by omega)
 exact wp_region_G hm (region_relN Ss C R g1 hform hC g2 (fun i hi => g4 i (Nat.zero_le _) hi) g3)
variable {C : (Nat → Bool) → World → Prop} {R : World → World → Prop} {a0 : Act} {F : Act → World → Prop} {i n : Nat} {done : List (World → Value → Prop)}
theorem nx_plain {o : Oper} {x : Value} (hc : ∀ b w, C b w → C (upd b i) w) (ho : l[i]? = some o) (hg : o.guard = none) (hd : o.dst.isSome = true)
  (h : ∀ b a w, C b w → RelAtN l done a0 i b a w → ∀ K : Act → World → Prop, (∀ w2, C b w2 → R w w2 → K (a.put o.dst x) w2) → o.wp P a w K (fun _ _ _ => False))
  (hn : relExN P l C R a0 F (i + 1) (eqV x :: done) n) : relExN P l C R a0 F i done (n + 1) := by
 refine ⟨eqV x, ?_, hn⟩
 intro b o' ho' a w hC hA
 rw [ho] at ho'; cases ho'
 have hw : Region.wanted o (yielded l.toArray a.tmps) = true := by unfold Region.wanted; rw [hg]
 rw [if_pos hw]
 refine h b a w hC hA _ fun w2 c r => ⟨x, rfl, hc _ _ c, r, ?_⟩
 cases hd' : o.dst with
 |none => rw [hd'] at hd; cases hd
 |some d => rfl
theorem nx_turn {o : Oper} (S : World → Value → Prop) (ho : l[i]? = some o) (hg : o.guard = none) (hd : o.dst.isSome = true)
  (h : ∀ b a w, C b w → RelAtN l done a0 i b a w → ∀ K : Act → World → Prop, (∀ v w2, C (upd b i) w2 → R w w2 → S w2 v → K (a.put o.dst v) w2) → o.wp P a w K (fun _ _ _ => False))
  (hn : relExN P l C R a0 F (i + 1) (S :: done) n) : relExN P l C R a0 F i done (n + 1) := by
 refine ⟨S, ?_, hn⟩
 intro b o' ho' a w hC hA
 rw [ho] at ho'; cases ho'
 have hw : Region.wanted o (yielded l.toArray a.tmps) = true := by unfold Region.wanted; rw [hg]
 rw [if_pos hw]
 refine h b a w hC hA _ fun v w2 c r s => ⟨v, rfl, c, r, ?_⟩
 cases hd' : o.dst with
 |none => rw [hd'] at hd; cases hd
 |some d => exact s
theorem nx_effect {o : Oper} (S : World → Prop) (ho : l[i]? = some o) (hg : o.guard = none)
  (h : ∀ b a w, C b w → RelAtN l done a0 i b a w → ∀ K : Act → World → Prop, (∀ v w2, C (upd b i) w2 → R w w2 → S w2 → K (a.put o.dst v) w2) → o.wp P a w K (fun _ _ _ => False))
  (hn : relExN P l C R a0 F (i + 1) ((fun w _ => S w) :: done) n) : relExN P l C R a0 F i done (n + 1) := by
 refine ⟨fun w _ => S w, ?_, hn⟩
 intro b o' ho' a w hC hA
 rw [ho] at ho'; cases ho'
 have hw : Region.wanted o (yielded l.toArray a.tmps) = true := by unfold Region.wanted; rw [hg]
 rw [if_pos hw]
 exact h b a w hC hA _ fun v w2 c r s => ⟨v, rfl, c, r, s⟩
end
section
open Go.RowKit
theorem RelAtN.e {l : List Oper} {Ss : List (World → Value → Prop)} {a0 : Act} {i : Nat} {b : Nat → Bool} {a : Act} {w : World} (h : RelAtN l Ss a0 i b a w) (j t : Nat) {x : Value} (hs : Ss[i - 1 - j]? = some (eqV x) := by rfl) (hd : depOK l i j t = true := by decide +kernel) : a.tmps[t]?.getD undef = x := h.dep j t (eqV x) hd hs
theorem RelAtN.f {l : List Oper} {Ss : List (World → Value → Prop)} {a0 : Act} {i : Nat} {b : Nat → Bool} {a : Act} {w : World} (h : RelAtN l Ss a0 i b a w) (t : Nat) {v : Value} (hv : a0.tmps.getD t undef = v := by rfl) (hd : freeN l i t = true := by decide +kernel) : a.tmps[t]?.getD undef = v := h.free t v hd hv
end
end
end Go.Proofs.YtkjmgbifoaoefaaGreatDoor
