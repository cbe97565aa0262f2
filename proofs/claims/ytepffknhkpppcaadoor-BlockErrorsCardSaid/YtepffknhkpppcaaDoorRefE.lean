/-
  The reference of layer 1: text, Cmp, Same.
-/
import Derived.Test.YtepffknhkpppcaaDoorRefA
import Derived.Test.YtepffknhkpppcaaDoorCellLaw3
import Derived.Test.YtepffknhkpppcaaDoorCellSame
import Derived.Laws.Cover1
namespace Go.Proofs.YtepffknhkpppcaaDoor
open Go.RowKit

theorem eq_cb (a b : List UInt8) : (a == b) = decide (Lib.compareBytes a b = 0) := by
  by_cases e : a = b
  · rw [e, cb_refl]; simp
  · rw [beq_eq_false_iff_ne.2 e]
    symm
    exact decide_eq_false (fun h => e (cb_eq h))

set_option maxHeartbeats 1000000 in
theorem rtext_any (a b : ByteArray) (w : World) : Calls Tryd.prog 61 #[.string a, .string b] w fun e w' => e = .returned (.int .i64 (cmpS a b)) ∧ w = w' := by
  have less : Op.bytesLess a.toList b.toList = decide (cmpS a b = -1) := by rw [less_cb, ByteArray.toList_eq, ByteArray.toList_eq]; rfl
  have same : (a.toList == b.toList) = decide (cmpS a b = 0) := by rw [eq_cb, ByteArray.toList_eq, ByteArray.toList_eq]; rfl
  have hr : cmpS a b = -1 ∨ cmpS a b = 0 ∨ cmpS a b = 1 := cb_range _ _
  obtain ⟨x, hx⟩ : ∃ x, cmpS a b = x := ⟨_, rfl⟩
  rw [hx] at less same hr ⊢
  clear hx
  rcases hr with rfl | rfl | rfl
  · have less : Op.bytesLess a.toList b.toList = true := less
    have same : (a.toList == b.toList) = false := same
    go_enter Tryd.func61, Tryd.ntmps61
    go_wp2_with (fail)
    go_ret
    exact ⟨rfl, rfl⟩
  · have less : Op.bytesLess a.toList b.toList = false := less
    have same : (a.toList == b.toList) = true := same
    go_enter Tryd.func61, Tryd.ntmps61
    go_wp2_with (fail)
    go_ret
    exact ⟨rfl, rfl⟩
  · have less : Op.bytesLess a.toList b.toList = false := less
    have same : (a.toList == b.toList) = false := same
    go_enter Tryd.func61, Tryd.ntmps61
    go_wp2_with (fail)
    go_ret
    exact ⟨rfl, rfl⟩

set_option maxRecDepth 100000 in
set_option maxHeartbeats 4000000 in
theorem rcmp_any (a b : Cel) (w : World) : Calls Tryd.prog 45 #[cellV a, cellV b] w fun e w' => e = .returned (.int .i64 (cmpC a b)) ∧ Fp [] w w' := by
  have HC : Hid (cmpC a b = firstN [cmpS a.row b.row, cmpS a.col b.col, cmpN b.ts a.ts, cmpN b.seq a.seq]) := rfl
  have n1 := fun w => rtext_any a.row b.row w
  have n2 := fun w => rtext_any a.col b.col w
  unfold cellV
  obtain ⟨x1, hx1⟩ : ∃ x, cmpS a.row b.row = x := ⟨_, rfl⟩
  obtain ⟨x2, hx2⟩ : ∃ x, cmpS a.col b.col = x := ⟨_, rfl⟩
  rw [hx1] at HC n1
  rw [hx2] at HC n2
  clear hx1 hx2
  have N1 := Lib.hid n1
  have N2 := Lib.hid n2
  clear n1 n2
  have hF := Lib.hid ((Fp.alloc w (.cells #[.string a.row, .string a.col, .int .u64 a.ts, .int .u64 a.seq, .bool a.del, .string a.val] 36)).alloc' (.cells #[.string b.row, .string b.col, .int .u64 b.ts, .int .u64 b.seq, .bool b.del, .string b.val] 36))
  by_cases h1 : x1 = 0
  case neg =>
    have HO : Hid (cmpC a b = x1) := by unfold Hid; rw [HC.out]; exact if_pos h1
    have t1 : (x1 != 0) = true := by simpa using h1
    clear h1
    go_enter Tryd.func45, Tryd.ntmps45
    go_wp2_with (first | (go_at_call 61; (with_reducible refine (N1.out _).mono ?_); rintro e w1 ⟨rfl, rfl⟩))
    go_ret
    rw [HO.out]
    exact ⟨rfl, hF.out⟩
  subst h1
  by_cases h2 : x2 = 0
  case neg =>
    have HO : Hid (cmpC a b = x2) := by unfold Hid; rw [HC.out]; unfold firstN; rw [if_neg (by simp)]; exact if_pos h2
    have t1 : (x2 != 0) = true := by simpa using h2
    clear h2
    go_enter Tryd.func45, Tryd.ntmps45
    go_wp2_with (first | (go_at_call 61; (with_reducible refine (N1.out _).mono ?_); rintro e w1 ⟨rfl, rfl⟩) | (go_at_call 61; (with_reducible refine (N2.out _).mono ?_); rintro e w1 ⟨rfl, rfl⟩))
    go_ret
    rw [HO.out]
    exact ⟨rfl, hF.out⟩
  subst h2
  have HC2 : Hid (cmpC a b = firstN [cmpN b.ts a.ts, cmpN b.seq a.seq]) := HC.out
  by_cases h3 : b.ts < a.ts
  · have HO : Hid (cmpC a b = -1) := by unfold Hid; rw [HC2.out, cmpN_lt h3]; rfl
    go_enter Tryd.func45, Tryd.ntmps45
    go_wp2_with (first | (go_at_call 61; (with_reducible refine (N1.out _).mono ?_); rintro e w1 ⟨rfl, rfl⟩) | (go_at_call 61; (with_reducible refine (N2.out _).mono ?_); rintro e w1 ⟨rfl, rfl⟩))
    go_ret
    rw [HO.out]
    exact ⟨rfl, hF.out⟩
  by_cases h4 : a.ts < b.ts
  · have HO : Hid (cmpC a b = 1) := by unfold Hid; rw [HC2.out, cmpN_gt h4]; rfl
    go_enter Tryd.func45, Tryd.ntmps45
    go_wp2_with (first | (go_at_call 61; (with_reducible refine (N1.out _).mono ?_); rintro e w1 ⟨rfl, rfl⟩) | (go_at_call 61; (with_reducible refine (N2.out _).mono ?_); rintro e w1 ⟨rfl, rfl⟩))
    go_ret
    rw [HO.out]
    exact ⟨rfl, hF.out⟩
  have HC3 : Hid (cmpC a b = firstN [cmpN b.seq a.seq]) := by unfold Hid; rw [HC2.out, cmpN_eq h3 h4]; rfl
  by_cases h5 : b.seq < a.seq
  · have HO : Hid (cmpC a b = -1) := by unfold Hid; rw [HC3.out, cmpN_lt h5]; rfl
    go_enter Tryd.func45, Tryd.ntmps45
    go_wp2_with (first | (go_at_call 61; (with_reducible refine (N1.out _).mono ?_); rintro e w1 ⟨rfl, rfl⟩) | (go_at_call 61; (with_reducible refine (N2.out _).mono ?_); rintro e w1 ⟨rfl, rfl⟩))
    go_ret
    rw [HO.out]
    exact ⟨rfl, hF.out⟩
  by_cases h6 : a.seq < b.seq
  · have HO : Hid (cmpC a b = 1) := by unfold Hid; rw [HC3.out, cmpN_gt h6]; rfl
    go_enter Tryd.func45, Tryd.ntmps45
    go_wp2_with (first | (go_at_call 61; (with_reducible refine (N1.out _).mono ?_); rintro e w1 ⟨rfl, rfl⟩) | (go_at_call 61; (with_reducible refine (N2.out _).mono ?_); rintro e w1 ⟨rfl, rfl⟩))
    go_ret
    rw [HO.out]
    exact ⟨rfl, hF.out⟩
  have HO : Hid (cmpC a b = 0) := by unfold Hid; rw [HC3.out, cmpN_eq h5 h6]; rfl
  go_enter Tryd.func45, Tryd.ntmps45
  go_wp2_with (first | (go_at_call 61; (with_reducible refine (N1.out _).mono ?_); rintro e w1 ⟨rfl, rfl⟩) | (go_at_call 61; (with_reducible refine (N2.out _).mono ?_); rintro e w1 ⟨rfl, rfl⟩))
  go_ret
  rw [HO.out]
  exact ⟨rfl, hF.out⟩

end Go.Proofs.YtepffknhkpppcaaDoor
