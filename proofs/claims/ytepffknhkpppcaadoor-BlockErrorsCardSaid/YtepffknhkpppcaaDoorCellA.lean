/-
  Cells: name, May, Cmp and what they call.
-/
import Derived.Test.YtepffknhkpppcaaDoorRows
import Derived.Test.YtepffknhkpppcaaDoorShelf
import Derived.Test.YtepffknhkpppcaaDoorCellPure
namespace Go.Proofs.YtepffknhkpppcaaDoor
open Go.RowKit

theorem str_empty_eq {s : ByteArray} (h : s.size = 0) : s = ⟨#[]⟩ := by
  obtain ⟨⟨l⟩⟩ := s
  cases l with
  | nil => rfl
  | cons a r => cases h

theorem name_any (s : ByteArray) (w : World) (hs : s.size ≤ 9223372036854775807) : Calls Tryd.prog 41 #[.string s] w fun e w' => e = .returned (.bool (nmB s)) ∧ w = w' := by
  by_cases h0 : s.size = 0
  · have H := Lib.hid (nmB_zero h0)
    obtain rfl := str_empty_eq h0
    clear h0
    go_enter Tryd.func41, Tryd.ntmps41
    go_wp2
    go_ret
    exact ⟨by rw [H.out]; rfl, rfl⟩
  · have he := str_full (Nat.pos_of_ne_zero h0)
    by_cases h4 : s.size ≤ 40
    · have H := Lib.hid (nmB_fit h0 h4)
      clear h0
      go_enter Tryd.func41, Tryd.ntmps41
      go_wp2
      go_ret
      exact ⟨ret_bool (by rw [H.out]; simp; omega), rfl⟩
    · have H := Lib.hid (nmB_great h4)
      clear h0
      go_enter Tryd.func41, Tryd.ntmps41
      go_wp2
      go_ret
      exact ⟨ret_bool (by rw [H.out]; simp; omega), rfl⟩

set_option maxHeartbeats 1000000 in
theorem may_any (c : Cel) (w : World) (hc : CelOK c) : Calls Tryd.prog 22 #[cellV c] w fun e w' => e = .returned (.bool (mayB c)) ∧ Fp [] w w' := by
  obtain ⟨h1, h2, h3, h4, h5⟩ := hc
  unfold cellV
  have hf := Lib.hid (Fp.alloc w (.cells #[.string c.row, .string c.col, .int .u64 c.ts, .int .u64 c.seq, .bool c.del, .string c.val] 36))
  have HM : Hid (mayB c = (nmB c.row && nmB c.col && decide (c.val.size ≤ 100) && (!c.del || decide (c.val.size = 0)))) := rfl
  obtain ⟨r, hr⟩ : ∃ r, r = nmB c.row := ⟨_, rfl⟩
  obtain ⟨k, hk⟩ : ∃ k, k = nmB c.col := ⟨_, rfl⟩
  have n1 := fun w => name_any c.row w h3
  have n2 := fun w => name_any c.col w h4
  rw [← hr] at HM n1
  rw [← hk] at HM n2
  have N1 := Lib.hid n1
  have N2 := Lib.hid n2
  clear n1 n2 hr hk
  obtain ⟨dl, hdl⟩ : ∃ dl, dl = c.del := ⟨_, rfl⟩
  rw [← hdl] at HM hf ⊢
  clear hdl
  cases r
  · have HT : Hid (mayB c = false) := HM.out
    go_enter Tryd.func22, Tryd.ntmps22
    go_wp2_with (go_at_call 41; refine (N1.out _).mono ?_; rintro e w' ⟨rfl, rfl⟩)
    go_ret
    exact ⟨by rw [HT.out]; rfl, hf.out⟩
  cases k
  · have HT : Hid (mayB c = false) := HM.out
    go_enter Tryd.func22, Tryd.ntmps22
    go_wp2_with (fail)
    refine (N1.out _).mono ?_
    rintro e w' ⟨rfl, rfl⟩
    go_wp2_with (fail)
    refine (N2.out _).mono ?_
    rintro e w' ⟨rfl, rfl⟩
    go_wp2_with (fail)
    go_ret
    exact ⟨by rw [HT.out]; rfl, hf.out⟩
  by_cases hv : c.val.size ≤ 100
  case neg =>
    have HT : Hid (mayB c = false) := by unfold Hid; rw [HM.out, decide_eq_false hv]; rfl
    go_enter Tryd.func22, Tryd.ntmps22
    go_wp2_with (fail)
    refine (N1.out _).mono ?_
    rintro e w' ⟨rfl, rfl⟩
    go_wp2_with (fail)
    refine (N2.out _).mono ?_
    rintro e w' ⟨rfl, rfl⟩
    go_wp2_with (fail)
    go_ret
    exact ⟨by rw [HT.out]; rfl, hf.out⟩
  cases dl
  · have HT : Hid (mayB c = true) := by unfold Hid; rw [HM.out, decide_eq_true hv]; rfl
    go_enter Tryd.func22, Tryd.ntmps22
    go_wp2_with (fail)
    refine (N1.out _).mono ?_
    rintro e w' ⟨rfl, rfl⟩
    go_wp2_with (fail)
    refine (N2.out _).mono ?_
    rintro e w' ⟨rfl, rfl⟩
    go_wp2_with (fail)
    go_ret
    exact ⟨by rw [HT.out]; rfl, hf.out⟩
  by_cases h0 : c.val.size = 0
  · have HT : Hid (mayB c = true) := by unfold Hid; rw [HM.out, decide_eq_true hv, decide_eq_true h0]; rfl
    have he := str_empty_eq h0
    rw [he] at hf ⊢
    clear h0 he hv h5
    go_enter Tryd.func22, Tryd.ntmps22
    go_wp2_with (fail)
    refine (N1.out _).mono ?_
    rintro e w' ⟨rfl, rfl⟩
    go_wp2_with (fail)
    refine (N2.out _).mono ?_
    rintro e w' ⟨rfl, rfl⟩
    go_wp2_with (fail)
    go_ret
    exact ⟨by rw [HT.out]; rfl, hf.out⟩
  · have HT : Hid (mayB c = false) := by unfold Hid; rw [HM.out, decide_eq_true hv, decide_eq_false h0]; rfl
    have he := str_full (Nat.pos_of_ne_zero h0)
    clear h0
    go_enter Tryd.func22, Tryd.ntmps22
    go_wp2_with (fail)
    refine (N1.out _).mono ?_
    rintro e w' ⟨rfl, rfl⟩
    go_wp2_with (fail)
    refine (N2.out _).mono ?_
    rintro e w' ⟨rfl, rfl⟩
    go_wp2_with (fail)
    go_ret
    exact ⟨by rw [HT.out]; rfl, hf.out⟩

theorem nan_any (a : Int) (w : World) : Calls Tryd.prog 69 #[.int .u64 a] w fun e w' => e = .returned (.bool false) ∧ w = w' := by
  go_enter Tryd.func69, Tryd.ntmps69
  go_wp2
  go_ret
  exact ⟨by simp, rfl⟩

theorem cmpN_lt {a b : Nat} (h : a < b) : cmpN a b = -1 := if_pos h
theorem cmpN_gt {a b : Nat} (h : b < a) : cmpN a b = 1 := by unfold cmpN; rw [if_neg (by omega), if_pos h]
theorem cmpN_eq {a b : Nat} (h : ¬ a < b) (h2 : ¬ b < a) : cmpN a b = 0 := by unfold cmpN; rw [if_neg h, if_neg h2]

theorem compareN_any (a b : Nat) (w : World) : Calls Tryd.prog 59 #[.int .u64 a, .int .u64 b] w fun e w' => e = .returned (.int .i64 (cmpN a b)) ∧ w = w' := by
  by_cases h1 : a < b
  · have H := Lib.hid (cmpN_lt h1)
    go_enter Tryd.func59, Tryd.ntmps59
    go_wp2_with (go_at_call 69; refine (nan_any _ _).mono ?_; rintro e w' ⟨rfl, rfl⟩)
    go_ret
    exact ⟨by rw [H.out]; rfl, rfl⟩
  · by_cases h2 : b < a
    · have H := Lib.hid (cmpN_gt h2)
      go_enter Tryd.func59, Tryd.ntmps59
      go_wp2_with (go_at_call 69; refine (nan_any _ _).mono ?_; rintro e w' ⟨rfl, rfl⟩)
      go_ret
      exact ⟨by rw [H.out]; rfl, rfl⟩
    · have H := Lib.hid (cmpN_eq h1 h2)
      go_enter Tryd.func59, Tryd.ntmps59
      go_wp2_with (go_at_call 69; refine (nan_any _ _).mono ?_; rintro e w' ⟨rfl, rfl⟩)
      go_ret
      exact ⟨by rw [H.out]; rfl, rfl⟩
end Go.Proofs.YtepffknhkpppcaaDoor
