/-
  The reference of layer 1: May, Number, value, short.
-/
import Derived.Test.YtepffknhkpppcaaDoorCellShown
import Derived.IntWalk
import Derived.Laws.DeepStrings4
namespace Go.Proofs.YtepffknhkpppcaaDoor
open Go.RowKit

set_option maxRecDepth 100000 in
set_option maxHeartbeats 2000000 in
theorem rmay_any (c : Cel) (w : World) (hc : CelOK c) : Calls Tryd.prog 29 #[cellV c] w fun e w' => e = .returned (.bool (mayB c)) ∧ Fp [] w w' := by
  obtain ⟨h1, h2, h3, h4, h5⟩ := hc
  have HB : Hid (mayB c = (decide (1 ≤ c.row.size ∧ c.row.size ≤ 40) && decide (1 ≤ c.col.size ∧ c.col.size ≤ 40) && decide (c.val.size ≤ 100) && (!c.del || decide (c.val.size = 0)))) := rfl
  unfold cellV
  by_cases k1 : c.row.size < 1
  · have HT : Hid (mayB c = false) := by unfold Hid; rw [HB.out, decide_eq_false (by omega)]; rfl
    go_enter Tryd.func29, Tryd.ntmps29
    go_wp2_with (fail)
    go_ret
    exact ⟨ret_bool HT.out.symm, Fp.alloc _ _⟩
  by_cases k2 : c.row.size ≤ 40
  case neg =>
    have k2' : 40 < c.row.size := by omega
    have HT : Hid (mayB c = false) := by unfold Hid; rw [HB.out, decide_eq_false (by omega)]; rfl
    go_enter Tryd.func29, Tryd.ntmps29
    go_wp2_with (fail)
    go_ret
    exact ⟨ret_bool HT.out.symm, Fp.alloc _ _⟩
  have HR : Hid (decide (1 ≤ c.row.size ∧ c.row.size ≤ 40) = true) := decide_eq_true (by omega)
  by_cases k3 : c.col.size < 1
  · have HT : Hid (mayB c = false) := by unfold Hid; rw [HB.out, HR.out, decide_eq_false (by omega)]; rfl
    go_enter Tryd.func29, Tryd.ntmps29
    go_wp2_with (fail)
    go_ret
    exact ⟨ret_bool HT.out.symm, Fp.alloc _ _⟩
  by_cases k4 : c.col.size ≤ 40
  case neg =>
    have k4' : 40 < c.col.size := by omega
    have HT : Hid (mayB c = false) := by unfold Hid; rw [HB.out, HR.out, decide_eq_false (by omega)]; rfl
    go_enter Tryd.func29, Tryd.ntmps29
    go_wp2_with (fail)
    go_ret
    exact ⟨ret_bool HT.out.symm, Fp.alloc _ _⟩
  have HC : Hid (decide (1 ≤ c.col.size ∧ c.col.size ≤ 40) = true) := decide_eq_true (by omega)
  by_cases k5 : c.val.size ≤ 100
  case neg =>
    have k5' : 100 < c.val.size := by omega
    have HT : Hid (mayB c = false) := by unfold Hid; rw [HB.out, HR.out, HC.out, decide_eq_false (by omega)]; rfl
    go_enter Tryd.func29, Tryd.ntmps29
    go_wp2_with (fail)
    go_ret
    exact ⟨ret_bool HT.out.symm, Fp.alloc _ _⟩
  have HV : Hid (decide (c.val.size ≤ 100) = true) := decide_eq_true (by omega)
  obtain ⟨dl, hdl⟩ : ∃ dl, dl = c.del := ⟨_, rfl⟩
  rw [← hdl] at HB ⊢
  clear hdl
  cases dl
  · have HT : Hid (mayB c = true) := by unfold Hid; rw [HB.out, HR.out, HC.out, HV.out]; rfl
    go_enter Tryd.func29, Tryd.ntmps29
    go_wp2_with (fail)
    go_ret
    exact ⟨ret_bool HT.out.symm, Fp.alloc _ _⟩
  by_cases h0 : c.val.size = 0
  · have HT : Hid (mayB c = true) := by unfold Hid; rw [HB.out, HR.out, HC.out, HV.out, decide_eq_true h0]; rfl
    have he := str_empty h0
    go_enter Tryd.func29, Tryd.ntmps29
    go_wp2_with (fail)
    go_ret
    exact ⟨ret_bool HT.out.symm, Fp.alloc _ _⟩
  · have HT : Hid (mayB c = false) := by unfold Hid; rw [HB.out, HR.out, HC.out, HV.out, decide_eq_false h0]; rfl
    have he := str_full (Nat.pos_of_ne_zero h0)
    clear h0
    go_enter Tryd.func29, Tryd.ntmps29
    go_wp2_with (fail)
    go_ret
    exact ⟨ret_bool HT.out.symm, Fp.alloc _ _⟩

/-! ### value -/
def loV (s : ByteArray) : Nat → Nat
  | 0 => 0
  | k + 1 => loV s k * 256 + (atB s (7 - k)).toNat
def hiV (s : ByteArray) : Nat → Nat
  | 0 => 0
  | k + 1 => hiV s k * 256 + (atB s k).toNat
theorem loV_lt (s : ByteArray) : ∀ k, loV s k < 256 ^ k
  | 0 => Nat.one_pos
  | k + 1 => by
    have h1 := loV_lt s k
    have h2 := (atB s (7 - k)).toNat_lt
    show loV s k * 256 + _ < 256 ^ (k + 1)
    rw [Nat.pow_succ]; omega
theorem hiV_lt (s : ByteArray) : ∀ k, hiV s k < 256 ^ k
  | 0 => Nat.one_pos
  | k + 1 => by
    have h1 := hiV_lt s k
    have h2 := (atB s k).toNat_lt
    show hiV s k * 256 + _ < 256 ^ (k + 1)
    rw [Nat.pow_succ]; omega
theorem loV_leN (s : ByteArray) : loV s 8 = leN s 8 := by
  simp only [loV, leN, Nat.sub_zero, Nat.reduceSub]; omega
theorem at_any {s : ByteArray} {k : Nat} (h : k < s.size) : s[k] = atB s k := by
  unfold atB
  rw [List.getD_eq_getElem?_getD, List.getElem?_eq_getElem (by simpa using h)]
  simp
  rfl
def valV (s : ByteArray) (high : Bool) (k : Nat) : Nat := match high with | true => hiV s k | false => loV s k
theorem valV_lt (s : ByteArray) (high : Bool) (k : Nat) : valV s high k < 256 ^ k := by
  cases high
  · exact loV_lt s k
  · exact hiV_lt s k

set_option maxRecDepth 100000 in
set_option maxHeartbeats 2000000 in
theorem rvalue_any (s : ByteArray) (high : Bool) (w : World) (h8 : 8 ≤ s.size) (hs : s.size ≤ 9223372036854775807) :
    Calls Tryd.prog 54 #[.string s, .bool high] w fun e w' => e = .returned (.int .u64 (valV s high 8)) ∧ w = w' := by
  cases high
  all_goals
    go_enter Tryd.func54, Tryd.ntmps54
    go_wp2_with (fail)
  · go_loopg [5, 6] 8 (fun g n i wr => ∃ k : Nat, g + k = 8 ∧ i = .int .i64 k ∧ n = .int .u64 (valV s false k) ∧ w = wr)
    case atStart => exact ⟨0, rfl, rfl, rfl, rfl⟩
    case round =>
      obtain ⟨k, hg, rfl, rfl, rfl⟩ := hrel
      by_cases hk : k < 8
      · have hv := valV_lt s false k
        have hv1 := valV_lt s false (k + 1)
        have HS : Hid (valV s false (k + 1) = valV s false k * 256 + (atB s (7 - k)).toNat) := rfl
        have hb : (256 : Nat) ^ (k + 1) ≤ 256 ^ 8 := Nat.pow_le_pow_right (by decide) (by omega)
        have hb2 : (256 : Nat) ^ 8 = 18446744073709551616 := by decide
        rw [HS.out] at hv1
        obtain ⟨x, hx⟩ : ∃ x, x = valV s false k := ⟨_, rfl⟩
        rw [← hx] at hv1 ⊢
        have HX := Lib.hid hx
        obtain ⟨m, hm⟩ : ∃ m, m = 7 - k := ⟨_, rfl⟩
        have hmi : (7 : Int) - (k : Int) = (m : Int) := by omega
        have hms : m < s.size := by omega
        have hat := at_any hms
        have hbt : (atB s m).toNat < 256 := (atB s m).toNat_lt
        have hxl : x * 256 + (atB s m).toNat < 18446744073709551616 := by rw [hm]; omega
        have HM := Lib.hid hm
        clear hv hv1 hx hm hb hb2
        go_wp2_with (fail)
        go_roundg (gk - 1)
        case measure => omega
        case rel => exact ⟨k + 1, by omega, by go_num, by rw [HS.out, ← HX.out, ← HM.out]; go_num, rfl⟩
      · obtain rfl : k = 8 := by omega
        go_wp2_with (fail)
        go_ret
        exact ⟨rfl, rfl⟩
  · go_loopg [5, 6] 8 (fun g n i wr => ∃ k : Nat, g + k = 8 ∧ i = .int .i64 k ∧ n = .int .u64 (valV s true k) ∧ w = wr)
    case atStart => exact ⟨0, rfl, rfl, rfl, rfl⟩
    case round =>
      obtain ⟨k, hg, rfl, rfl, rfl⟩ := hrel
      by_cases hk : k < 8
      · have hv1 := valV_lt s true (k + 1)
        have HS : Hid (valV s true (k + 1) = valV s true k * 256 + (atB s k).toNat) := rfl
        have hb : (256 : Nat) ^ (k + 1) ≤ 256 ^ 8 := Nat.pow_le_pow_right (by decide) (by omega)
        have hb2 : (256 : Nat) ^ 8 = 18446744073709551616 := by decide
        rw [HS.out] at hv1
        obtain ⟨x, hx⟩ : ∃ x, x = valV s true k := ⟨_, rfl⟩
        rw [← hx] at hv1 ⊢
        have HX := Lib.hid hx
        have hms : k < s.size := by omega
        have hat := at_any hms
        have hbt : (atB s k).toNat < 256 := (atB s k).toNat_lt
        have hxl : x * 256 + (atB s k).toNat < 18446744073709551616 := by omega
        clear hv1 hx hb hb2
        go_wp2_with (fail)
        go_roundg (gk - 1)
        case measure => omega
        case rel => exact ⟨k + 1, by omega, by go_num, by rw [HS.out, ← HX.out]; go_num, rfl⟩
      · obtain rfl : k = 8 := by omega
        go_wp2_with (fail)
        go_ret
        exact ⟨rfl, rfl⟩

/-! ### short -/
def shortR (s : ByteArray) : ByteArray × ByteArray × Bool :=
  if s.size = 0 ∨ s.size < 1 + (atB s 0).toNat then (⟨#[]⟩, ⟨#[]⟩, false) else (s.extract 1 (1 + (atB s 0).toNat), s.extract (1 + (atB s 0).toNat) s.size, true)

end Go.Proofs.YtepffknhkpppcaaDoor
