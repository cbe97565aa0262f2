/-
 What two texts share.
-/
import Derived.Test.YtkjmgbifoaoefaaGreatDoorQRegion
import Derived.Test.YtkjmgbifoaoefaaGreatDoorQCellPure
import Derived.Test.YtkjmgbifoaoefaaGreatDoorRows
import Derived.IntWalk
import Derived.Lib.Bytealg
import Derived.Lib.IndexBytes
import Derived.Laws.DeepStrings4
set_option maxRecDepth 100000
set_option maxHeartbeats 8000000
namespace Go.Proofs.YtkjmgbifoaoefaaGreatDoor
open Go.RowKit Go.Lib
def shareL : List UInt8 → List UInt8 → Nat
 |x :: a, y :: b => if x = y then shareL a b + 1 else 0
 |_, _ => 0
theorem share_eq : ∀ (k : Nat) (a b : List UInt8), k ≤ a.length → k ≤ b.length → a.take k = b.take k → (∀ x y, a[k]? = some x → b[k]? = some y → x ≠ y) → shareL a b = k
 |0, a, b, _, _, _, h => by
  match a, b with
  |[], _ => rfl
  |_ :: _, [] => rfl
  |x :: a, y :: b => unfold shareL; rw [if_neg (h x y rfl rfl)]
 |k + 1, a, b, h1, h2, ht, h => by
  match a, b, h1, h2, ht, h with
  |x :: a, y :: b, h1, h2, ht, h =>
   simp only [List.take_succ_cons, List.cons.injEq] at ht
   unfold shareL
   rw [if_pos ht.1, share_eq k a b (by simpa using h1) (by simpa using h2) ht.2 (fun u v hu hv => h u v (by simpa using hu) (by simpa using hv))]
theorem share_le : ∀ (a b : List UInt8), shareL a b ≤ a.length ∧ shareL a b ≤ b.length
 |[], _ => ⟨Nat.zero_le _, Nat.zero_le _⟩
 |_ :: _, [] => ⟨Nat.zero_le _, Nat.zero_le _⟩
 |x :: a, y :: b => by
  have := share_le a b
  unfold shareL
  split <;> simp <;> omega
def shareB (a b : ByteArray) : Nat := shareL a.data.toList b.data.toList
theorem dat_at {s : ByteArray} {i : Nat} (h : i < s.size) : s.data.toList[i]? = some s[i] := Lib.data_getElem? s i h
theorem take_same {a b : ByteArray} {k : Nat} (ha : k < a.size) (hb : k < b.size) (h : a.data.toList.take k = b.data.toList.take k) (e : a[k] = b[k]) : a.data.toList.take (k + 1) = b.data.toList.take (k + 1) := by
 have h1 : k < a.data.toList.length := ha
 have h2 : k < b.data.toList.length := hb
 rw [List.take_succ_eq_append_getElem h1, List.take_succ_eq_append_getElem h2, h]
 have e1 := dat_at ha
 have e2 := dat_at hb
 rw [List.getElem?_eq_getElem h1] at e1
 rw [List.getElem?_eq_getElem h2] at e2
 rw [Option.some.inj e1, Option.some.inj e2, e]
theorem share_stop {a b : ByteArray} {k : Nat} (ha : k < a.size) (hb : k < b.size) (h : a.data.toList.take k = b.data.toList.take k) (e : a[k] ≠ b[k]) : shareB a b = k :=
 share_eq k _ _ (Nat.le_of_lt ha) (Nat.le_of_lt hb) h (fun x y hx hy => by
  rw [dat_at ha] at hx
  rw [dat_at hb] at hy
  rw [← Option.some.inj hx, ← Option.some.inj hy]; exact e)
theorem share_all {a b : ByteArray} {k : Nat} (ha : k ≤ a.size) (hb : k ≤ b.size) (h : a.data.toList.take k = b.data.toList.take k) (e : k = a.size ∨ k = b.size) : shareB a b = k :=
 share_eq k _ _ ha hb h (fun x y hx hy => by
  rcases e with e | e
  ·subst e
   have := (List.getElem?_eq_some_iff.1 hx).1
   exact absurd this (Nat.lt_irrefl _)
  ·subst e
   have := (List.getElem?_eq_some_iff.1 hy).1
   exact absurd this (Nat.lt_irrefl _))
theorem shared_any (a b : ByteArray) (w : World) (ha : a.size ≤ 9223372036854775807) (hb : b.size ≤ 9223372036854775807) :
  Calls Tryz.prog 159 #[.string a, .string b] w fun e w' => e = .returned (.int .i64 (shareB a b : Nat)) ∧ Fp [] w w' := by
 obtain ⟨m, hm, hma, hmb⟩ : ∃ m : Nat, (m = a.size ∨ m = b.size) ∧ m ≤ a.size ∧ m ≤ b.size := by
  by_cases h : a.size ≤ b.size
  ·exact ⟨a.size, Or.inl rfl, Nat.le_refl _, h⟩
  ·exact ⟨b.size, Or.inr rfl, by omega, Nat.le_refl _⟩
 have HALL : Hid (a.data.toList.take m = b.data.toList.take m → shareB a b = m) := fun h => share_all hma hmb h hm
 have HM := Lib.hid hm
 clear hm
 by_cases hc : a.size < b.size
 ·obtain rfl : m = a.size := by rcases HM.out with h | h <;> omega
  have c1 : (a.size : Int) < (b.size : Int) := by omega
  have c2 : ¬ (b.size : Int) ≤ (a.size : Int) := by omega
  go_enter Tryz.func159, Tryz.ntmps159
  go_wp2_with (fail)
  go_loopg [13] a.size (fun g vi wr => ∃ k : Nat, g + k = a.size ∧ vi = .int .i64 k ∧ Fp [] w wr ∧ a.data.toList.take k = b.data.toList.take k)
  case atStart => exact ⟨0, by omega, rfl, Fp.refl _ _, rfl⟩
  case round =>
   obtain ⟨k, hg, rfl, hf, ht⟩ := hrel
   have HF := Lib.hid hf
   have HT := Lib.hid ht
   clear hf ht
   by_cases hk : k < a.size
   ·have hka : k < a.size := by omega
    have hkb : k < b.size := by omega
    by_cases he : a[k] = b[k]
    ·have HN := Lib.hid (take_same hka hkb HT.out he)
     have z : (a[k].toNat : Int) = (b[k].toNat : Int) := by rw [he]
     clear he
     go_wp2_with (fail)
     go_region
     go_wp2_with (fail)
     go_roundg (gk - 1)
     case measure => omega
     case rel => exact ⟨k + 1, by omega, by simp, HF.out.drew', HN.out⟩
    ·have HN := Lib.hid (share_stop hka hkb HT.out he)
     have z : ¬ (a[k].toNat : Int) = (b[k].toNat : Int) := fun e => he (UInt8.toNat_inj.1 (by omega))
     have z2 : ((a[k].toNat : Int) == (b[k].toNat : Int)) = false := beq_eq_false_iff_ne.2 z
     clear he
     go_wp2_with (fail)
     go_region
     go_wp2_with (fail)
     go_ret
     exact ⟨by rw [HN.out]; rfl, HF.out.drew'⟩
   ·obtain rfl : k = a.size := by omega
    have HN := Lib.hid (HALL.out HT.out)
    go_wp2_with (fail)
    go_ret
    exact ⟨by rw [HN.out]; rfl, HF.out⟩
 by_cases hd : b.size < a.size
 ·obtain rfl : m = b.size := by rcases HM.out with h | h <;> omega
  have c1 : ¬ (a.size : Int) < (b.size : Int) := by omega
  have c2 : (b.size : Int) ≤ (a.size : Int) := by omega
  have c3 : (b.size : Int) < (a.size : Int) := by omega
  have c4 : ¬ (a.size : Int) ≤ (b.size : Int) := by omega
  go_enter Tryz.func159, Tryz.ntmps159
  go_wp2_with (fail)
  go_loopg [13] b.size (fun g vi wr => ∃ k : Nat, g + k = b.size ∧ vi = .int .i64 k ∧ Fp [] w wr ∧ a.data.toList.take k = b.data.toList.take k)
  case atStart => exact ⟨0, by omega, rfl, Fp.refl _ _, rfl⟩
  case round =>
   obtain ⟨k, hg, rfl, hf, ht⟩ := hrel
   have HF := Lib.hid hf
   have HT := Lib.hid ht
   clear hf ht
   by_cases hk : k < b.size
   ·have hka : k < a.size := by omega
    have hkb : k < b.size := by omega
    by_cases he : a[k] = b[k]
    ·have HN := Lib.hid (take_same hka hkb HT.out he)
     have z : (a[k].toNat : Int) = (b[k].toNat : Int) := by rw [he]
     clear he
     go_wp2_with (fail)
     go_region
     go_wp2_with (fail)
     go_roundg (gk - 1)
     case measure => omega
     case rel => exact ⟨k + 1, by omega, by simp, HF.out.drew', HN.out⟩
    ·have HN := Lib.hid (share_stop hka hkb HT.out he)
     have z : ¬ (a[k].toNat : Int) = (b[k].toNat : Int) := fun e => he (UInt8.toNat_inj.1 (by omega))
     have z2 : ((a[k].toNat : Int) == (b[k].toNat : Int)) = false := beq_eq_false_iff_ne.2 z
     clear he
     go_wp2_with (fail)
     go_region
     go_wp2_with (fail)
     go_ret
     exact ⟨by rw [HN.out]; rfl, HF.out.drew'⟩
   ·obtain rfl : k = b.size := by omega
    have HN := Lib.hid (HALL.out HT.out)
    go_wp2_with (fail)
    go_ret
    exact ⟨by rw [HN.out]; rfl, HF.out⟩
 ·obtain rfl : m = b.size := by rcases HM.out with h | h <;> omega
  have c0 : (a.size : Int) = (b.size : Int) := by omega
  have HE : Hid (a.size = b.size) := by unfold Hid; omega
  go_enter Tryz.func159, Tryz.ntmps159
  go_wp2_with (fail)
  go_loopg [13] b.size (fun g vi wr => ∃ k : Nat, g + k = b.size ∧ vi = .int .i64 k ∧ Fp [] w wr ∧ a.data.toList.take k = b.data.toList.take k)
  case atStart => exact ⟨0, by omega, rfl, Fp.refl _ _, rfl⟩
  case round =>
   obtain ⟨k, hg, rfl, hf, ht⟩ := hrel
   have HF := Lib.hid hf
   have HT := Lib.hid ht
   clear hf ht
   by_cases hk : k < b.size
   ·have hka : k < a.size := by omega
    have hkb : k < b.size := by omega
    by_cases he : a[k] = b[k]
    ·have HN := Lib.hid (take_same hka hkb HT.out he)
     have z : (a[k].toNat : Int) = (b[k].toNat : Int) := by rw [he]
     clear he
     go_wp2_with (fail)
     go_region
     go_wp2_with (fail)
     go_roundg (gk - 1)
     case measure => omega
     case rel => exact ⟨k + 1, by omega, by simp, HF.out.drew', HN.out⟩
    ·have HN := Lib.hid (share_stop hka hkb HT.out he)
     have z : ¬ (a[k].toNat : Int) = (b[k].toNat : Int) := fun e => he (UInt8.toNat_inj.1 (by omega))
     have z2 : ((a[k].toNat : Int) == (b[k].toNat : Int)) = false := beq_eq_false_iff_ne.2 z
     clear he
     go_wp2_with (fail)
     go_region
     go_wp2_with (fail)
     go_ret
     exact ⟨by rw [HN.out]; rfl, HF.out.drew'⟩
   ·obtain rfl : k = b.size := by omega
    have HN := Lib.hid (HALL.out HT.out)
    go_wp2_with (fail)
    go_ret
    exact ⟨by rw [HN.out]; rfl, HF.out⟩
end Go.Proofs.YtkjmgbifoaoefaaGreatDoor
