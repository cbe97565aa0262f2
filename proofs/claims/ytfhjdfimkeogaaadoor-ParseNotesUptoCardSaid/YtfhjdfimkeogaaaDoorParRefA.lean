/-
  The reference of layer 7: Word, digits.
-/
import Derived.Test.YtfhjdfimkeogaaaDoorParCells
namespace Go.Proofs.YtfhjdfimkeogaaaDoor
open Go.RowKit Go.Lib

theorem word_of (s : ByteArray) (h : ∀ j (hj : j < s.size), okB s[j] = true) : s.data.toList.all okB = true := by
  rw [List.all_eq_true]
  intro x hx
  obtain ⟨j, hj, rfl⟩ := List.getElem_of_mem hx
  have hj2 : j < s.size := by rw [size_eq]; exact hj
  have e := get_data hj2
  rw [List.getElem?_eq_getElem hj] at e
  rw [Option.some.inj e]
  exact h j hj2
theorem word_not (s : ByteArray) (k : Nat) (hk : k < s.size) (h : okB s[k] = false) : wordB s = false := by
  unfold wordB
  rw [Bool.and_eq_false_iff]
  right
  rw [List.all_eq_false]
  exact ⟨s[k], List.mem_of_getElem? (get_data hk), by simp [h]⟩
theorem okB_low {b : UInt8} (h : b.toNat ≤ 32) : okB b = false := by unfold okB oddN; simp [h]
theorem okB_high {b : UInt8} (h : 127 ≤ b.toNat) : okB b = false := by unfold okB oddN; simp; omega
theorem okB_mid {b : UInt8} (h1 : ¬ b.toNat ≤ 32) (h2 : ¬ 127 ≤ b.toNat) : okB b = true := by unfold okB oddN; simp; omega

set_option maxRecDepth 100000 in
set_option maxHeartbeats 4000000 in
theorem rword_any (s : ByteArray) (w : World) (hs : s.size ≤ 100000000) :
    Calls Tryd.prog 13 #[.string s] w fun e w' => e = .returned (.bool (wordB s)) ∧ Fp [] w w' := by
  go_enter Tryd.func13, Tryd.ntmps13
  go_wp2_with (fail)
  go_loopg [3] s.size (fun g vi wr => ∃ k : Nat, g + k = s.size ∧ vi = .int .i64 k ∧ Fp [] w wr ∧ ∀ j (hj : j < s.size), j < k → okB s[j] = true)
  case atStart => exact ⟨0, by simp, rfl, Fp.refl _ _, by intro j _ h; omega⟩
  case round =>
    obtain ⟨k, hg, rfl, hf, hall⟩ := hrel
    have HF := Lib.hid hf
    have HALL := Lib.hid hall
    clear hf hall
    by_cases hk : k < s.size
    · by_cases h1 : s[k].toNat ≤ 32
      · have HN := Lib.hid (word_not s k hk (okB_low h1))
        have z1 : (s[k].toNat : Int) ≤ 32 := by omega
        go_wp2_with (fail)
        go_ret
        rw [HN.out]
        exact ⟨rfl, HF.out⟩
      · have z1 : ¬ (s[k].toNat : Int) ≤ 32 := by omega
        by_cases h2 : 127 ≤ s[k].toNat
        · have HN := Lib.hid (word_not s k hk (okB_high h2))
          have z2 : (s[k].toNat : Int) ≥ 127 := by omega
          go_wp2_with (fail)
          go_ret
          rw [HN.out]
          exact ⟨rfl, HF.out⟩
        · have z2 : ¬ (s[k].toNat : Int) ≥ 127 := by omega
          have HN : Hid (∀ j (hj : j < s.size), j < k + 1 → okB s[j] = true) := fun j hj hjk => by
            by_cases e : j = k
            · subst e; exact okB_mid h1 h2
            · exact HALL.out j hj (by omega)
          go_wp2_with (fail)
          go_roundg (gk - 1)
          case measure => omega
          case rel => exact ⟨k + 1, by omega, by simp, HF.out, HN.out⟩
    · have HN : Hid (wordB s = decide (s.size ≠ 0)) := by
        unfold Hid wordB
        rw [word_of s (fun j hj => HALL.out j hj (by omega)), Bool.and_true]
      go_wp2_with (fail)
      go_ret
      rw [HN.out]
      exact ⟨ret_bool (decide_eq_decide.2 (by omega)), HF.out⟩
end Go.Proofs.YtfhjdfimkeogaaaDoor
