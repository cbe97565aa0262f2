/-
  The reference of layer 1: name, Key, part.
-/
import Derived.Test.YtepffknhkpppcaaDoorRefC
namespace Go.Proofs.YtepffknhkpppcaaDoor
open Go.RowKit

theorem esc_append (a b : List UInt8) : esc (a ++ b) = esc a ++ esc b := by
  induction a with
  | nil => rfl
  | cons x a ih =>
    by_cases h : x = 0
    · subst h; rw [List.cons_append, esc_zero, esc_zero, ih]; rfl
    · rw [List.cons_append, esc_one h, esc_one h, ih]; rfl
theorem take_at {s : ByteArray} {k : Nat} (h : k < s.size) : s.data.toList.take (k + 1) = s.data.toList.take k ++ [atB s k] := by
  have hl : k < s.data.toList.length := by rw [← Lib.size_eq]; exact h
  rw [List.take_succ_eq_append_getElem hl]
  congr 2
  unfold atB
  rw [List.getD_eq_getElem?_getD, List.getElem?_eq_getElem hl]
  rfl
theorem esc_take {s : ByteArray} {k : Nat} (h : k < s.size) : esc (s.data.toList.take (k + 1)) = esc (s.data.toList.take k) ++ esc [atB s k] := by
  rw [take_at h, esc_append]
theorem esc_take_length (s : ByteArray) (k : Nat) : (esc (s.data.toList.take k)).length ≤ 2 * s.size := by
  have h := esc_length (s.data.toList.take k)
  have h2 := List.length_take_le k s.data.toList
  have h3 : (s.data.toList.take k).length ≤ s.data.toList.length := by rw [List.length_take]; omega
  rw [← Lib.size_eq] at h3
  omega
theorem ofNat_toNat (y : UInt8) : UInt8.ofNat y.toNat = y := by simp

set_option maxRecDepth 100000 in
set_option maxHeartbeats 4000000 in
theorem rname_any (s : ByteArray) (w : World) (hs : s.size ≤ 100000) :
    Calls Tryd.prog 46 #[.string s] w fun e w' => e = .returned (.string (bl (esc s.data.toList ++ [0, 1]))) ∧ Fp [] w w' := by
  go_enter Tryd.func46, Tryd.ntmps46
  go_wp2_with (fail)
  go_loopg [3, 4] s.size (fun g vb vi wr => ∃ k : Nat, g + k = s.size ∧ vi = .int .i64 k ∧ Owned wr w.heap.size vb (esc (s.data.toList.take k)) ∧ Fp [] w wr)
  case atStart => exact ⟨0, rfl, rfl, Owned.made w w.heap.size [] (Nat.le_refl _) (by decide), Fp.alloc _ _⟩
  case round =>
    obtain ⟨k, hg, rfl, ho, hf⟩ := hrel
    have HO := Lib.hid ho
    have HF := Lib.hid hf
    have hbw := hf.size
    have hle := esc_take_length s k
    clear ho hf
    by_cases hk : k < s.size
    · have HE := Lib.hid (esc_take hk)
      have hat := at_any hk
      have hy8 : (atB s k).toNat < 256 := (atB s k).toNat_lt
      obtain ⟨y, hy⟩ : ∃ y, atB s k = y := ⟨_, rfl⟩
      rw [hy] at HE hat hy8
      have HL : Hid ((esc (s.data.toList.take k)).length + 1 ≤ 1000000000) := by unfold Hid; omega
      clear hy
      by_cases hz : y = 0
      · subst hz
        have HL2 : Hid ((esc (s.data.toList.take k) ++ [UInt8.ofNat 0]).length + 1 ≤ 1000000000) := by unfold Hid; rw [List.length_append]; simp only [List.length_cons, List.length_nil]; omega
        have R1 : Hid (∀ w : World, Reads (w.alloc (.cells #[.int .u8 0] 5)) (.slice (some ⟨w.heap.size, 0, none⟩) 1 1) [UInt8.ofNat 0]) := fun w => Reads.one w (n := 0) (by decide)
        have R2 : Hid (∀ w : World, Reads (w.alloc (.cells #[.int .u8 255] 5)) (.slice (some ⟨w.heap.size, 0, none⟩) 1 1) [UInt8.ofNat 255]) := fun w => Reads.one w (n := 255) (by decide)
        go_wp2_with (first
          | (at_builtin; with_reducible refine wpList_append_reads rfl _ _ rfl w.heap.size _ _ rfl (HO.out.alloc _) _ _ rfl (R1.out _) HL.out (by simp; omega) ?_; intro v3 w3 hown3 hbel3; have HF3 := Lib.hid ((HF.out.alloc' _).belowTrans hbel3); have hb3 : w.heap.size ≤ w3.heap.size := HF3.out.size; have HO3 := Lib.hid hown3; clear hown3 hbel3)
          | (at_builtin; with_reducible refine wpList_append_reads rfl _ _ rfl w.heap.size _ _ rfl (HO3.out.alloc _) _ _ rfl (R2.out _) HL2.out (by simp; omega) ?_; intro v4 w4 hown4 hbel4; have HF4 := Lib.hid ((HF3.out.alloc' _).belowTrans hbel4); have HO4 := Lib.hid hown4; clear hown4 hbel4))
        go_roundg (gk - 1)
        case measure => omega
        case rel => exact ⟨k + 1, by omega, by go_num, by rw [HE.out]; have := HO4.out; rw [List.append_assoc] at this; exact this, HF4.out⟩
      · have hyn : ¬ ((y.toNat : Int) = 0) := fun h => hz (UInt8.toNat_inj.1 (by show y.toNat = 0; omega))
        have t1 : ((y.toNat : Int) == 0) = false := by simpa using hyn
        have R1 : Hid (∀ w : World, Reads (w.alloc (.cells #[.int .u8 y.toNat] 5)) (.slice (some ⟨w.heap.size, 0, none⟩) 1 1) [UInt8.ofNat y.toNat]) := fun w => Reads.one w (n := y.toNat) hy8
        have HE2 : Hid (esc [y] = [UInt8.ofNat y.toNat]) := by unfold Hid; rw [ofNat_toNat, esc_one hz]; rfl
        go_wp2_with (first
          | (at_builtin; with_reducible refine wpList_append_reads rfl _ _ rfl w.heap.size _ _ rfl (HO.out.alloc _) _ _ rfl (R1.out _) HL.out (by simp; omega) ?_; intro v3 w3 hown3 hbel3; have HF3 := Lib.hid ((HF.out.alloc' _).belowTrans hbel3); have HO3 := Lib.hid hown3; clear hown3 hbel3))
        go_roundg (gk - 1)
        case measure => omega
        case rel => exact ⟨k + 1, by omega, by go_num, by rw [HE.out, HE2.out]; exact HO3.out, HF3.out⟩
    · have hkk : k = s.size := by omega
      have h2 := HO.out
      rw [hkk, Lib.size_eq, List.take_length] at h2
      have HO2 := Lib.hid h2
      have HL : Hid ((esc s.data.toList).length + 2 ≤ 1000000000) := by
        unfold Hid
        have := esc_length s.data.toList
        rw [← Lib.size_eq] at this
        omega
      have R1 : Hid (∀ w : World, Reads (w.alloc (.cells #[.int .u8 0, .int .u8 1] 5)) (.slice (some ⟨w.heap.size, 0, none⟩) 2 2) [0, 1]) := fun w => Or.inr ⟨w.heap.size, 0, 2, rfl, by simp, two_news w 0 1⟩
      clear h2 hkk
      go_wp2_with (first
        | (at_builtin; with_reducible refine wpList_append_reads rfl _ _ rfl w.heap.size _ _ rfl (HO2.out.alloc _) _ _ rfl (R1.out _) HL.out (by simp; omega) ?_; intro v3 w3 hown3 hbel3; have HF3 := Lib.hid ((HF.out.alloc' _).belowTrans hbel3); have hstr := run_str_of hown3; clear hown3 hbel3))
      go_ret
      exact ⟨rfl, HF3.out⟩
end Go.Proofs.YtepffknhkpppcaaDoor
