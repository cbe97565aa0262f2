/-
  odd, Word, name.
-/
import Derived.Test.YtfhjdfimkeogaaaDoorParPure
import Derived.Test.YtfhjdfimkeogaaaDoorRegion
import Derived.Test.YtfhjdfimkeogaaaDoorMax
import Derived.Test.YtfhjdfimkeogaaaDoorShelf
namespace Go.Proofs.YtfhjdfimkeogaaaDoor
open Go.RowKit Go.Lib

theorem odd_at (w : World) : PredAt Tryd.prog 22 #[] encR oddN w := fun W r _ => by
  unfold FnGives
  by_cases h1 : r ≤ 32 <;> by_cases h2 : 126 < r
  all_goals
    have z1 : (r : Int) ≤ 32 ↔ r ≤ 32 := by omega
    have z2 : (r : Int) > 126 ↔ 126 < r := by omega
    go_enter Tryd.func22, Tryd.ntmps22
    go_wp2
    all_goals first | (exfalso; omega) | (go_ret; exact ⟨by unfold oddN; simp [h1, h2], 0, rfl⟩)

theorem index_any (s : ByteArray) (w : World) :
    Calls Tryd.prog 21 #[.string s, .func (.func 22) #[] #[]] w fun e w' => e = .returned (.int .i64 (idxFunc oddN true s)) ∧ Fp [] w w' :=
  (Tryd.strings_IndexFunc 22 #[] (enters_of Tryd.func22 (by kernel_rfl) rfl) oddN s w (odd_at w)).mono fun _ _ ⟨h, hb⟩ => ⟨h, Below.toFp hb⟩

def nameB (s : ByteArray) : Bool := wordB s && decide (s.size ≤ 40)
theorem wordB_idx (s : ByteArray) : wordB s = (decide (s.size ≠ 0) && decide (idxFunc oddN true s < 0)) := by
  unfold wordB; rw [word_idx]

theorem word_any (s : ByteArray) (w : World) :
    Calls Tryd.prog 12 #[.string s] w fun e w' => e = .returned (.bool (wordB s)) ∧ Fp [] w w' := by
  have hI := Lib.hid (index_any s)
  rw [wordB_idx]
  by_cases h0 : s.size = 0
  · have hem := str_empty h0
    go_enter Tryd.func12, Tryd.ntmps12
    go_wp2_with (fail)
    go_ret
    exact ⟨by rw [decide_eq_false (by omega)]; rfl, Fp.refl _ _⟩
  · have hem := str_full (s := s) (by omega)
    rw [decide_eq_true h0, Bool.true_and]
    obtain ⟨I, hi⟩ : ∃ I, idxFunc oddN true s = I := ⟨_, rfl⟩
    rw [hi] at hI ⊢
    go_enter Tryd.func12, Tryd.ntmps12
    go_wp2_with (fail)
    (with_reducible refine (hI.out _).mono ?_)
    rintro e w1 ⟨rfl, hf⟩
    have HF := Lib.hid hf
    clear hf
    go_wp2_with (fail)
    go_ret
    exact ⟨rfl, HF.out⟩

theorem name_any (s : ByteArray) (w : World) :
    Calls Tryd.prog 32 #[.string s] w fun e w' => e = .returned (.bool (nameB s)) ∧ Fp [] w w' := by
  have hI := Lib.hid (word_any s)
  unfold nameB
  obtain ⟨b, hb⟩ : ∃ b, wordB s = b := ⟨_, rfl⟩
  rw [hb] at hI ⊢
  cases b
  · go_enter Tryd.func32, Tryd.ntmps32
    go_wp2_with (fail)
    (with_reducible refine (hI.out _).mono ?_)
    rintro e w1 ⟨rfl, hf⟩
    have HF := Lib.hid hf
    clear hf
    go_wp2_with (fail)
    go_ret
    exact ⟨rfl, HF.out⟩
  · go_enter Tryd.func32, Tryd.ntmps32
    go_wp2_with (fail)
    (with_reducible refine (hI.out _).mono ?_)
    rintro e w1 ⟨rfl, hf⟩
    have HF := Lib.hid hf
    clear hf
    go_wp2_with (fail)
    go_ret
    refine ⟨?_, HF.out⟩
    refine ret_bool ?_
    rw [Bool.true_and]
    exact decide_eq_decide.2 (by omega)
end Go.Proofs.YtfhjdfimkeogaaaDoor
