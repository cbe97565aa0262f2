/-
  ParseCells: the cells of any input are the document's.
-/
import Derived.Test.YtfhjdfimkeogaaaDoorParRefE
import Derived.Test.YtfhjdfimkeogaaaDoorParShown
import Derived.Test.YtfhjdfimkeogaaaDoorSame
import Derived.Test.YtfhjdfimkeogaaaDoorCrc
import Derived.Lib.LaidTab
namespace Go.Proofs.YtfhjdfimkeogaaaDoor
open Go.RowKit Go.Lib

theorem cellsGo_ok : ∀ (l : List ByteArray) (i : Nat) (acc : List Cel), (∀ t ∈ l, t.size ≤ 100000000) → (∀ c ∈ acc, CelOK c) → (∀ c ∈ (cellsGo i acc l).1, CelOK c) ∧ (cellsGo i acc l).1.length ≤ acc.length + l.length ∧ (cellsGo i acc l).2.1 ≤ i + l.length ∧ (cellsGo i acc l).2.2 ≤ 70
  | [], i, acc, _, h => ⟨h, Nat.le_refl _, Nat.zero_le _, Nat.zero_le _⟩
  | t :: r, i, acc, hl, h => by
    have hr : ∀ t ∈ r, t.size ≤ 100000000 := fun x hx => hl x (by simp [hx])
    cases hs : skipB t
    · cases hp : lineP t with
      | none =>
        rw [bad_step hs hp]
        exact ⟨by simp, Nat.zero_le _, by show i + 1 ≤ i + (r.length + 1); omega, Nat.le_refl _⟩
      | some c =>
        rw [good_step hs hp]
        have hc := lineP_ok (hl t (by simp)) hp
        obtain ⟨h1, h2, h3, h4⟩ := cellsGo_ok r (i + 1) (acc ++ [c]) hr (by
          intro x hx
          rcases List.mem_append.1 hx with hx | hx
          · exact h x hx
          · rw [List.mem_singleton.1 hx]; exact hc)
        exact ⟨h1, by rw [List.length_append] at h2; simp only [List.length_cons, List.length_nil] at h2 ⊢; omega, by rw [List.length_cons]; omega, h4⟩
    · rw [skip_step hs]
      obtain ⟨h1, h2, h3, h4⟩ := cellsGo_ok r (i + 1) acc hr h
      exact ⟨h1, by rw [List.length_cons]; omega, by rw [List.length_cons]; omega, h4⟩
theorem cellsP_ok (s : ByteArray) (hs : s.size ≤ 100000000) : (∀ c ∈ (cellsP s).1, CelOK c) ∧ (cellsP s).1.length ≤ 100000001 ∧ (cellsP s).2.1 ≤ 100000001 ∧ (cellsP s).2.2 ≤ 71 := by
  unfold cellsP
  split
  · exact ⟨by simp, Nat.zero_le _, Nat.zero_le _, Nat.le_refl _⟩
  · have hl := pieces_le 10 s
    obtain ⟨h1, h2, h3, h4⟩ := cellsGo_ok (pieces 10 s) 0 [] (fun t ht => by have := pieces_small ht; omega) (by simp)
    refine ⟨h1, ?_, by omega, by omega⟩
    have : ([] : List Cel).length = 0 := rfl
    omega

theorem psum_any (s : ByteArray) (w : World) (hs : s.size ≤ 100000000) (ht : TabAt w) :
    Calls Tryd.prog 14 #[.string s] w fun e w' => e = .returned (.int .u32 (moreN 0 s)) ∧ Fp [] w w' := by
  have H := Lib.hid (fun w ht => sum_any s w hs ht)
  have HT := Lib.hid ht
  clear ht
  go_enter Tryd.func14, Tryd.ntmps14
  go_wp2_with (fail)
  (with_reducible refine (H.out _ HT.out).mono ?_)
  rintro e w1 ⟨rfl, hf⟩
  have HF := Lib.hid hf
  clear hf
  go_wp2_with (fail)
  go_ret
  exact ⟨rfl, HF.out⟩
theorem rpsum_any (s : ByteArray) (w : World) (hs : s.size ≤ 100000000) :
    Calls Tryd.prog 15 #[.string s] w fun e w' => e = .returned (.int .u32 (moreN 0 s)) ∧ Fp [] w w' := by
  have H := Lib.hid (fun w => rsum_any s w hs)
  go_enter Tryd.func15, Tryd.ntmps15
  go_wp2_with (fail)
  (with_reducible refine (H.out _).mono ?_)
  rintro e w1 ⟨rfl, hf⟩
  have HF := Lib.hid hf
  clear hf
  go_wp2_with (fail)
  go_ret
  exact ⟨rfl, HF.out⟩
theorem tab_of {w : World} (h : TabIs Tryd.prog w "rickyard/crc.four" .u32 (fourL.map fun (n : Nat) => (n : Int))) : TabAt w := by
  intro i hi
  have := h.cell (g := 0) (by kernel_rfl) i (by rw [List.length_map]; exact hi)
  rw [this]
  have key : ∀ r, r < 16 → (fourL.map fun (n : Nat) => (n : Int)).getD r 0 = ((fourL.getD r 0 : Nat) : Int) := by decide
  rw [key i hi]
theorem tab_met {W : World} {r : List (String × DataW Unit)} (h : laidMet Tryd.prog (("rickyard/crc.four", tabData .u32 (fourL.map fun (n : Nat) => (n : Int))) :: r) W.memory) : TabAt W :=
  tab_of (show TabIs Tryd.prog W.memory "rickyard/crc.four" .u32 (fourL.map fun (n : Nat) => (n : Int)) from tabIs_of_head (show Tryd.prog.globalNamed "rickyard/crc.four" = some 0 by kernel_rfl) (show (Tryd.prog.globals[0]?).map (·.type) = some 76 by kernel_rfl) Tryd.underlying76 Tryd.underlying34 (by kernel_rfl) (by kernel_rfl) h)

set_option maxRecDepth 100000 in
set_option maxHeartbeats 4000000 in
theorem cells_walk (W : World) (s : ByteArray) (hsz : s.size ≤ maxLen) (hp : ParAt W) (ht : TabAt W) :
    Calls Tryd.prog 5 #[.string s] W fun e w' => e = .returned (.bool true) ∧ Fp [] W w' := by
  have HP := Lib.hid hp
  have HT := Lib.hid ht
  have HSH := Lib.hid shown_any
  clear hp ht
  by_cases h45 : s.size > 4500
  · have h45' : (s.size : Int) > 4500 := by omega
    have hsz' : (s.size : Int) ≤ 9223372036854775807 := by unfold maxLen at hsz; omega
    clear hsz
    go_enter Tryd.func5, Tryd.ntmps5
    go_wp2_with (fail)
    (with_reducible refine (HSH.out _ HP.out).mono ?_)
    rintro e w1 ⟨rfl, hf⟩
    have HF := Lib.hid hf
    clear hf
    go_wp2_with (fail)
    go_ret
    exact ⟨rfl, HF.out⟩
  · have h45' : ¬ (s.size : Int) > 4500 := by omega
    have hs : s.size ≤ 100000000 := by omega
    clear hsz h45
    obtain ⟨hok, hln, hn1, hn2⟩ := cellsP_ok s hs
    obtain ⟨r, hr⟩ : ∃ r, cellsP s = r := ⟨_, rfl⟩
    obtain ⟨l, n, er⟩ := r
    rw [hr] at hok hln hn1 hn2
    have hC := fun w hp => cells_any s w hs hp
    have hRC := fun w => rcells_any s w hs
    rw [hr] at hC hRC
    have HC := Lib.hid hC
    have HRC := Lib.hid hRC
    have HOK := Lib.hid hok
    have HW := Lib.hid (fun w => word_any s w)
    have HRW := Lib.hid (fun w => rword_any s w hs)
    have HS := Lib.hid (fun w ht => psum_any s w hs ht)
    have HRS := Lib.hid (fun w => rpsum_any s w hs)
    have hln' : l.length ≤ 100000001 := hln
    have hn1' : n ≤ 100000001 := hn1
    clear hr hC hRC hok hln hn1 hn2
    obtain ⟨wb, hwb⟩ : ∃ wb, wordB s = wb := ⟨_, rfl⟩
    obtain ⟨sm, hsm⟩ : ∃ sm, moreN 0 s = sm := ⟨_, rfl⟩
    rw [hwb] at HW HRW
    rw [hsm] at HS HRS
    clear hwb hsm
    go_enter Tryd.func5, Tryd.ntmps5
    go_wp2_with (fail)
    (with_reducible refine (HSH.out _ HP.out).mono ?_)
    rintro e w1 ⟨rfl, hf⟩
    have HF1 := Lib.hid hf
    clear hf
    go_wp2_with (fail)
    (with_reducible refine (HC.out _ (HP.out.fp HF1.out)).mono ?_)
    rintro e w2 ⟨⟨v2, rfl, ho2⟩, hf⟩
    have HF2 := Lib.hid (HF1.out.trans hf (by simp))
    have HO2 := Lib.hid ho2
    clear hf ho2
    rw [show ((l, n, er) : List Cel × Nat × Nat).2.1 = n from rfl, show ((l, n, er) : List Cel × Nat × Nat).2.2 = er from rfl]
    go_wp2_with (fail)
    (with_reducible refine (HRC.out _).mono ?_)
    rintro e w3 ⟨⟨v3, rfl, ho3⟩, hf⟩
    have HF3 := Lib.hid (HF2.out.trans hf (by simp))
    obtain ⟨a2, c2, rfl, hc2⟩ := (HO2.out.fp hf (by simp)).at HOK.out
    obtain ⟨a3, c3, rfl, hc3⟩ := ho3.at HOK.out
    have HSM := Lib.hid (fun c c' => same_any w3 a2 a3 l.length c l.length c' l hc2 hc3 (by omega))
    clear hf ho3 hc2 hc3
    rw [show ((l, n, er) : List Cel × Nat × Nat).2.1 = n from rfl, show ((l, n, er) : List Cel × Nat × Nat).2.2 = er from rfl, show ((l, n, er) : List Cel × Nat × Nat).1 = l from rfl]
    go_wp2_with (fail)
    (with_reducible refine (HSM.out _ _).mono ?_)
    rintro e w4 ⟨rfl, hf⟩
    have HF4 := Lib.hid (HF3.out.trans hf (by simp))
    clear hf
    go_wp2_with (fail)
    (with_reducible refine (HW.out _).mono ?_)
    rintro e w5 ⟨rfl, hf⟩
    have HF5 := Lib.hid (HF4.out.trans hf (by simp))
    clear hf
    go_wp2_with (fail)
    (with_reducible refine (HRW.out _).mono ?_)
    rintro e w6 ⟨rfl, hf⟩
    have HF6 := Lib.hid (HF5.out.trans hf (by simp))
    clear hf
    go_wp2_with (fail)
    (with_reducible refine (HS.out _ (HT.out.fp HF6.out List.not_mem_nil)).mono ?_)
    rintro e w7 ⟨rfl, hf⟩
    have HF7 := Lib.hid (HF6.out.trans hf (by simp))
    clear hf
    go_wp2_with (fail)
    (with_reducible refine (HRS.out _).mono ?_)
    rintro e w8 ⟨rfl, hf⟩
    have HF8 := Lib.hid (HF7.out.trans hf (by simp))
    clear hf
    go_wp2_with (fail)
    go_ret
    exact ⟨rfl, HF8.out⟩
end Go.Proofs.YtfhjdfimkeogaaaDoor
