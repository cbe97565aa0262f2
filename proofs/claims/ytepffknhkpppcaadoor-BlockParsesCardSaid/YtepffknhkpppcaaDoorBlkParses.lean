/-
  BlockParses: the walk.
-/
import Derived.Test.YtepffknhkpppcaaDoorBlkL
namespace Go.Proofs.YtepffknhkpppcaaDoor
open Go.RowKit Go.Lib

theorem own_at {w : World} {base : Nat} {v : Value} {s : ByteArray} (hs : s.size ≤ 100000) (h : OwnC w base v ((parseP s).getD [])) : ∃ a cap, v = .slice a ((parseP s).getD []).length cap ∧ CelsAt w a ((parseP s).getD []).length ((parseP s).getD []) ∧ ((parseP s).getD []).length ≤ 255 := by
  cases hp : parseP s with
  | none =>
    rw [hp] at h
    obtain ⟨a, cap, e, hc⟩ := OwnC.at (l := []) h (by simp)
    exact ⟨a, cap, e, hc, Nat.zero_le _⟩
  | some l =>
    rw [hp] at h
    obtain ⟨a, cap, e, hc⟩ := OwnC.at (l := l) h (parse_ok hs hp)
    exact ⟨a, cap, e, hc, (build_ok (parse_is hp).2.1).1⟩

set_option maxRecDepth 100000 in
set_option maxHeartbeats 4000000 in
theorem parses_walk (w : World) (s key : ByteArray) (_ws : s.size ≤ 9223372036854775807) (_wk : key.size ≤ 9223372036854775807) (hm : MaxAt w) :
    Calls Tryd.prog 7 #[.string s, .string key] w fun e w' => e = .returned (.bool true) ∧ Fp [] w w' := by
  have HM := Lib.hid hm
  have HSW := Lib.hid (fun w hm => shown4_any w hm)
  clear hm
  by_cases h1 : s.size > 3000
  · have z1 : (s.size : Int) > 3000 := by omega
    go_enter Tryd.func7, Tryd.ntmps7
    go_wp2_with (fail)
    (with_reducible refine (HSW.out _ HM.out).mono ?_)
    rintro e w2 ⟨rfl, hf⟩
    go_wp2_with (fail)
    go_ret
    exact ⟨rfl, hf⟩
  have z1 : ¬ (s.size : Int) > 3000 := by omega
  by_cases h2 : key.size > 300
  · have z2 : (key.size : Int) > 300 := by omega
    go_enter Tryd.func7, Tryd.ntmps7
    go_wp2_with (fail)
    (with_reducible refine (HSW.out _ HM.out).mono ?_)
    rintro e w2 ⟨rfl, hf⟩
    go_wp2_with (fail)
    go_ret
    exact ⟨rfl, hf⟩
  have z2 : ¬ (key.size : Int) > 300 := by omega
  have hs : s.size ≤ 100000 := by omega
  have HP1 := Lib.hid (fun w hm => bparse_any w s hs hm)
  have hp2 := fun w => rparse_any w s hs
  rw [code_same hs, parse_same hs] at hp2
  have HP2 := Lib.hid hp2
  have HK1 := Lib.hid (fun w hm => seek_any w s key hs hm)
  have HK2 := Lib.hid (fun w => rseek_any w s key hs)
  have HOW := Lib.hid (fun (w : World) (base : Nat) (v : Value) (h : OwnC w base v ((parseP s).getD [])) => own_at hs h)
  obtain ⟨ec, hec⟩ : ∃ ec, codeP s = ec := ⟨_, rfl⟩
  obtain ⟨N, hN⟩ : ∃ N, seekN s key = N := ⟨_, rfl⟩
  obtain ⟨l, hl⟩ : ∃ l, (parseP s).getD [] = l := ⟨_, rfl⟩
  rw [hec, hl] at HP1 HP2
  rw [hec, hN] at HK1 HK2
  rw [hl] at HOW
  clear hp2 hec hN hl
  go_enter Tryd.func7, Tryd.ntmps7
  go_wp2_with (fail)
  (with_reducible refine (HSW.out _ HM.out).mono ?_)
  rintro e w1 ⟨rfl, hf1⟩
  have HF1 := Lib.hid hf1
  clear hf1
  go_wp2_with (fail)
  (with_reducible refine (HP1.out _ (HM.out.fp HF1.out (by simp))).mono ?_)
  rintro e w2 ⟨v1, rfl, ho1, hf2⟩
  have HF2 := Lib.hid (HF1.out.trans hf2 (by simp))
  obtain ⟨a1, c1, rfl, hc1, hl255⟩ := HOW.out _ _ _ ho1
  have HC1 := Lib.hid hc1
  clear hf2 ho1 hc1
  go_wp2_with (fail)
  (with_reducible refine (HP2.out _).mono ?_)
  rintro e w3 ⟨v2, rfl, ho2, hf3⟩
  have HF3 := Lib.hid (HF2.out.trans hf3 (by simp))
  obtain ⟨a2, c2, rfl, hc2, _⟩ := HOW.out _ _ _ ho2
  have HC2 := Lib.hid hc2
  have HC1 := Lib.hid (HC1.out.fp hf3)
  clear hf3 ho2 hc2
  go_wp2_with (fail)
  (with_reducible refine (HK1.out _ (HM.out.fp HF3.out (by simp))).mono ?_)
  rintro e w4 ⟨rfl, hf4⟩
  have HF4 := Lib.hid (HF3.out.trans hf4 (by simp))
  have HC1 := Lib.hid (HC1.out.fp hf4)
  have HC2 := Lib.hid (HC2.out.fp hf4)
  clear hf4
  go_wp2_with (fail)
  (with_reducible refine (HK2.out _).mono ?_)
  rintro e w5 ⟨rfl, hf5⟩
  have HF5 := Lib.hid (HF4.out.trans hf5 (by simp))
  have HSA := Lib.hid (same_any w5 a1 a2 l.length c1 l.length c2 l (HC1.out.fp hf5) (HC2.out.fp hf5) (by omega))
  clear hf5
  go_wp2_with (fail)
  (with_reducible refine HSA.out.mono ?_)
  rintro e w6 ⟨rfl, hf6⟩
  go_wp2_with (fail)
  go_ret
  exact ⟨rfl, HF5.out.trans hf6 (by simp)⟩
end Go.Proofs.YtepffknhkpppcaaDoor
