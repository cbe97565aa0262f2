/-
  BlockBuilds: the walk.
-/
import Derived.Test.YtepffknhkpppcaaDoorBlkL
namespace Go.Proofs.YtepffknhkpppcaaDoor
open Go.RowKit Go.Lib

set_option maxRecDepth 100000 in
set_option maxHeartbeats 4000000 in
theorem builds_walk (w : World) (a : Option Addr) (len cap : Nat) (l : List Cel) (x y : ByteArray) (hl : CelsAt w a len l) (hn : len ≤ maxLen) (_wx : x.size ≤ 9223372036854775807) (_wy : y.size ≤ 9223372036854775807) (hm : MaxAt w) :
    Calls Tryd.prog 3 #[.slice a len cap, .string x, .string y] w fun e w' => e = .returned (.bool true) ∧ Fp [] w w' := by
  have hn2 : len ≤ 9223372036854775807 := by unfold maxLen at hn; omega
  have HM := Lib.hid hm
  have HL := Lib.hid hl
  have HSW := Lib.hid (fun w hm => shown4_any w hm)
  have HBO := Lib.hid (bounded4_any w a len cap l hl hn2)
  clear hm hl hn
  by_cases h1 : x.size > 200
  · have z1 : (x.size : Int) > 200 := by omega
    go_enter Tryd.func3, Tryd.ntmps3
    go_wp2_with (fail)
    (with_reducible refine HBO.out.mono ?_)
    rintro e w1 ⟨⟨b, rfl⟩, hf1⟩
    have HF1 := Lib.hid hf1
    clear hf1
    cases b
    · go_wp2_with (fail)
      (with_reducible refine (HSW.out _ (HM.out.fp HF1.out (by simp))).mono ?_)
      rintro e w2 ⟨rfl, hf⟩
      go_wp2_with (fail)
      go_ret
      exact ⟨rfl, HF1.out.trans hf (by simp)⟩
    · go_wp2_with (fail)
      (with_reducible refine (HSW.out _ (HM.out.fp HF1.out (by simp))).mono ?_)
      rintro e w2 ⟨rfl, hf⟩
      go_wp2_with (fail)
      go_ret
      exact ⟨rfl, HF1.out.trans hf (by simp)⟩
  have z1 : ¬ (x.size : Int) > 200 := by omega
  by_cases h2 : y.size > 200
  · have z2 : (y.size : Int) > 200 := by omega
    go_enter Tryd.func3, Tryd.ntmps3
    go_wp2_with (fail)
    (with_reducible refine HBO.out.mono ?_)
    rintro e w1 ⟨⟨b, rfl⟩, hf1⟩
    have HF1 := Lib.hid hf1
    clear hf1
    cases b
    · go_wp2_with (fail)
      (with_reducible refine (HSW.out _ (HM.out.fp HF1.out (by simp))).mono ?_)
      rintro e w2 ⟨rfl, hf⟩
      go_wp2_with (fail)
      go_ret
      exact ⟨rfl, HF1.out.trans hf (by simp)⟩
    · go_wp2_with (fail)
      (with_reducible refine (HSW.out _ (HM.out.fp HF1.out (by simp))).mono ?_)
      rintro e w2 ⟨rfl, hf⟩
      go_wp2_with (fail)
      go_ret
      exact ⟨rfl, HF1.out.trans hf (by simp)⟩
  have z2 : ¬ (y.size : Int) > 200 := by omega
  have HB1 := Lib.hid (fun w hl hm => build_any w a len cap l hl hn2 hm)
  have HB2 := Lib.hid (fun w hl => rbuild_any w a len cap l hl hn2)
  have HS1 := Lib.hid (fun w => shared_any x y w (by omega) (by omega))
  have HS2 := Lib.hid (fun w => rshared_any x y w (by omega) (by omega))
  have hbs := built_size (l := l)
  have hbe := built_empty (l := l)
  have hbk := parse_built (l := l) HL.out.ok
  have hbl := build_ok (l := l)
  obtain ⟨⟨bs, be⟩, hb⟩ : ∃ t, buildP l = t := ⟨_, rfl⟩
  obtain ⟨sh, hsh⟩ : ∃ t, shareB x y = t := ⟨_, rfl⟩
  rw [hb] at HB1 HB2 hbs hbe hbk hbl
  rw [hsh] at HS1 HS2
  simp only at hbs hbe hbk hbl
  have HBK := Lib.hid hbk
  have HBE := Lib.hid hbe
  have HBL := Lib.hid (fun h => (hbl h).1)
  have HPA := Lib.hid (fun w hm => bparse_any w bs (by omega) hm)
  have HLN := Lib.hid HL.out.len
  clear hb hsh hbk hbe hbl
  go_enter Tryd.func3, Tryd.ntmps3
  go_wp2_with (fail)
  (with_reducible refine HBO.out.mono ?_)
  rintro e w1 ⟨⟨b, rfl⟩, hf1⟩
  have HF1 := Lib.hid hf1
  clear hf1
  cases b
  · go_wp2_with (fail)
    (with_reducible refine (HSW.out _ (HM.out.fp HF1.out (by simp))).mono ?_)
    rintro e w2 ⟨rfl, hf⟩
    go_wp2_with (fail)
    go_ret
    exact ⟨rfl, HF1.out.trans hf (by simp)⟩
  · go_wp2_with (fail)
    (with_reducible refine (HSW.out _ (HM.out.fp HF1.out (by simp))).mono ?_)
    rintro e w2 ⟨rfl, hf2⟩
    have HF2 := Lib.hid (HF1.out.trans hf2 (by simp))
    clear hf2
    go_wp2_with (fail)
    (with_reducible refine (HB1.out _ (HL.out.fp HF2.out) (HM.out.fp HF2.out (by simp))).mono ?_)
    rintro e w3 ⟨rfl, hf3⟩
    have HF3 := Lib.hid (HF2.out.trans hf3 (by simp))
    clear hf3
    go_wp2_with (fail)
    (with_reducible refine (HB2.out _ (HL.out.fp HF3.out)).mono ?_)
    rintro e w4 ⟨rfl, hf4⟩
    have HF4 := Lib.hid (HF3.out.trans hf4 (by simp))
    clear hf4
    go_wp2_with (fail)
    (with_reducible refine (HS1.out _).mono ?_)
    rintro e w5 ⟨rfl, hf5⟩
    have HF5 := Lib.hid (HF4.out.trans hf5 (by simp))
    clear hf5
    go_wp2_with (fail)
    (with_reducible refine (HS2.out _).mono ?_)
    rintro e w6 ⟨rfl, hf6⟩
    have HF6 := Lib.hid (HF5.out.trans hf6 (by simp))
    clear hf6
    by_cases h0 : be = 0
    · subst h0
      have hp := HBK.out rfl
      have hl255 : l.length ≤ 255 := HBL.out rfl
      rw [code_some hp, hp] at HPA
      have HLO := Lib.hid HL.out.ok
      clear hp
      go_wp2_with (fail)
      (with_reducible refine (HPA.out _ (HM.out.fp HF6.out (by simp))).mono ?_)
      rintro e w7 ⟨v, rfl, ho, hf7⟩
      have HF7 := Lib.hid (HF6.out.trans hf7 (by simp))
      obtain ⟨a2, c2, rfl, hc2⟩ := OwnC.at (l := l) ho HLO.out
      have HSA := Lib.hid (same_any w7 a2 a l.length c2 len cap l hc2 (HL.out.fp HF7.out) (by omega))
      clear hf7 ho hc2
      go_wp2_with (fail)
      (with_reducible refine HSA.out.mono ?_)
      rintro e w8 ⟨rfl, hf8⟩
      go_wp2_with (fail)
      go_ret
      exact ⟨rfl, HF7.out.trans hf8 (by simp)⟩
    · have z0 : ¬ (be : Int) = 0 := by omega
      obtain rfl := HBE.out h0
      clear HPA
      go_wp2_with (fail)
      go_ret
      exact ⟨rfl, HF6.out⟩
end Go.Proofs.YtepffknhkpppcaaDoor
