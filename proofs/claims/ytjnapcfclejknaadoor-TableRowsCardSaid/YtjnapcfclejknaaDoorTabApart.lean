/-
  TableApart: the walk.
-/
import Derived.Test.YtjnapcfclejknaaDoorTabPure
import Derived.Test.YtjnapcfclejknaaDoorTabSames
namespace Go.Proofs.YtjnapcfclejknaaDoor
open Go.RowKit

theorem build_badA {l : List Cel} {seq : Nat} (h : (buildT l seq).2 ≠ 0) : (buildT l seq).1 = ⟨#[]⟩ := by
  unfold buildT at h ⊢
  split
  · rfl
  · split
    · rfl
    · split
      · rfl
      · split
        · rfl
        · rename_i h1 h2 h3 h4
          rw [if_neg h1, if_neg h2, if_neg h3, if_neg h4] at h
          exact absurd rfl h
theorem toList_ne {a b : ByteArray} (h : a ≠ b) : (a.toList == b.toList) = false := by
  rw [beq_eq_false_iff_ne]
  exact fun e => h (toList_inj e)
/-- Build, of any cells: a good file, or none -/
theorem tbuild_two (w : World) (a : Option Addr) (len cap : Nat) (l : List Cel) (seq : Nat) (hl : CelsAt w a len l) (hlc : len ≤ cap) (h60 : len ≤ 60) (hq : seq < 18446744073709551616) (hm : MaxAt w) (ht : TabAt w) :
    (GoodT l ∧ Calls Tryd.prog 10 #[.slice a len cap, .int .u64 seq] w fun e w' => e = .returned (.tuple #[.string (fileB l seq), .int .i64 0]) ∧ Fp [] w w') ∨
    ∃ be : Nat, ((be : Int) != 0) = true ∧ ((be : Int) == 0) = false ∧ Calls Tryd.prog 10 #[.slice a len cap, .int .u64 seq] w fun e w' => e = .returned (.tuple #[.string ⟨#[]⟩, .int .i64 be]) ∧ Fp [] w w' := by
  by_cases hg : (buildT l seq).2 = 0
  · exact Or.inl ⟨good_build hg, tbuild_good w a len cap hl hlc (good_build hg) hq hm ht⟩
  · have h := tbuild_any w a len cap l seq hl hlc (by omega) hq hm ht
    rw [build_badA hg] at h
    exact Or.inr ⟨_, by rw [bne_iff_ne]; omega, by rw [beq_eq_false_iff_ne]; omega, h⟩

set_option maxRecDepth 100000 in
set_option maxHeartbeats 8000000 in
theorem tapart_walk (w : World) (a : Option Addr) (la ca : Nat) (l : List Cel) (b : Option Addr) (lb cb : Nat) (m : List Cel) (x y : Int) (hl : CelsAt w a la l) (hn : la ≤ maxLen ∧ la ≤ ca ∧ ca ≤ maxLen) (hl2 : CelsAt w b lb m) (hn2 : lb ≤ maxLen ∧ lb ≤ cb ∧ cb ≤ maxLen) (hx0 : 0 ≤ x) (hx1 : x ≤ 18446744073709551615) (hy0 : 0 ≤ y) (hy1 : y ≤ 18446744073709551615) (hm : MaxAt w) (ht : TabAt w) :
    Calls Tryd.prog 4 #[.slice a la ca, .slice b lb cb, .int .u64 x, .int .u64 y] w fun e w' => e = .returned (.bool true) ∧ Fp [] w w' := by
  obtain ⟨x, rfl⟩ := Int.eq_ofNat_of_zero_le hx0
  obtain ⟨y, rfl⟩ := Int.eq_ofNat_of_zero_le hy0
  obtain ⟨hn, hcap, hcm⟩ := hn
  obtain ⟨hn2, hcap2, hcm2⟩ := hn2
  have hm1 : la ≤ 9223372036854775807 := by unfold maxLen at hn; omega
  have hm2 : lb ≤ 9223372036854775807 := by unfold maxLen at hn2; omega
  have HM := Lib.hid hm
  have HT := Lib.hid ht
  have HL := Lib.hid hl
  have HL2 := Lib.hid hl2
  have HLN := Lib.hid hl.len
  have HLN2 := Lib.hid hl2.len
  have hqx : x < 18446744073709551616 := by omega
  have hqy : y < 18446744073709551616 := by omega
  have HSW := Lib.hid (fun w hm ht => shown5_any w hm ht)
  have HBO := Lib.hid (bounded5_any w a la ca l hl hm1)
  have HBO2 : Hid (∀ w', Fp [] w w' → Calls Tryd.prog 8 #[.slice b lb cb] w' fun e w' => BoundB m e ∧ Fp [] _ w') := fun w' hf => bounded5_any w' b lb cb m (HL2.out.fp hf) hm2
  clear hl hl2 hm ht hx0 hx1 hy0 hy1
  go_enter Tryd.func4, Tryd.ntmps4
  go_wp2_with (fail)
  (with_reducible refine HBO.out.mono ?_)
  rintro e w1 ⟨⟨b1, rfl, hb⟩, hf1⟩
  have HF1 := Lib.hid hf1
  clear hf1
  cases b1
  · clear hb
    go_wp2_with (fail)
    (with_reducible refine (HSW.out _ (HM.out.fp HF1.out (by simp)) (HT.out.fp HF1.out (by simp))).mono ?_)
    rintro e w2 ⟨rfl, hf2⟩
    have HF2 := Lib.hid (HF1.out.trans hf2 (by simp))
    clear hf2
    go_wp2_with (fail)
    go_ret
    exact ⟨rfl, HF2.out⟩
  have ha60 : la ≤ 60 := by rw [HLN.out]; exact hb rfl
  clear hb
  go_wp2_with (fail)
  (with_reducible refine (HBO2.out _ HF1.out).mono ?_)
  rintro e w1b ⟨⟨b2, rfl, hb⟩, hf1⟩
  have HF1b := Lib.hid (HF1.out.trans hf1 (by simp))
  clear hf1
  cases b2
  · clear hb
    go_wp2_with (fail)
    (with_reducible refine (HSW.out _ (HM.out.fp HF1b.out (by simp)) (HT.out.fp HF1b.out (by simp))).mono ?_)
    rintro e w2 ⟨rfl, hf2⟩
    have HF2 := Lib.hid (HF1b.out.trans hf2 (by simp))
    clear hf2
    go_wp2_with (fail)
    go_ret
    exact ⟨rfl, HF2.out⟩
  have hb60 : lb ≤ 60 := by rw [HLN2.out]; exact hb rfl
  clear hb
  go_wp2_with (fail)
  (with_reducible refine (HSW.out _ (HM.out.fp HF1b.out (by simp)) (HT.out.fp HF1b.out (by simp))).mono ?_)
  rintro e w2 ⟨rfl, hf2⟩
  have HF2 := Lib.hid (HF1b.out.trans hf2 (by simp))
  clear hf2
  rcases tbuild_two w2 a la ca l x (HL.out.fp HF2.out) hcap ha60 hqx (HM.out.fp HF2.out (by simp)) (HT.out.fp HF2.out (by simp)) with ⟨hg1, hc1⟩ | ⟨e1, z1, z1', hc1⟩
  · have HC1 := Lib.hid hc1
    have HG1 := Lib.hid hg1
    clear hc1 hg1
    obtain ⟨fa, hfa⟩ : ∃ f, fileB l x = f := ⟨_, rfl⟩
    rw [hfa] at HC1
    have HFA := Lib.hid hfa
    clear hfa
    go_wp2_with (fail)
    (with_reducible refine HC1.out.mono ?_)
    rintro e w3 ⟨rfl, hf3⟩
    have HF3 := Lib.hid (HF2.out.trans hf3 (by simp))
    clear hf3 HC1
    rcases tbuild_two w3 b lb cb m y (HL2.out.fp HF3.out) hcap2 hb60 hqy (HM.out.fp HF3.out (by simp)) (HT.out.fp HF3.out (by simp)) with ⟨hg2, hc2⟩ | ⟨e2, z2, z2', hc2⟩
    · have HC2 := Lib.hid hc2
      have hap := file_apart HL.out.ok HL2.out.ok HG1.out hg2 hqx hqy
      clear hc2 hg2
      rw [HFA.out] at hap
      obtain ⟨fb, hfb⟩ : ∃ f, fileB m y = f := ⟨_, rfl⟩
      rw [hfb] at HC2 hap
      clear hfb
      have HAP := Lib.hid hap
      clear hap
      by_cases hxy : x = y
      · subst hxy
        by_cases hlm : l = m
        · have hfe : fa = fb := HAP.out.2 ⟨rfl, hlm⟩
          subst hfe
          have HSC : Hid (∀ w', Fp [] w w' → Calls Tryd.prog 12 #[.slice a la ca, .slice b lb cb] w' fun e w2 => e = .returned (.bool true) ∧ Fp [] w' w2) := fun w' hf => sames_any w' a b la ca lb cb l m (HL.out.fp hf) (HL2.out.fp hf) hm1 true (fun _ => rfl) (fun h => absurd hlm h)
          clear hlm
          go_wp2_with (fail)
          (with_reducible refine HC2.out.mono ?_)
          rintro e w4 ⟨rfl, hf4⟩
          have HF4 := Lib.hid (HF3.out.trans hf4 (by simp))
          clear hf4 HC2
          go_wp2_with (fail)
          (with_reducible refine (HSC.out _ HF4.out).mono ?_)
          rintro e w5 ⟨rfl, hf5⟩
          have HF5 := Lib.hid (HF4.out.trans hf5 (by simp))
          clear hf5
          go_wp2_with (fail)
          go_ret
          exact ⟨rfl, HF5.out⟩
        · have hfe := toList_ne (fun e => hlm (HAP.out.1 e).2)
          have HSC : Hid (∀ w', Fp [] w w' → Calls Tryd.prog 12 #[.slice a la ca, .slice b lb cb] w' fun e w2 => e = .returned (.bool false) ∧ Fp [] w' w2) := fun w' hf => sames_any w' a b la ca lb cb l m (HL.out.fp hf) (HL2.out.fp hf) hm1 false (fun h => absurd h hlm) (fun _ => rfl)
          clear hlm
          go_wp2_with (fail)
          (with_reducible refine HC2.out.mono ?_)
          rintro e w4 ⟨rfl, hf4⟩
          have HF4 := Lib.hid (HF3.out.trans hf4 (by simp))
          clear hf4 HC2
          go_wp2_with (fail)
          (with_reducible refine (HSC.out _ HF4.out).mono ?_)
          rintro e w5 ⟨rfl, hf5⟩
          have HF5 := Lib.hid (HF4.out.trans hf5 (by simp))
          clear hf5
          go_wp2_with (fail)
          go_ret
          exact ⟨rfl, HF5.out⟩
      · have hfe := toList_ne (fun e => hxy (HAP.out.1 e).1)
        have zxy : ((x : Int) == (y : Int)) = false := by rw [beq_eq_false_iff_ne]; omega
        go_wp2_with (fail)
        (with_reducible refine HC2.out.mono ?_)
        rintro e w4 ⟨rfl, hf4⟩
        have HF4 := Lib.hid (HF3.out.trans hf4 (by simp))
        clear hf4 HC2
        go_wp2_with (fail)
        go_ret
        exact ⟨rfl, HF4.out⟩
    · have HC2 := Lib.hid hc2
      clear hc2
      go_wp2_with (fail)
      (with_reducible refine HC2.out.mono ?_)
      rintro e w4 ⟨rfl, hf4⟩
      have HF4 := Lib.hid (HF3.out.trans hf4 (by simp))
      clear hf4 HC2
      go_wp2_with (fail)
      go_ret
      exact ⟨rfl, HF4.out⟩
  · have HC1 := Lib.hid hc1
    clear hc1
    go_wp2_with (fail)
    (with_reducible refine HC1.out.mono ?_)
    rintro e w3 ⟨rfl, hf3⟩
    have HF3 := Lib.hid (HF2.out.trans hf3 (by simp))
    clear hf3 HC1
    rcases tbuild_two w3 b lb cb m y (HL2.out.fp HF3.out) hcap2 hb60 hqy (HM.out.fp HF3.out (by simp)) (HT.out.fp HF3.out (by simp)) with ⟨hg2, hc2⟩ | ⟨e2, z2, z2', hc2⟩
    · have HC2 := Lib.hid hc2
      clear hc2 hg2
      go_wp2_with (fail)
      (with_reducible refine HC2.out.mono ?_)
      rintro e w4 ⟨rfl, hf4⟩
      have HF4 := Lib.hid (HF3.out.trans hf4 (by simp))
      clear hf4 HC2
      go_wp2_with (fail)
      go_ret
      exact ⟨rfl, HF4.out⟩
    · have HC2 := Lib.hid hc2
      clear hc2
      go_wp2_with (fail)
      (with_reducible refine HC2.out.mono ?_)
      rintro e w4 ⟨rfl, hf4⟩
      have HF4 := Lib.hid (HF3.out.trans hf4 (by simp))
      clear hf4 HC2
      go_wp2_with (fail)
      go_ret
      exact ⟨rfl, HF4.out⟩
end Go.Proofs.YtjnapcfclejknaaDoor
