/-
  TableBuilds: the walk.
-/
import Derived.Test.YtjnapcfclejknaaGreatDoorTabRef
import Derived.Test.YtjnapcfclejknaaGreatDoorTabRows
namespace Go.Proofs.YtjnapcfclejknaaGreatDoor
open Go.RowKit Go.Lib

theorem build_bad5 {l : List Cel} {seq : Nat} (h : (buildT l seq).2 ≠ 0) : (buildT l seq).1 = ⟨#[]⟩ := by
  unfold buildT at h ⊢
  split
  · rfl
  · split
    · rfl
    · split
      · rfl
      · split
        · rfl
        · rename_i h1 h2 h3 h4
          rw [if_neg h1, if_neg h2, if_neg h3, if_neg h4] at h
          exact absurd rfl h

set_option maxRecDepth 100000 in
set_option maxHeartbeats 16000000 in
theorem tbuilds_walk (w : World) (a : Option Addr) (n cap : Nat) (l : List Cel) (sq : Int) (row : ByteArray) (hl : CelsAt w a n l) (hn : n ≤ maxLen ∧ n ≤ cap ∧ cap ≤ maxLen) (hq0 : 0 ≤ sq) (hq1 : sq ≤ 18446744073709551615) (_hr : row.size ≤ 9223372036854775807) (hm : MaxAt w) (ht : TabAt w) :
    Calls Tryz.prog 3 #[.slice a n cap, .int .u64 sq, .string row] w fun e w' => e = .returned (.bool true) ∧ Fp [] w w' := by
  obtain ⟨seq, rfl⟩ := Int.eq_ofNat_of_zero_le hq0
  have hq : seq < 18446744073709551616 := by omega
  clear hq0 hq1
  obtain ⟨hn, hcap, hcm⟩ := hn
  have hn2 : n ≤ 9223372036854775807 := by unfold maxLen at hn; omega
  have HM := Lib.hid hm
  have HT := Lib.hid ht
  have HL := Lib.hid hl
  have HLN := Lib.hid hl.len
  have HSW := Lib.hid (fun w hm ht => shown5_any w hm ht)
  have HBO := Lib.hid (bounded5_any w a n cap l hl hn2)
  clear hl hm ht
  by_cases hrow : row.size > 100
  · have zr : (row.size : Int) > 100 := by omega
    go_enter Tryz.func3, Tryz.ntmps3
    go_wp2_with (fail)
    (with_reducible refine HBO.out.mono ?_)
    rintro e w1 ⟨⟨b, rfl, hb⟩, hf1⟩
    have HF1 := Lib.hid hf1
    clear hf1 hb
    cases b
    · go_wp2_with (fail)
      (with_reducible refine (HSW.out _ (HM.out.fp HF1.out (by simp)) (HT.out.fp HF1.out (by simp))).mono ?_)
      rintro e w2 ⟨rfl, hf2⟩
      have HF2 := Lib.hid (HF1.out.trans hf2 (by simp))
      clear hf2
      go_wp2_with (fail)
      go_ret
      exact ⟨rfl, HF2.out⟩
    · go_wp2_with (fail)
      (with_reducible refine (HSW.out _ (HM.out.fp HF1.out (by simp)) (HT.out.fp HF1.out (by simp))).mono ?_)
      rintro e w2 ⟨rfl, hf2⟩
      have HF2 := Lib.hid (HF1.out.trans hf2 (by simp))
      clear hf2
      go_wp2_with (fail)
      go_ret
      exact ⟨rfl, HF2.out⟩
  have zr : ¬ (row.size : Int) > 100 := by omega
  have hrs : row.size ≤ 100000 := by omega
  go_enter Tryz.func3, Tryz.ntmps3
  go_wp2_with (fail)
  (with_reducible refine HBO.out.mono ?_)
  rintro e w1 ⟨⟨b, rfl, hb⟩, hf1⟩
  have HF1 := Lib.hid hf1
  clear hf1
  cases b
  · go_wp2_with (fail)
    (with_reducible refine (HSW.out _ (HM.out.fp HF1.out (by simp)) (HT.out.fp HF1.out (by simp))).mono ?_)
    rintro e w2 ⟨rfl, hf2⟩
    have HF2 := Lib.hid (HF1.out.trans hf2 (by simp))
    clear hf2
    go_wp2_with (fail)
    go_ret
    exact ⟨rfl, HF2.out⟩
  have hl60 := hb rfl
  have hlen60 : n ≤ 60 := by rw [HLN.out]; exact hl60
  clear hb
  go_wp2_with (fail)
  (with_reducible refine (HSW.out _ (HM.out.fp HF1.out (by simp)) (HT.out.fp HF1.out (by simp))).mono ?_)
  rintro e w2 ⟨rfl, hf2⟩
  have HF2 := Lib.hid (HF1.out.trans hf2 (by simp))
  clear hf2
  have HB1 := Lib.hid (tbuild_any w2 a n cap l seq (HL.out.fp HF2.out) hcap (by omega) hq (HM.out.fp HF2.out (by simp)) (HT.out.fp HF2.out (by simp)))
  have HB2 := Lib.hid (fun w hl => rbuild5_any w a n cap l seq hl hcap hq)
  have HBAD := Lib.hid (build_bad5 (l := l) (seq := seq))
  have HGOOD := Lib.hid (fun h => build_good (l := l) seq (good_build (seq := seq) h))
  have HGO := Lib.hid (good_build (l := l) (seq := seq))
  obtain ⟨⟨sx, ee⟩, hse⟩ : ∃ x, buildT l seq = x := ⟨_, rfl⟩
  rw [hse] at HB1 HB2 HBAD HGOOD HGO
  clear hse
  by_cases he : ee = 0
  · subst he
    have HG := Lib.hid (HGO.out rfl)
    have hgd := HGOOD.out rfl
    have hsx : sx = fileB l seq := by injection hgd
    have HOP := Lib.hid (fun w hm ht => open_any (l := l) (seq := seq) w HL.out.ok HG.out hq hm ht)
    rw [← hsx] at HOP
    have hpos : 0 < n := by have h1 := HG.out.pos; have h2 := HLN.out; omega
    obtain ⟨h, hh⟩ : ∃ h, n / 2 = h := ⟨_, rfl⟩
    have hhn : h < n := by omega
    have d1 : (n : Int) / 2 = (h : Int) := by omega
    have zh : (h : Int) < (n : Int) := by omega
    obtain ⟨b1, o1, rfl, _, hcells⟩ := cels_get (k := h) HL.out (by rw [← HLN.out]; exact hhn)
    have hrl : (l[h]'(by rw [← HLN.out]; exact hhn)).row ∈ rowsP l := rows_all (List.getElem_mem _)
    obtain ⟨r, hr⟩ : ∃ r, (l[h]'(by rw [← HLN.out]; exact hhn)).row = r := ⟨_, rfl⟩
    have HPH : Hid (∀ w', Fp [] w w' → w'.cell? ⟨b1, o1 + h * 6, none⟩ = some (.string r)) := fun w' hf => by
      have h := (hcells w' hf).c0
      rw [hr] at h
      exact h
    rw [hr] at hrl
    have hrsz : r.size ≤ 100000 := by
      obtain ⟨c, hc, rfl⟩ := rows_mem hrl
      have := (may_sizes (errK_may HG.out.err c hc)).1
      omega
    obtain ⟨nk, hnk, hlk⟩ := looks_one HG.out hrl
    have HLK := Lib.hid hlk
    have znk : (nk : Int) > 0 := by omega
    clear hgd hsx hh hcells hr hrl hlk
    go_wp2_with (fail)
    (with_reducible refine HB1.out.mono ?_)
    rintro e w3 ⟨rfl, hf3⟩
    have HF3 := Lib.hid (HF2.out.trans hf3 (by simp))
    clear hf3
    go_wp2_with (fail)
    (with_reducible refine (HB2.out _ (HL.out.fp HF3.out)).mono ?_)
    rintro e w4 ⟨rfl, hf4⟩
    have HF4 := Lib.hid (HF3.out.trans hf4 (by simp))
    clear hf4
    go_wp2_with (fail)
    (with_reducible refine (HOP.out _ (HM.out.fp HF4.out (by simp)) (HT.out.fp HF4.out (by simp))).mono ?_)
    rintro e w5 ⟨⟨bt, rfl, hfa⟩, hf5⟩
    have HF5 := Lib.hid (HF4.out.trans hf5 (by simp))
    have HFA := Lib.hid hfa
    have HS1 := Lib.hid (same5_any w5 bt (some ⟨b1, o1, none⟩) n cap l seq row hfa (HL.out.fp HF5.out) hcap HG.out hq hrs (HT.out.fp HF5.out (by simp)))
    clear hf5 hfa
    go_wp2_with (fail)
    (with_reducible refine HS1.out.mono ?_)
    rintro e w6 ⟨rfl, hf6⟩
    have HF6 := Lib.hid (HF5.out.trans hf6 (by simp))
    have HFA6 := Lib.hid (HFA.out.fp hf6)
    have p6 := HPH.out _ HF6.out
    have HS2 := Lib.hid (same5_any w6 bt (some ⟨b1, o1, none⟩) n cap l seq r HFA6.out (HL.out.fp HF6.out) hcap HG.out hq hrsz (HT.out.fp HF6.out (by simp)))
    clear hf6 HS1
    go_wp2_with (fail)
    (with_reducible refine HS2.out.mono ?_)
    rintro e w7 ⟨rfl, hf7⟩
    have HF7 := Lib.hid (HF6.out.trans hf7 (by simp))
    have HFA7 := Lib.hid (HFA6.out.fp hf7)
    have p7 := HPH.out _ HF7.out
    clear hf7 HS2 p6
    go_wp2_with (fail)
    (with_reducible refine (HLK.out seq w7 bt HFA7.out (HT.out.fp HF7.out (by simp))).mono ?_)
    rintro e w8 ⟨rfl, hf8⟩
    have HF8 := Lib.hid (HF7.out.trans hf8 (by simp))
    clear hf8
    go_wp2_with (fail)
    go_ret
    exact ⟨rfl, HF8.out⟩
  · obtain rfl : sx = ⟨#[]⟩ := HBAD.out he
    have ze : ((ee : Int) != 0) = true := by rw [bne_iff_ne]; omega
    go_wp2_with (fail)
    (with_reducible refine HB1.out.mono ?_)
    rintro e w3 ⟨rfl, hf3⟩
    have HF3 := Lib.hid (HF2.out.trans hf3 (by simp))
    clear hf3
    go_wp2_with (fail)
    (with_reducible refine (HB2.out _ (HL.out.fp HF3.out)).mono ?_)
    rintro e w4 ⟨rfl, hf4⟩
    have HF4 := Lib.hid (HF3.out.trans hf4 (by simp))
    clear hf4
    go_wp2_with (fail)
    go_ret
    exact ⟨rfl, HF4.out⟩
end Go.Proofs.YtjnapcfclejknaaGreatDoor
