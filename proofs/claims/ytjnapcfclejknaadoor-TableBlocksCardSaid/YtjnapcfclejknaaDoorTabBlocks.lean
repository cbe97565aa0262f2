/-
  TableBlocks: the walk.
-/
import Derived.Test.YtjnapcfclejknaaDoorTabR
namespace Go.Proofs.YtjnapcfclejknaaDoor
open Go.RowKit

theorem build_bad {l : List Cel} {seq : Nat} (h : (buildT l seq).2 ≠ 0) : (buildT l seq).1 = ⟨#[]⟩ := by
  unfold buildT at h ⊢
  split
  · rfl
  · split
    · rfl
    · split
      · rfl
      · split
        · rfl
        · rename_i h1 h2 h3 h4
          rw [if_neg h1, if_neg h2, if_neg h3, if_neg h4] at h
          exact absurd rfl h
theorem row_none {l : List Cel} {fil row : ByteArray} {q : Nat} (h : (nearI l fil row).length = 0) : (rowT l fil row q).length = 0 := by
  unfold rowT nearL
  rw [List.eq_nil_of_length_eq_zero h, seenL_length]
  rfl
theorem near_le (l : List Cel) (fil row : ByteArray) : (nearI l fil row).length ≤ manyP l := by
  unfold nearI
  split
  · exact nearUp_length l row _
  · exact Nat.zero_le _

set_option maxRecDepth 100000 in
set_option maxHeartbeats 8000000 in
theorem tblocks_walk (w : World) (a : Option Addr) (len cap : Nat) (l : List Cel) (row : ByteArray) (hl : CelsAt w a len l) (hn : len ≤ maxLen ∧ len ≤ cap ∧ cap ≤ maxLen) (_hr : row.size ≤ 9223372036854775807) (hm : MaxAt w) (ht : TabAt w) :
    Calls Tryd.prog 6 #[.slice a len cap, .string row] w fun e w' => e = .returned (.bool true) ∧ Fp [] w w' := by
  obtain ⟨hn, hcap, hcm⟩ := hn
  have hn2 : len ≤ 9223372036854775807 := by unfold maxLen at hn; omega
  have HM := Lib.hid hm
  have HT := Lib.hid ht
  have HL := Lib.hid hl
  have HLN := Lib.hid hl.len
  have HSW := Lib.hid (fun w hm ht => shown5_any w hm ht)
  have HBO := Lib.hid (bounded5_any w a len cap l hl hn2)
  clear hl hm ht
  by_cases hrow : row.size > 100
  · have zr : (row.size : Int) > 100 := by omega
    go_enter Tryd.func6, Tryd.ntmps6
    go_wp2_with (fail)
    (with_reducible refine HBO.out.mono ?_)
    rintro e w1 ⟨⟨b, rfl, hb⟩, hf1⟩
    have HF1 := Lib.hid hf1
    clear hf1 hb
    cases b
    · go_wp2_with (fail)
      (with_reducible refine (HSW.out _ (HM.out.fp HF1.out (by simp)) (HT.out.fp HF1.out (by simp))).mono ?_)
      rintro e w2 ⟨rfl, hf2⟩
      have HF2 := Lib.hid (HF1.out.trans hf2 (by simp))
      clear hf2
      go_wp2_with (fail)
      go_ret
      exact ⟨rfl, HF2.out⟩
    · go_wp2_with (fail)
      (with_reducible refine (HSW.out _ (HM.out.fp HF1.out (by simp)) (HT.out.fp HF1.out (by simp))).mono ?_)
      rintro e w2 ⟨rfl, hf2⟩
      have HF2 := Lib.hid (HF1.out.trans hf2 (by simp))
      clear hf2
      go_wp2_with (fail)
      go_ret
      exact ⟨rfl, HF2.out⟩
  have zr : ¬ (row.size : Int) > 100 := by omega
  have hrs : row.size ≤ 100000000 := by omega
  go_enter Tryd.func6, Tryd.ntmps6
  go_wp2_with (fail)
  (with_reducible refine HBO.out.mono ?_)
  rintro e w1 ⟨⟨b, rfl, hb⟩, hf1⟩
  have HF1 := Lib.hid hf1
  clear hf1
  cases b
  · go_wp2_with (fail)
    (with_reducible refine (HSW.out _ (HM.out.fp HF1.out (by simp)) (HT.out.fp HF1.out (by simp))).mono ?_)
    rintro e w2 ⟨rfl, hf2⟩
    have HF2 := Lib.hid (HF1.out.trans hf2 (by simp))
    clear hf2
    go_wp2_with (fail)
    go_ret
    exact ⟨rfl, HF2.out⟩
  · have hl60 := hb rfl
    have hlen60 : len ≤ 60 := by rw [HLN.out]; exact hl60
    clear hb
    go_wp2_with (fail)
    (with_reducible refine (HSW.out _ (HM.out.fp HF1.out (by simp)) (HT.out.fp HF1.out (by simp))).mono ?_)
    rintro e w2 ⟨rfl, hf2⟩
    have HF2 := Lib.hid (HF1.out.trans hf2 (by simp))
    clear hf2
    by_cases hg : (buildT l 1).2 = 0
    · have HG := Lib.hid (good_build hg)
      have HB : Hid (Calls Tryd.prog 10 #[.slice a len cap, .int .u64 1] w2 fun e w' => e = .returned (.tuple #[.string (fileB l 1), .int .i64 0]) ∧ Fp [] w2 w') := tbuild_good (seq := 1) w2 a len cap (HL.out.fp HF2.out) hcap HG.out (by decide) (HM.out.fp HF2.out (by simp)) (HT.out.fp HF2.out (by simp))
      have HOP := Lib.hid (fun w hm ht => open_any (l := l) (seq := 1) w HL.out.ok HG.out (by decide) hm ht)
      obtain ⟨fb, hfb⟩ : ∃ f, fileB l 1 = f := ⟨_, rfl⟩
      rw [hfb] at HB HOP
      clear hg hfb
      go_wp2_with (fail)
      (with_reducible refine HB.out.mono ?_)
      rintro e w3 ⟨rfl, hf3⟩
      have HF3 := Lib.hid (HF2.out.trans hf3 (by simp))
      clear hf3
      go_wp2_with (fail)
      (with_reducible refine (HOP.out _ (HM.out.fp HF3.out (by simp)) (HT.out.fp HF3.out (by simp))).mono ?_)
      rintro e w4 ⟨⟨bt, rfl, hfa⟩, hf4⟩
      have HF4 := Lib.hid (HF3.out.trans hf4 (by simp))
      have HFA := Lib.hid hfa
      have HBS := Lib.hid (bloom_small HG.out.len)
      clear hf4 hfa
      obtain ⟨n, hnn⟩ : ∃ n, (nearI l (bloomP (rowsP l)) row).length = n := ⟨_, rfl⟩
      have HLK : Hid (Calls Tryd.prog 14 #[.pointer (some ⟨bt, 0, none⟩), .string row] w4 fun e w' => e = .returned (.int .i64 n) ∧ Fp [] w4 w') := by
        have h := tlooks_any w4 bt (openedP l 1) row HFA.out (by show l.length ≤ _; omega) (by show (bloomP (rowsP l)).size ≤ _; have := HBS.out; omega) hrs (HT.out.fp HF4.out (by simp))
        rw [show (nearI (openedP l 1).l (openedP l 1).fil row).length = n from hnn] at h
        exact h
      have hnle := near_le l (bloomP (rowsP l)) row
      rw [hnn] at hnle
      have HRN := Lib.hid (fun h => row_none (q := 1) (l := l) (fil := bloomP (rowsP l)) (row := row) (hnn.trans h))
      obtain ⟨m, hmm⟩ : ∃ m, manyP l = m := ⟨_, rfl⟩
      rw [hmm] at hnle
      have hm8 : (l.length + 7) / 8 = m := hmm
      have n7 : IntKind.i64.wrap ((len : Int) + 7) = ((len + 7 : Nat) : Int) := by rw [IntKind.wrap_i64]; omega
      obtain ⟨l7, hl7⟩ : ∃ x, len + 7 = x := ⟨_, rfl⟩
      rw [hl7] at n7
      have n8 : (l7 : Int) / 8 = (m : Int) := by have := HLN.out; omega
      have HBL : Hid (∀ w, FileAt w bt (openedP l 1) → Calls Tryd.prog 16 #[.pointer (some ⟨bt, 0, none⟩)] w fun e w' => e = .returned (.int .i64 m) ∧ Fp [] w w') := fun w hfa => by
        have h := tblocks_any w bt (openedP l 1) hfa
        rw [show manyP (openedP l 1).l = m from hmm] at h
        exact h
      have HRO : Hid (∀ w, FileAt w bt (openedP l 1) → TabAt w → Calls Tryd.prog 15 #[.pointer (some ⟨bt, 0, none⟩), .string row] w fun e w' => ∃ v', e = .returned v' ∧ OwnC w' w.heap.size v' (rowT l (bloomP (rowsP l)) row 1) ∧ Fp [] w w') := fun w hfa ht =>
        trow_any w bt (openedP l 1) row hfa (by show l.length ≤ _; omega) (by show 1 < _; decide) (by show (bloomP (rowsP l)).size ≤ _; have := HBS.out; omega) hrs ht
      obtain ⟨rl, hrl⟩ : ∃ r, rowT l (bloomP (rowsP l)) row 1 = r := ⟨_, rfl⟩
      rw [hrl] at HRO HRN
      have w8 : IntKind.i64.wrap (m : Int) = (m : Int) := by rw [IntKind.wrap_i64]; omega
      have znm : (n : Int) ≤ (m : Int) := by omega
      clear hnn hmm hm8 hl7 hrl HBO HB HOP
      go_wp2_with (fail)
      (with_reducible refine HLK.out.mono ?_)
      rintro e w5 ⟨rfl, hf5⟩
      have HF5 := Lib.hid (HF4.out.trans hf5 (by simp))
      have HFA5 := Lib.hid (HFA.out.fp hf5)
      clear hf5
      go_wp2_with (fail)
      (with_reducible refine (HBL.out _ HFA5.out).mono ?_)
      rintro e w6 ⟨rfl, hf6⟩
      have HF6 := Lib.hid (HF5.out.trans hf6 (by simp))
      have HFA6 := Lib.hid (HFA5.out.fp hf6)
      clear hf6
      go_wp2_with (fail)
      (with_reducible refine (HBL.out _ HFA6.out).mono ?_)
      rintro e w7 ⟨rfl, hf7⟩
      have HF7 := Lib.hid (HF6.out.trans hf7 (by simp))
      have HFA7 := Lib.hid (HFA6.out.fp hf7)
      clear hf7
      go_wp2_with (fail)
      (with_reducible refine (HRO.out _ HFA7.out (HT.out.fp HF7.out (by simp))).mono ?_)
      rintro e w8 ⟨v8, rfl, ho8, hf8⟩
      obtain ⟨a8, c8, rfl⟩ := ho8.len
      have HF8 := Lib.hid (HF7.out.trans hf8 (by simp))
      have HFA8 := Lib.hid (HFA7.out.fp hf8)
      clear ho8 hf8
      by_cases hn0 : n = 0
      · have hr0 := HRN.out hn0
        rw [hr0]
        subst hn0
        go_wp2_with (fail)
        (with_reducible refine (HRO.out _ HFA8.out (HT.out.fp HF8.out (by simp))).mono ?_)
        rintro e w9 ⟨v9, rfl, ho9, hf9⟩
        obtain ⟨a9, c9, rfl⟩ := ho9.len
        rw [hr0]
        have HF9 := Lib.hid (HF8.out.trans hf9 (by simp))
        clear ho9 hf9 hr0
        go_wp2_with (fail)
        go_ret
        exact ⟨rfl, HF9.out⟩
      · have zn : (n : Int) > 0 := by omega
        obtain ⟨rn, hrn⟩ : ∃ x, rl.length = x := ⟨_, rfl⟩
        rw [hrn]
        clear hrn
        by_cases hrn0 : rn = 0
        · subst hrn0
          go_wp2_with (fail)
          go_ret
          exact ⟨rfl, HF8.out⟩
        · have zrn : ((rn : Int) == 0) = false := by rw [beq_eq_false_iff_ne]; omega
          go_wp2_with (fail)
          go_ret
          exact ⟨rfl, HF8.out⟩
    · have hb2 := build_bad hg
      have HTB := tbuild_any w2 a len cap l 1 (HL.out.fp HF2.out) hcap (by omega) (by decide) (HM.out.fp HF2.out (by simp)) (HT.out.fp HF2.out (by simp))
      rw [hb2] at HTB
      obtain ⟨be, hbe⟩ : ∃ x, (buildT l 1).2 = x := ⟨_, rfl⟩
      rw [hbe] at HTB hg
      have HB : Hid (Calls Tryd.prog 10 #[.slice a len cap, .int .u64 1] w2 fun e w' => e = .returned (.tuple #[.string ⟨#[]⟩, .int .i64 be]) ∧ Fp [] w2 w') := HTB
      have zbe : ((be : Int) != 0) = true := by rw [bne_iff_ne]; omega
      clear hb2 HTB hbe
      go_wp2_with (fail)
      (with_reducible refine HB.out.mono ?_)
      rintro e w3 ⟨rfl, hf3⟩
      have HF3 := Lib.hid (HF2.out.trans hf3 (by simp))
      clear hf3
      go_wp2_with (fail)
      go_ret
      exact ⟨rfl, HF3.out⟩
end Go.Proofs.YtjnapcfclejknaaDoor
