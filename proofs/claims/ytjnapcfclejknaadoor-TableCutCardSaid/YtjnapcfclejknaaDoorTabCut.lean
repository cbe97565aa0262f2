/-
  TableCut: the walk.
-/
import Derived.Test.YtjnapcfclejknaaDoorTabApart
namespace Go.Proofs.YtjnapcfclejknaaDoor
open Go.RowKit

/-- bytes ahead of the end of a file are none -/
theorem cut_bad {l : List Cel} {q k : Nat} (g : GoodT l) (hk : k < (fileB l q).size) : ∃ e : Nat, e ≠ 0 ∧ openP ((fileB l q).extract 0 k) = (none, e) := by
  by_cases h0 : (openP ((fileB l q).extract 0 k)).2 = 0
  · exfalso
    obtain ⟨l', q', g', hq', e⟩ := opened_built h0
    rw [file_bl q g.len, file_bl q' g'.len] at e
    rw [file_bl q g.len, bl_size] at hk
    have e3 : (bl (fileL l q)).extract 0 k = bl ((fileL l q).take k) := by
      conv => lhs; rw [← List.take_append_drop k (fileL l q)]
      exact bl_pre _ _ _ (by rw [List.length_take]; omega)
    rw [e3] at e
    have e4 : (fileL l q).take k = fileL l' q' := congrArg (fun x : ByteArray => x.data.toList) e
    have e5 : fileL l' q' ++ (fileL l q).drop k = fileL l q := by rw [← e4, List.take_append_drop]
    have h1 := congrArg List.length (file_short g g' e5)
    rw [List.length_drop, List.length_nil] at h1
    omega
  · refine ⟨_, h0, ?_⟩
    unfold openP at h0 ⊢
    split
    · rfl
    · split
      · rfl
      · rename_i h1 h2
        rw [if_neg h1, if_neg h2] at h0
        revert h0
        cases openF ((fileB l q).extract 0 k) (footP (getP (((fileB l q).extract 0 k).extract (((fileB l q).extract 0 k).size - 26) ((fileB l q).extract 0 k).size)).1) with
        | none => intro _; rfl
        | some F => intro h; exact absurd rfl h
/-- bytes ahead of a file are no file -/
theorem more_bad {l : List Cel} {q : Nat} {m : ByteArray} (g : GoodT l) (hq : q < 18446744073709551616) (hm : m ≠ ⟨#[]⟩) : (openP (m ++ fileB l q)).2 ≠ 0 := by
  intro h0
  obtain ⟨l', q', g', hq', e⟩ := opened_built h0
  rw [file_bl q g.len, file_bl q' g'.len] at e
  have e2 : (m ++ bl (fileL l q)).data.toList = fileL l' q' := congrArg (fun x : ByteArray => x.data.toList) e
  rw [ByteArray.data_append, Array.toList_append] at e2
  have e3 : m.data.toList ++ fileL l q = fileL l' q' := e2
  exact hm (data_inj (file_more g g' hq hq' e3))

set_option maxRecDepth 100000 in
set_option maxHeartbeats 8000000 in
theorem tcut_walk (w : World) (a : Option Addr) (la ca : Nat) (l : List Cel) (x : Int) (m : ByteArray) (hl : CelsAt w a la l) (hn : la ≤ maxLen ∧ la ≤ ca ∧ ca ≤ maxLen) (hx0 : 0 ≤ x) (hx1 : x ≤ 65535) (_hm : m.size ≤ 9223372036854775807) (hm : MaxAt w) (ht : TabAt w) :
    Calls Tryd.prog 3 #[.slice a la ca, .int .u16 x, .string m] w fun e w' => e = .returned (.bool true) ∧ Fp [] w w' := by
  obtain ⟨x, rfl⟩ := Int.eq_ofNat_of_zero_le hx0
  obtain ⟨hn, hcap, hcm⟩ := hn
  have hm1 : la ≤ 9223372036854775807 := by unfold maxLen at hn; omega
  have HM := Lib.hid hm
  have HT := Lib.hid ht
  have HL := Lib.hid hl
  have HLN := Lib.hid hl.len
  have HSW := Lib.hid (fun w hm ht => shown5_any w hm ht)
  have HBO := Lib.hid (bounded5_any w a la ca l hl hm1)
  have hxx : x ≤ 65535 := by omega
  clear hl hm ht hx0 hx1
  by_cases hms : m.size > 100
  · have zr : (m.size : Int) > 100 := by omega
    go_enter Tryd.func3, Tryd.ntmps3
    go_wp2_with (fail)
    (with_reducible refine HBO.out.mono ?_)
    rintro e w1 ⟨⟨b1, rfl, hb⟩, hf1⟩
    have HF1 := Lib.hid hf1
    clear hf1 hb
    cases b1
    · go_wp2_with (fail)
      (with_reducible refine (HSW.out _ (HM.out.fp HF1.out (by simp)) (HT.out.fp HF1.out (by simp))).mono ?_)
      rintro e w2 ⟨rfl, hf2⟩
      have HF2 := Lib.hid (HF1.out.trans hf2 (by simp))
      clear hf2
      go_wp2_with (fail)
      go_ret
      exact ⟨rfl, HF2.out⟩
    · go_wp2_with (fail)
      (with_reducible refine (HSW.out _ (HM.out.fp HF1.out (by simp)) (HT.out.fp HF1.out (by simp))).mono ?_)
      rintro e w2 ⟨rfl, hf2⟩
      have HF2 := Lib.hid (HF1.out.trans hf2 (by simp))
      clear hf2
      go_wp2_with (fail)
      go_ret
      exact ⟨rfl, HF2.out⟩
  have zr : ¬ (m.size : Int) > 100 := by omega
  go_enter Tryd.func3, Tryd.ntmps3
  go_wp2_with (fail)
  (with_reducible refine HBO.out.mono ?_)
  rintro e w1 ⟨⟨b1, rfl, hb⟩, hf1⟩
  have HF1 := Lib.hid hf1
  clear hf1
  cases b1
  · clear hb
    go_wp2_with (fail)
    (with_reducible refine (HSW.out _ (HM.out.fp HF1.out (by simp)) (HT.out.fp HF1.out (by simp))).mono ?_)
    rintro e w2 ⟨rfl, hf2⟩
    have HF2 := Lib.hid (HF1.out.trans hf2 (by simp))
    clear hf2
    go_wp2_with (fail)
    go_ret
    exact ⟨rfl, HF2.out⟩
  have ha60 : la ≤ 60 := by rw [HLN.out]; exact hb rfl
  clear hb
  go_wp2_with (fail)
  (with_reducible refine (HSW.out _ (HM.out.fp HF1.out (by simp)) (HT.out.fp HF1.out (by simp))).mono ?_)
  rintro e w2 ⟨rfl, hf2⟩
  have HF2 := Lib.hid (HF1.out.trans hf2 (by simp))
  clear hf2
  rcases tbuild_two w2 a la ca l 3 (HL.out.fp HF2.out) hcap ha60 (by decide) (HM.out.fp HF2.out (by simp)) (HT.out.fp HF2.out (by simp)) with ⟨hg1, hc1⟩ | ⟨e1, z1, z1', hc1⟩
  · have HC1 : Hid (Calls Tryd.prog 10 #[.slice a la ca, .int .u64 3] w2 fun e w' => e = .returned (.tuple #[.string (fileB l 3), .int .i64 0]) ∧ Fp [] w2 w') := hc1
    have hpos : 0 < (fileB l 3).size := by rw [file_bl 3 hg1.len, bl_size, file_length]; omega
    have hsz : (fileB l 3).size ≤ 30000000 := by
      rw [file_bl 3 hg1.len, bl_size, file_length]
      have := blk_len hg1; have := idx_small hg1.len; have := bloom_small hg1.len
      omega
    have HCB := Lib.hid (fun k hk => cut_bad (q := 3) (k := k) hg1 hk)
    have HMB := Lib.hid (fun h => more_bad (q := 3) (m := m) hg1 (by decide) h)
    obtain ⟨fa, hfa⟩ : ∃ f, fileB l 3 = f := ⟨_, rfl⟩
    rw [hfa] at HC1 hpos hsz HCB HMB
    clear hfa hc1 hg1
    obtain ⟨k, hkd⟩ : ∃ k, x % fa.size = k := ⟨_, rfl⟩
    have hk : k < fa.size := by rw [← hkd]; exact Nat.mod_lt _ hpos
    obtain ⟨e1, he1, hop1⟩ := HCB.out k hk
    have HOP1 : Hid (∀ w', Fp [] w w' → Calls Tryd.prog 11 #[.string (fa.extract 0 k)] w' fun e w2 => ∃ v, e = .returned (.tuple #[v, .int .i64 e1]) ∧ v = .pointer none ∧ Fp [] w' w2) := fun w' hf => by
      have h := topen_any w' (fa.extract 0 k) (by rw [ByteArray.size_extract]; omega) (HM.out.fp hf (by simp)) (HT.out.fp hf (by simp))
      rw [hop1] at h
      exact h
    have HOP2 : Hid (∀ w', Fp [] w w' → Calls Tryd.prog 11 #[.string (m ++ fa)] w' fun e w2 => ∃ v, e = .returned (.tuple #[v, .int .i64 ((openP (m ++ fa)).2 : Nat)]) ∧ OpenR w2 v (openP (m ++ fa)).1 ∧ Fp [] w' w2) := fun w' hf =>
      topen_any w' (m ++ fa) (by rw [ByteArray.size_append]; omega) (HM.out.fp hf (by simp)) (HT.out.fp hf (by simp))
    obtain ⟨⟨o2, e2⟩, hop2⟩ : ∃ o, openP (m ++ fa) = o := ⟨_, rfl⟩
    rw [hop2] at HOP2 HMB
    have hzk : Int.tmod (x : Int) (fa.size : Int) = (k : Int) := by rw [← hkd]; exact (Int.ofNat_tmod x fa.size)
    have zs : ((fa.size : Int) == 0) = false := by rw [beq_eq_false_iff_ne]; omega
    have zk : (k : Int) ≤ (fa.size : Int) := by omega
    have ze1 : ((e1 : Int) == 0) = false := by rw [beq_eq_false_iff_ne]; omega
    have n1 : IntKind.i64.wrap (x : Int) = (x : Int) := by rw [IntKind.wrap_i64]; omega
    have n2 : IntKind.i64.wrap (k : Int) = (k : Int) := by rw [IntKind.wrap_i64]; omega
    clear HCB hop1 hop2 hkd he1
    go_wp2_with (fail)
    (with_reducible refine HC1.out.mono ?_)
    rintro e w3 ⟨rfl, hf3⟩
    have HF3 := Lib.hid (HF2.out.trans hf3 (by simp))
    clear hf3 HC1
    go_wp2_with (fail)
    (with_reducible refine (HOP1.out _ HF3.out).mono ?_)
    rintro e w4 ⟨v, rfl, rfl, hf4⟩
    have HF4 := Lib.hid (HF3.out.trans hf4 (by simp))
    clear hf4
    go_wp2_with (fail)
    (with_reducible refine (HOP2.out _ HF4.out).mono ?_)
    rintro e w5 ⟨v, rfl, hor, hf5⟩
    have HF5 := Lib.hid (HF4.out.trans hf5 (by simp))
    clear hf5 hor
    by_cases he2 : e2 = 0
    · have hme : m = ⟨#[]⟩ := Classical.byContradiction fun h => HMB.out h he2
      subst he2
      subst hme
      go_wp2_with (fail)
      go_ret
      exact ⟨rfl, HF5.out⟩
    · have ze2 : ((e2 : Int) != 0) = true := by rw [bne_iff_ne]; omega
      go_wp2_with (fail)
      go_ret
      exact ⟨rfl, HF5.out⟩
  · have HC1 : Hid (Calls Tryd.prog 10 #[.slice a la ca, .int .u64 3] w2 fun e w' => e = .returned (.tuple #[.string ⟨#[]⟩, .int .i64 e1]) ∧ Fp [] w2 w') := hc1
    clear hc1
    go_wp2_with (fail)
    (with_reducible refine HC1.out.mono ?_)
    rintro e w3 ⟨rfl, hf3⟩
    have HF3 := Lib.hid (HF2.out.trans hf3 (by simp))
    clear hf3 HC1
    go_wp2_with (fail)
    go_ret
    exact ⟨rfl, HF3.out⟩
end Go.Proofs.YtjnapcfclejknaaDoor
