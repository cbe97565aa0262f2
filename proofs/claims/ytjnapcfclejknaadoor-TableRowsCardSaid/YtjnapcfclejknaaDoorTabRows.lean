/-
  TableRows: the walk.
-/
import Derived.Test.YtjnapcfclejknaaDoorTabApart
import Derived.Test.YtjnapcfclejknaaDoorTabRRows
namespace Go.Proofs.YtjnapcfclejknaaDoor
open Go.RowKit

theorem flat_take_le (rs : List ByteArray) (f : ByteArray → List Cel) (k : Nat) : ((rs.take k).flatMap f).length ≤ (rs.flatMap f).length := by
  conv => rhs; rw [← List.take_append_drop k rs]
  rw [List.flatMap_append, List.length_append]
  omega
theorem rowL_le (l : List Cel) (r : ByteArray) : (rowL l r).length ≤ l.length := List.length_filter_le _ _
theorem rowL_ok {l : List Cel} (h : ∀ c ∈ l, CelOK c) (r : ByteArray) : ∀ c ∈ rowL l r, CelOK c := fun c hc => h c (List.mem_filter.1 hc).1
theorem row_small {l : List Cel} (g : GoodT l) {r : ByteArray} (hr : r ∈ rowsP l) : r.size ≤ 100000000 := by
  obtain ⟨c, hc, rfl⟩ := rows_mem hr
  have := (may_sizes (errK_may g.err c hc)).1
  omega
/-- a file's row, of sequence 0 -/
theorem row_zero {l : List Cel} (g : GoodT l) (w : World) (bt : Nat) (r : ByteArray) (hf : FileAt w bt (openedP l 0)) (hr : r ∈ rowsP l) (ht : TabAt w) :
    Calls Tryd.prog 15 #[.pointer (some ⟨bt, 0, none⟩), .string r] w fun e w' => ∃ v', e = .returned v' ∧ OwnC w' w.heap.size v' (rowL l r) ∧ Fp [] w w' := by
  have hs := bloom_small g.len
  have h := trow_any w bt (openedP l 0) r hf (by show l.length ≤ _; have := g.len; omega) (by show 0 < _; decide) (by show (bloomP (rowsP l)).size ≤ _; omega) (row_small g hr) ht
  rw [show rowT (openedP l 0).l (openedP l 0).fil r (openedP l 0).f.seq = rowL l r from row_good g r 0] at h
  exact h
theorem looks_one {l : List Cel} (g : GoodT l) {r : ByteArray} (hr : r ∈ rowsP l) : ∃ n : Nat, 0 < n ∧ ∀ (q : Nat) (w : World) (bt : Nat), FileAt w bt (openedP l q) → TabAt w →
    Calls Tryd.prog 14 #[.pointer (some ⟨bt, 0, none⟩), .string r] w fun e w' => e = .returned (.int .i64 n) ∧ Fp [] w w' := by
  have hs := bloom_small g.len
  refine ⟨(nearI l (bloomP (rowsP l)) r).length, near_some g.ris hr, fun q w bt hf ht => ?_⟩
  exact tlooks_any w bt (openedP l q) r hf (by show l.length ≤ _; have := g.len; omega) (by show (bloomP (rowsP l)).size ≤ _; omega) (row_small g hr) ht

set_option maxRecDepth 100000 in
set_option maxHeartbeats 8000000 in
theorem trows_walk (w : World) (a : Option Addr) (la ca : Nat) (l : List Cel) (hl : CelsAt w a la l) (hn : la ≤ maxLen ∧ la ≤ ca ∧ ca ≤ maxLen) (hm : MaxAt w) (ht : TabAt w) :
    Calls Tryd.prog 5 #[.slice a la ca] w fun e w' => e = .returned (.bool true) ∧ Fp [] w w' := by
  obtain ⟨hn, hcap, hcm⟩ := hn
  have hm1 : la ≤ 9223372036854775807 := by unfold maxLen at hn; omega
  have HM := Lib.hid hm
  have HT := Lib.hid ht
  have HL := Lib.hid hl
  have HLN := Lib.hid hl.len
  have HSW := Lib.hid (fun w hm ht => shown5_any w hm ht)
  have HBO := Lib.hid (bounded5_any w a la ca l hl hm1)
  clear hl hm ht
  go_enter Tryd.func5, Tryd.ntmps5
  go_wp2_with (fail)
  (with_reducible refine HBO.out.mono ?_)
  rintro e w1 ⟨⟨b1, rfl, hb⟩, hf1⟩
  have HF1 := Lib.hid hf1
  clear hf1
  cases b1
  · clear hb
    go_wp2_with (fail)
    (with_reducible refine (HSW.out _ (HM.out.fp HF1.out (by simp)) (HT.out.fp HF1.out (by simp))).mono ?_)
    rintro e w2 ⟨rfl, hf2⟩
    have HF2 := Lib.hid (HF1.out.trans hf2 (by simp))
    clear hf2
    go_wp2_with (fail)
    go_ret
    exact ⟨rfl, HF2.out⟩
  have ha60 : la ≤ 60 := by rw [HLN.out]; exact hb rfl
  clear hb
  go_wp2_with (fail)
  (with_reducible refine (HSW.out _ (HM.out.fp HF1.out (by simp)) (HT.out.fp HF1.out (by simp))).mono ?_)
  rintro e w2 ⟨rfl, hf2⟩
  have HF2 := Lib.hid (HF1.out.trans hf2 (by simp))
  clear hf2
  rcases tbuild_two w2 a la ca l 0 (HL.out.fp HF2.out) hcap ha60 (by decide) (HM.out.fp HF2.out (by simp)) (HT.out.fp HF2.out (by simp)) with ⟨hg1, hc1⟩ | ⟨e1, z1, z1', hc1⟩
  · have HC1 : Hid (Calls Tryd.prog 10 #[.slice a la ca, .int .u64 0] w2 fun e w' => e = .returned (.tuple #[.string (fileB l 0), .int .i64 0]) ∧ Fp [] w2 w') := hc1
    have HG := Lib.hid hg1
    have HOP := Lib.hid (fun w hm ht => open_any (l := l) (seq := 0) w HL.out.ok hg1 (by decide) hm ht)
    obtain ⟨fa, hfa⟩ : ∃ f, fileB l 0 = f := ⟨_, rfl⟩
    rw [hfa] at HC1 HOP
    clear hfa hc1 hg1
    go_wp2_with (fail)
    (with_reducible refine HC1.out.mono ?_)
    rintro e w3 ⟨rfl, hf3⟩
    have HF3 := Lib.hid (HF2.out.trans hf3 (by simp))
    clear hf3 HC1
    go_wp2_with (fail)
    (with_reducible refine (HOP.out _ (HM.out.fp HF3.out (by simp)) (HT.out.fp HF3.out (by simp))).mono ?_)
    rintro e w4 ⟨⟨bt, rfl, hfa⟩, hf4⟩
    have HF4 := Lib.hid (HF3.out.trans hf4 (by simp))
    have HFA := Lib.hid hfa
    have HRR := Lib.hid (rrows_any w4 a la ca l (HL.out.fp HF4.out) (by omega))
    clear hf4 hfa
    go_wp2_with (fail)
    (with_reducible refine HRR.out.mono ?_)
    rintro e w5 ⟨v5, rfl, ho5, hf5⟩
    obtain ⟨⟨a5, c5, rfl⟩, hrows⟩ := ho5.at
    have HROWS := Lib.hid hrows
    have HF5 := Lib.hid (HF4.out.trans hf5 (by simp))
    have HFA5 := Lib.hid (HFA.out.fp hf5)
    obtain ⟨n, hnr⟩ : ∃ n, (rowsP l).length = n := ⟨_, rfl⟩
    have hn60 : n ≤ 60 := by rw [← hnr]; have := rows_len l; have := HLN.out; omega
    rw [hnr]
    have HNR := Lib.hid hnr
    clear ho5 hf5 hrows HRR hnr
    go_wp2_with (fail)
    go_loopg [8, 9] n (fun g va vi wr => ∃ (k : Nat) (v : Value), g + k = n ∧ v = va ∧ vi = .int .i64 k ∧ OwnC wr w5.heap.size v (((rowsP l).take k).flatMap (rowL l)) ∧ Fp [] w5 wr)
    case atStart => exact ⟨0, _, by omega, rfl, rfl, OwnC.made w5 _ (Nat.le_refl _), Fp.alloc _ _⟩
    case round =>
      obtain ⟨k, va, hg, rfl, rfl, ho, hf⟩ := hrel
      obtain ⟨L, hL⟩ : ∃ L, ((rowsP l).take k).flatMap (rowL l) = L := ⟨_, rfl⟩
      rw [hL] at ho
      have HLL := Lib.hid hL
      clear hL
      obtain ⟨aa, ac, rfl⟩ := ho.len
      have HF := Lib.hid hf
      have HO := Lib.hid ho
      have HFAr := Lib.hid (HFA5.out.fp hf)
      have HF5r := Lib.hid (HF5.out.trans hf (by simp))
      clear hf ho
      by_cases hk : k < n
      · have hkr : k < (rowsP l).length := by rw [HNR.out]; exact hk
        obtain ⟨r, hr⟩ : ∃ r, (rowsP l)[k] = r := ⟨_, rfl⟩
        have hrm : r ∈ rowsP l := by rw [← hr]; exact List.getElem_mem hkr
        obtain ⟨g5, rfl, hg5⟩ : ∃ g5, a5 = some ⟨g5, 0, none⟩ ∧ ∀ w', Fp [] w5 w' → w'.cell? ⟨g5, k, none⟩ = some (.string r) := by
          rcases HROWS.out with h0 | ⟨g5, cap5, h1, h2, h3, h4⟩
          · rw [h0] at hkr; exact absurd hkr (Nat.not_lt_zero _)
          · cases h1
            refine ⟨g5, rfl, fun w' hf => ?_⟩
            have h5 := h4 k hkr
            rw [hr] at h5
            exact (hf.cell h3 (by simp)).trans h5
        have q0 := hg5 wr HF.out
        have HQ := Lib.hid hg5
        have HST := Lib.hid (show ((rowsP l).take (k + 1)).flatMap (rowL l) = L ++ rowL l r by
          rw [List.take_succ_eq_append_getElem hkr, List.flatMap_append, hr, HLL.out]; simp only [List.flatMap_cons, List.flatMap_nil, List.append_nil])
        have hlen1 := flat_take_le (rowsP l) (rowL l) k
        rw [rows_flat HG.out.ris, ← HLN.out, HLL.out] at hlen1
        have hlen2 := rowL_le l r
        rw [← HLN.out] at hlen2
        have HL1 := Lib.hid hlen1
        have HL2 := Lib.hid hlen2
        have HOKR := Lib.hid (rowL_ok HL.out.ok r)
        obtain ⟨nl, hnl, hlk⟩ := looks_one HG.out hrm
        have HLK := Lib.hid (hlk 0 wr bt HFAr.out (HT.out.fp HF5r.out (by simp)))
        have HRO := Lib.hid (fun w hf ht => row_zero HG.out w bt r hf hrm ht)
        have znl : ¬ (nl : Int) < 1 := by omega
        have zk : (k : Int) < (n : Int) := by omega
        clear hg5 hlen1 hlen2 hlk hr hrm hkr hnl
        go_wp2_with (fail)
        (with_reducible refine HLK.out.mono ?_)
        rintro e w6 ⟨rfl, hf6⟩
        have HF6 := Lib.hid (HF.out.trans hf6 (by simp))
        have HFA6 := Lib.hid (HFAr.out.fp hf6)
        have q6 := HQ.out w6 HF6.out
        have HO6 := Lib.hid (HO.out.fp hf6 (by simp))
        clear hf6 q0
        go_wp2_with (fail)
        (with_reducible refine (HRO.out _ HFA6.out (HT.out.fp (HF5.out.trans HF6.out (by simp)) (by simp))).mono ?_)
        rintro e w7 ⟨v7, rfl, ho7, hf7⟩
        obtain ⟨a7, c7, rfl, hn7, hat7⟩ := ho7.at2 HOKR.out
        have HF7 := Lib.hid (HF6.out.trans hf7 (by simp))
        have HAT7 := Lib.hid hat7
        have HN7 := Lib.hid hn7
        have HO7 := Lib.hid (HO6.out.fp hf7 (by simp))
        have hw57 : w5.heap.size ≤ w7.heap.size := HF7.out.size
        clear ho7 hf7 hat7 hn7 q6
        go_wp2_with (at_builtin; refine wpList_append_cels rfl _ _ rfl w5.heap.size _ _ rfl HO7.out _ _ _ (rowL l r) rfl HAT7.out HN7.out (by have := HL1.out; have := HL2.out; omega) hw57 ?_; intro v8 w8 ho8 hb8; have HO8 := Lib.hid ho8; have HF8 := Lib.hid (HF7.out.belowTrans hb8); clear ho8 hb8)
        go_wp2_with (fail)
        go_roundg (gk - 1)
        case measure => omega
        case rel => exact ⟨k + 1, _, by omega, rfl, by simp, by rw [HST.out]; exact HO8.out, HF8.out⟩
      · obtain rfl : k = n := by omega
        have zk : ¬ (k : Int) < (k : Int) := by omega
        have hall : L = l := by
          rw [← HLL.out, List.take_of_length_le (by rw [HNR.out]; exact Nat.le_refl _)]
          exact rows_flat HG.out.ris
        subst hall
        obtain ⟨a9, c9, he9, hn9, hat9⟩ := HO.out.at3 HL.out.ok
        cases he9
        have HSC := Lib.hid (sames_any wr aa a L.length ac la ca L L hat9 (HL.out.fp HF5r.out) (by rw [← HLN.out]; exact hm1) true (fun _ => rfl) (fun h => absurd rfl h))
        clear hn9 hat9
        go_wp2_with (fail)
        (with_reducible refine HSC.out.mono ?_)
        rintro e w6 ⟨rfl, hf6⟩
        have HF6 := Lib.hid (HF5r.out.trans hf6 (by simp))
        clear hf6
        go_wp2_with (fail)
        go_ret
        exact ⟨rfl, HF6.out⟩
  · have HC1 : Hid (Calls Tryd.prog 10 #[.slice a la ca, .int .u64 0] w2 fun e w' => e = .returned (.tuple #[.string ⟨#[]⟩, .int .i64 e1]) ∧ Fp [] w2 w') := hc1
    clear hc1
    go_wp2_with (fail)
    (with_reducible refine HC1.out.mono ?_)
    rintro e w3 ⟨rfl, hf3⟩
    have HF3 := Lib.hid (HF2.out.trans hf3 (by simp))
    clear hf3 HC1
    go_wp2_with (fail)
    go_ret
    exact ⟨rfl, HF3.out⟩
end Go.Proofs.YtjnapcfclejknaaDoor
