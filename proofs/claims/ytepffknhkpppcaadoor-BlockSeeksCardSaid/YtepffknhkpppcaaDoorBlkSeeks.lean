/-
  BlockSeeks: the walk.
-/
import Derived.Test.YtepffknhkpppcaaDoorBlkL
namespace Go.Proofs.YtepffknhkpppcaaDoor
open Go.RowKit Go.Lib

theorem cb_after : ∀ (a b : List UInt8), compareBytes a b = -1 → compareBytes b (a ++ [0]) ≠ -1
  | [], [], h => by cases h
  | [], y :: b, _ => by
    intro h
    have h0 : ¬ y < 0 := by intro e; exact absurd (UInt8.lt_iff_toNat_lt.1 e) (Nat.not_lt_zero _)
    rw [List.nil_append] at h
    unfold compareBytes at h
    rw [if_neg h0] at h
    split at h
    · cases h
    · cases b <;> simp [compareBytes] at h
  | x :: a, [], h => by simp [compareBytes] at h
  | x :: a, y :: b, h => by
    rw [List.cons_append]
    by_cases e1 : x < y
    · rw [cb_cons_gt e1]; decide
    · by_cases e2 : y < x
      · rw [cb_cons_gt e2] at h; cases h
      · have e3 : x = y := by
          apply UInt8.toNat_inj.1
          have h1 := mt UInt8.lt_iff_toNat_lt.2 e1
          have h2 := mt UInt8.lt_iff_toNat_lt.2 e2
          omega
        subst e3
        rw [cb_cons_same] at h ⊢
        exact cb_after a b h
theorem cb_more : ∀ (a : List UInt8), compareBytes a (a ++ [0]) = -1
  | [] => rfl
  | x :: a => by rw [List.cons_append, cb_cons_same]; exact cb_more a
theorem cb_none (a : List UInt8) : compareBytes a [] ≠ -1 := by cases a <;> simp [compareBytes]

section
variable {l : List Cel} {k : Nat}
theorem less_keys {key : ByteArray} (hm : l.all mayB = true) {i : Nat} (hi : i < l.length) : lessK l key i = decide (compareBytes (keyL l[i]) key.data.toList = -1) := by
  rw [less_at hi (List.all_eq_true.1 hm _ (List.getElem_mem hi)), ByteArray.toList_eq]
theorem keyB_bl (hm : l.all mayB = true) (hk : k < l.length) : keyB l[k] = bl (keyL l[k]) := by
  unfold keyB; rw [if_pos (List.all_eq_true.1 hm _ (List.getElem_mem hk))]; rfl
theorem count_at (hok : ∀ c ∈ l, CelOK c) (hm : l.all mayB = true) (hr : risC l = true) (hk : k < l.length) : countK l (keyB l[k]) = k := by
  symm
  refine count_is hok hm hr (by omega) (fun h => ?_) (fun h => ?_)
  · rw [less_keys hm hk, keyB_bl hm hk, bl_toList, cb_refl]; rfl
  · rw [less_keys hm (by omega), keyB_bl hm hk, bl_toList, sorted_at hok hr k hk (k - 1) (by omega)]; rfl
theorem count_more (hok : ∀ c ∈ l, CelOK c) (hm : l.all mayB = true) (hr : risC l = true) (hk : k < l.length) : countK l (keyB l[k] ++ ⟨#[0]⟩) = k + 1 := by
  have e : keyB l[k] ++ ⟨#[0]⟩ = bl (keyL l[k] ++ [0]) := by rw [keyB_bl hm hk, ← bl_append]; rfl
  rw [e]
  symm
  refine count_is hok hm hr (by omega) (fun h => ?_) (fun h => ?_)
  · rw [less_keys hm h, bl_toList, decide_eq_false (cb_after _ _ (sorted_at hok hr (k + 1) h k (by omega)))]; rfl
  · simp only [Nat.add_sub_cancel]
    rw [less_keys hm hk, bl_toList, cb_more]; rfl
theorem count_none (hok : ∀ c ∈ l, CelOK c) (hm : l.all mayB = true) (hr : risC l = true) : countK l ⟨#[]⟩ = 0 := by
  symm
  refine count_is hok hm hr (Nat.zero_le _) (fun h => ?_) (fun h => absurd h (Nat.lt_irrefl _))
  rw [less_keys hm h, decide_eq_false (cb_none _)]; rfl
end

set_option maxRecDepth 100000 in
set_option maxHeartbeats 4000000 in
theorem seeks_walk (w : World) (a : Option Addr) (len cap : Nat) (l : List Cel) (z : Int) (hl : CelsAt w a len l) (hn : len ≤ maxLen) (hz0 : 0 ≤ z) (hz1 : z ≤ 255) (hm : MaxAt w) :
    Calls Tryd.prog 8 #[.slice a len cap, .int .u8 z] w fun e w' => e = .returned (.bool true) ∧ Fp [] w w' := by
  obtain ⟨x, rfl⟩ : ∃ x : Nat, z = x := ⟨z.toNat, by omega⟩
  have hn2 : len ≤ 9223372036854775807 := by unfold maxLen at hn; omega
  have HM := Lib.hid hm
  have HL := Lib.hid hl
  have HLN := Lib.hid hl.len
  have HSW := Lib.hid (fun w hm => shown4_any w hm)
  have HBO := Lib.hid (bounded4_any w a len cap l hl hn2)
  have HB1 := Lib.hid (fun w hl hm => build_any w a len cap l hl hn2 hm)
  have hbs := built_size (l := l)
  have hbo := build_ok (l := l)
  have hbk := parse_built (l := l) hl.ok
  obtain ⟨⟨bs, be⟩, hb⟩ : ∃ t, buildP l = t := ⟨_, rfl⟩
  rw [hb] at HB1 hbs hbo hbk
  simp only at hbs hbo hbk
  have HBO2 := Lib.hid hbo
  have HBK := Lib.hid hbk
  clear hb hm hl hn hbo hbk
  go_enter Tryd.func8, Tryd.ntmps8
  go_wp2_with (fail)
  (with_reducible refine HBO.out.mono ?_)
  rintro e w1 ⟨⟨b, rfl⟩, hf1⟩
  have HF1 := Lib.hid hf1
  clear hf1
  cases b
  · go_wp2_with (fail)
    (with_reducible refine (HSW.out _ (HM.out.fp HF1.out (by simp))).mono ?_)
    rintro e w2 ⟨rfl, hf⟩
    go_wp2_with (fail)
    go_ret
    exact ⟨rfl, HF1.out.trans hf (by simp)⟩
  · go_wp2_with (fail)
    (with_reducible refine (HSW.out _ (HM.out.fp HF1.out (by simp))).mono ?_)
    rintro e w2 ⟨rfl, hf2⟩
    have HF2 := Lib.hid (HF1.out.trans hf2 (by simp))
    clear hf2
    go_wp2_with (fail)
    (with_reducible refine (HB1.out _ (HL.out.fp HF2.out) (HM.out.fp HF2.out (by simp))).mono ?_)
    rintro e w3 ⟨rfl, hf3⟩
    have HF3 := Lib.hid (HF2.out.trans hf3 (by simp))
    clear hf3 HB1
    by_cases h0 : be = 0
    · subst h0
      by_cases hl0 : len = 0
      · subst hl0
        have hl1 : l = [] := List.eq_nil_of_length_eq_zero HLN.out.symm
        subst hl1
        have hb2 : bs = ⟨#[0]⟩ := (HBO2.out rfl).2.2.2
        subst hb2
        clear hbs
        go_wp2_with (fail)
        go_ret
        exact ⟨rfl, HF3.out⟩
      · have y0 : ((len : Int) == 0) = false := by rw [beq_eq_false_iff_ne]; omega
        obtain ⟨k, hk⟩ : ∃ k, x % len = k := ⟨_, rfl⟩
        have hkl : k < len := by rw [← hk]; exact Nat.mod_lt _ (by omega)
        have e1 : (x : Int) % (len : Int) = (k : Int) := by rw [← hk]; rfl
        have hkl2 : k < l.length := by rw [← HLN.out]; exact hkl
        have g1 := (HBO2.out rfl).1
        have g2 := (HBO2.out rfl).2.1
        have g3 := (HBO2.out rfl).2.2.1
        have hok := HL.out.ok
        have hp := HBK.out rfl
        have c1 := count_at hok g2 g3 hkl2
        have c2 := count_more hok g2 g3 hkl2
        have c3 := count_none hok g2 g3
        have S0 := fun (key : ByteArray) w hm => seek_any w bs key (by omega) hm
        simp only [code_some hp, show ∀ key, seekN bs key = countK l key from fun key => by unfold seekN; rw [hp]] at S0
        have HS0 := Lib.hid S0
        obtain ⟨b1, o1, rfl, hb1, hcells⟩ := cels_get HL.out hkl2
        obtain ⟨c, hc⟩ : ∃ c, l[k] = c := ⟨_, rfl⟩
        have hoc : CelOK c := by rw [← hc]; exact hok _ (List.getElem_mem hkl2)
        have hkb : (keyB c).size ≤ 180 := by
          rw [← hc, keyB_bl g2 hkl2, bl_size]
          exact key_short (List.all_eq_true.1 g2 _ (List.getElem_mem hkl2))
        rw [hc] at c1 c2 hcells
        obtain ⟨kb, hkk⟩ : ∃ kb, keyB c = kb := ⟨_, rfl⟩
        have HMK := Lib.hid (fun w hm => key_all c w hoc hm)
        rw [hkk] at c1 c2 hkb HMK
        have HC1 := Lib.hid c1
        have HC2 := Lib.hid c2
        have HC3 := Lib.hid c3
        have HCE := Lib.hid hcells
        have zc : ¬ kb.size + 1 > 9223372036854775807 := by omega
        have hk255 : k ≤ 255 := by omega
        clear hk hc hkk hoc c1 c2 c3 hcells hok hp S0 g1 g2 g3 HBK HBO2
        obtain ⟨row, col, ts, seq, del, val⟩ := c
        rw [show cellV (⟨row, col, ts, seq, del, val⟩ : Cel) = .agg #[.string row, .string col, .int .u64 ts, .int .u64 seq, .bool del, .string val] from rfl] at HMK
        obtain ⟨k0, k1, k2, k3, k4, k5⟩ := HCE.out _ HF3.out
        go_wp2_with (fail)
        (with_reducible refine (HMK.out _ (HM.out.fp HF3.out (by simp))).mono ?_)
        rintro e w4 ⟨rfl, hf4⟩
        have HF4 := Lib.hid (HF3.out.trans hf4 (by simp))
        clear hf4 k0 k1 k2 k3 k4 k5
        go_wp2_with (fail)
        (with_reducible refine (HS0.out _ _ (HM.out.fp HF4.out (by simp))).mono ?_)
        rintro e w5 ⟨rfl, hf5⟩
        have HF5 := Lib.hid (HF4.out.trans hf5 (by simp))
        clear hf5
        rw [HC1.out]
        obtain ⟨k0, k1, k2, k3, k4, k5⟩ := HCE.out _ HF5.out
        go_wp2_with (fail)
        (with_reducible refine (HMK.out _ (HM.out.fp HF5.out (by simp))).mono ?_)
        rintro e w6 ⟨rfl, hf6⟩
        have HF6 := Lib.hid (HF5.out.trans hf6 (by simp))
        clear hf6 k0 k1 k2 k3 k4 k5
        go_wp2_with (fail)
        (with_reducible refine (HS0.out _ _ (HM.out.fp HF6.out (by simp))).mono ?_)
        rintro e w7 ⟨rfl, hf7⟩
        have HF7 := Lib.hid (HF6.out.trans hf7 (by simp))
        clear hf7
        rw [HC2.out]
        go_wp2_with (fail)
        (with_reducible refine (HS0.out _ _ (HM.out.fp HF7.out (by simp))).mono ?_)
        rintro e w8 ⟨rfl, hf8⟩
        rw [HC3.out]
        have n1 : wrap64 ((k : Int) + 1) = (k : Int) + 1 := by unfold wrap64; omega
        go_wp2_with (fail)
        go_ret
        exact ⟨rfl, HF7.out.trans hf8 (by simp)⟩
    · have z0 : ¬ (be : Int) = 0 := by omega
      clear HBK HBO2 hbs
      go_wp2_with (fail)
      go_ret
      exact ⟨rfl, HF3.out⟩
end Go.Proofs.YtepffknhkpppcaaDoor
