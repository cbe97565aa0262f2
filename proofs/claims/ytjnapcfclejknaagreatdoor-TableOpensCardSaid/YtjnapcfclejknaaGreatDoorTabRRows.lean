/-
  The reference's Rows.
-/
import Derived.Test.YtjnapcfclejknaaGreatDoorTabG
namespace Go.Proofs.YtjnapcfclejknaaGreatDoor
open Go.RowKit

theorem cels_get' {w : World} {a : Option Addr} {n : Nat} {l : List Cel} (h : CelsAt w a n l) {k : Nat} (hk : k < l.length) : ∃ b o, a = some ⟨b, o, none⟩ ∧ ∀ w2, Fp [] w w2 → CelCells w2 b (o + k * 6) l[k] := by
  rcases h.cells with h | ⟨b1, o1, h1, h2, h3⟩
  · rw [h] at hk; exact absurd hk (Nat.not_lt_zero _)
  · exact ⟨b1, o1, h1, fun w2 hf => (h3 k hk).fp hf h2 List.not_mem_nil⟩
set_option maxRecDepth 100000 in
set_option maxHeartbeats 8000000 in
theorem rrows_any (w : World) (a : Option Addr) (len cap : Nat) (l : List Cel) (hl : CelsAt w a len l) (hn : len ≤ 1000000) :
    Calls Tryz.prog 36 #[.slice a len cap] w fun e w' => ∃ v, e = .returned v ∧ OwnS w' w.heap.size v (rowsP l) ∧ Fp [] w w' := by
  have HL := Lib.hid hl
  have HLEN := Lib.hid hl.len
  clear hl
  go_enter Tryz.func36, Tryz.ntmps36
  go_wp2_with (fail)
  go_loopg [3, 4] len (fun g va vi wr => ∃ (k : Nat) (v : Value), g + k = len ∧ v = va ∧ vi = .int .i64 k ∧ OwnS wr w.heap.size v (rowsUpTo l k) ∧ Fp [] w wr)
  case atStart => exact ⟨0, _, by omega, rfl, rfl, OwnS.made w _ (Nat.le_refl _), Fp.alloc _ _⟩
  case round =>
    obtain ⟨k, va, hg, rfl, rfl, ho, hf⟩ := hrel
    have HF := Lib.hid hf
    have HO := Lib.hid ho
    clear hf ho
    by_cases hk : k < len
    · have hkl : k < l.length := by rw [← HLEN.out]; exact hk
      have hsu := rowsUpTo_succ l k
      have hle := rowsUpTo_length l k
      have hgk : l.getD k zeroC = l[k] := by rw [List.getD_eq_getElem?_getD, List.getElem?_eq_getElem hkl]; rfl
      obtain ⟨b1, o1, rfl, hcells⟩ := cels_get' HL.out hkl
      obtain ⟨c, hc⟩ : ∃ c, l[k] = c := ⟨_, rfl⟩
      rw [hc] at hcells hgk
      rw [hgk] at hsu
      have HCE := Lib.hid hcells
      have hbw : w.heap.size ≤ wr.heap.size := HF.out.size
      have zk : (k : Int) < (len : Int) := by omega
      by_cases hk0 : k = 0
      · subst hk0
        rw [show ((0 : Nat) : Int) = 0 from rfl]
        have hke : rowKeep l 0 = true := by unfold rowKeep; exact decide_eq_true (Or.inl rfl)
        rw [hke, if_pos rfl] at hsu
        have HSU := Lib.hid hsu
        obtain ⟨rr, hrr⟩ : ∃ r, c.row = r := ⟨_, rfl⟩
        rw [hrr] at HSU
        have HRR := Lib.hid hrr
        clear hsu hke hgk hc hrr hcells hle
        go_wp2_with (fail)
        refine wp_region_calm (by kernel_rfl) (by kernel_rfl) ?_
        -- 0
        apply ex_plain rfl rfl rfl
        · intro a w hC hA K hK
          have h4 := hA.free 4 _ (by kernel_rfl) rfl
          simp only [Oper.wp, execOp]; go_simp
          exact hK _ hC (Fp.refl _ _)
        -- 1
        apply ex_plain rfl rfl rfl
        · intro a w hC hA K hK
          have h12 : a.tmps[12]?.getD undef = _ := hA.dep 0 12 _ (by kernel_rfl) rfl
          simp only [Oper.wp, execOp]; go_simp
          exact hK _ hC (Fp.refl _ _)
        -- 2
        apply ex_plain rfl rfl rfl
        · intro a w hC hA K hK
          have h13 : a.tmps[13]?.getD undef = _ := hA.dep 1 13 _ (by kernel_rfl) rfl
          simp only [Oper.wp, execOp]; go_simp
          exact hK _ hC (Fp.refl _ _)
        -- 3
        apply ex_no 2 14 rfl rfl rfl rfl (by kernel_rfl) rfl rfl
        -- 4
        apply ex_no 2 14 rfl rfl rfl rfl (by kernel_rfl) rfl rfl
        -- 5
        apply ex_no 2 14 rfl rfl rfl rfl (by kernel_rfl) rfl rfl
        -- 6
        apply ex_no 2 14 rfl rfl rfl rfl (by kernel_rfl) rfl rfl
        -- 7
        apply ex_no 2 14 rfl rfl rfl rfl (by kernel_rfl) rfl rfl
        -- 8
        apply ex_no 2 14 rfl rfl rfl rfl (by kernel_rfl) rfl rfl
        -- 9
        apply ex_no 2 14 rfl rfl rfl rfl (by kernel_rfl) rfl rfl
        -- 10
        apply ex_no 2 14 rfl rfl rfl rfl (by kernel_rfl) rfl rfl
        -- 11
        apply ex_no 2 14 rfl rfl rfl rfl (by kernel_rfl) rfl rfl
        -- 12
        apply ex_no 2 14 rfl rfl rfl rfl (by kernel_rfl) rfl rfl
        -- 13
        apply ex_no 2 14 rfl rfl rfl rfl (by kernel_rfl) rfl rfl
        -- 14
        apply ex_no 2 14 rfl rfl rfl rfl (by kernel_rfl) rfl rfl
        -- 15
        apply ex_plain rfl rfl rfl
        · intro a w hC hA K hK
          have h14 : a.tmps[14]?.getD undef = _ := hA.dep 2 14 _ (by kernel_rfl) rfl
          have h26 : a.tmps[26]?.getD undef = _ := hA.dep 14 26 _ (by kernel_rfl) rfl
          simp only [Oper.wp, execOp]; go_simp
          exact hK _ hC (Fp.refl _ _)
        refine ⟨?_, ?_⟩
        · repeat (first | exact trivial | refine stab_val _ ?_ | refine ⟨fun w1 w2 v _ hf ⟨g, h1, h2⟩ => ⟨g, h1, (hf.block g (heap_lt h2) (by simp)).trans h2⟩, ?_⟩)
        · intro w' hC
          simp only [List.reverse_cons, List.reverse_nil, List.nil_append, List.cons_append]
          iterate 16 (refine all_val ?_)
          refine all_nil ?_
          simp only [putAll, Act.put, List.setIfInBounds_toArray, List.set_cons_succ, List.set_cons_zero]
          have HF2 := Lib.hid (HF.out.trans hC (by simp))
          have HO2 := Lib.hid (HO.out.fp hC (by simp))
          obtain ⟨q0, q1, q2, q3, q4, q5⟩ := HCE.out _ HF2.out
          rw [HRR.out] at q0
          rw [show o1 + 0 * 6 = o1 by omega] at q0
          have hbw2 : w.heap.size ≤ w'.heap.size := HF2.out.size
          clear hC
          go_wp2_with (at_builtin; (refine wpList_append_one rfl _ _ rfl w.heap.size _ _ rfl (HO2.out.fp (Fp.alloc _ _) (by simp)) _ rr rfl (by rw [cell_of_block (heap_alloc_at (by simp) _)]; rfl) (by show 0 + 1 ≤ _; omega) (by simp; omega) ?_); intro v2 w2 ho2 hb2; have HO3 := Lib.hid ho2; have HB3 := Lib.hid hb2; clear ho2 hb2)
          go_roundg (gk - 1)
          case measure => omega
          case rel => exact ⟨0 + 1, _, by omega, rfl, by simp, by rw [HSU.out]; exact HO3.out, ((HF2.out.alloc' _)).belowTrans HB3.out⟩
      · have hkp : k - 1 < l.length := by omega
        obtain ⟨b2, o2, hb2e, hcellsp⟩ := cels_get' HL.out hkp
        obtain ⟨rfl, rfl⟩ : b1 = b2 ∧ o1 = o2 := by cases hb2e; exact ⟨rfl, rfl⟩
        have hgp : l.getD (k - 1) zeroC = l[k - 1] := by rw [List.getD_eq_getElem?_getD, List.getElem?_eq_getElem hkp]; rfl
        obtain ⟨p, hp⟩ : ∃ p, l[k - 1] = p := ⟨_, rfl⟩
        rw [hp] at hcellsp hgp
        have HCP := Lib.hid hcellsp
        have z0 : ((k : Int) == 0) = false := by rw [beq_eq_false_iff_ne]; omega
        have n1 : IntKind.i64.wrap ((k : Int) - 1) = ((k - 1 : Nat) : Int) := by rw [IntKind.wrap_i64]; omega
        have z1 : ((k - 1 : Nat) : Int) < (len : Int) := by omega
        obtain ⟨rr, hrr⟩ : ∃ r, c.row = r := ⟨_, rfl⟩
        obtain ⟨rp, hrp⟩ : ∃ r, p.row = r := ⟨_, rfl⟩
        have hkeep : rowKeep l k = decide (rr ≠ rp) := by
          unfold rowKeep
          rw [hgk, hgp, hrr, hrp]
          exact decide_eq_decide.2 ⟨fun h => h.resolve_left hk0, Or.inr⟩
        rw [hkeep, hrr] at hsu
        have HRR := Lib.hid hrr
        have HRP := Lib.hid hrp
        have HLE := Lib.hid hle
        obtain ⟨kp, hkpe⟩ : ∃ kp, k - 1 = kp := ⟨_, rfl⟩
        rw [hkpe] at HCP n1 z1
        by_cases hr : rr = rp
        · subst hr
          rw [decide_eq_false (by simp), if_neg (by decide), List.append_nil] at hsu
          have HSU := Lib.hid hsu
          clear hsu hkeep hrr hrp hgk hgp hc hp hcells hcellsp hle hb2e hkpe
          go_wp2_with (fail)
          refine wp_region_calm (by kernel_rfl) (by kernel_rfl) ?_
          -- 0
          apply ex_plain rfl rfl rfl
          · intro a w hC hA K hK
            have h4 := hA.free 4 _ (by kernel_rfl) rfl
            simp only [Oper.wp, execOp]; go_simp
            exact hK _ hC (Fp.refl _ _)
          -- 1
          apply ex_plain rfl rfl rfl
          · intro a w hC hA K hK
            have h12 : a.tmps[12]?.getD undef = _ := hA.dep 0 12 _ (by kernel_rfl) rfl
            simp only [Oper.wp, execOp]; go_simp
            exact hK _ hC (Fp.refl _ _)
          -- 2
          apply ex_plain rfl rfl rfl
          · intro a w hC hA K hK
            have h13 : a.tmps[13]?.getD undef = _ := hA.dep 1 13 _ (by kernel_rfl) rfl
            simp only [Oper.wp, execOp]; go_simp
            exact hK _ hC (Fp.refl _ _)
          -- 3
          apply ex_yes 2 14 rfl rfl rfl rfl (by kernel_rfl) rfl rfl
          · intro a w hC hA K hK
            have h0 := hA.free 0 _ (by kernel_rfl) rfl
            simp only [Oper.wp, execOp]; go_simp
            exact hK _ hC (Fp.refl _ _)
          -- 4
          apply ex_yes 2 14 rfl rfl rfl rfl (by kernel_rfl) rfl rfl
          · intro a w hC hA K hK
            have h4 := hA.free 4 _ (by kernel_rfl) rfl
            simp only [Oper.wp, execOp]; go_simp
            exact hK _ hC (Fp.refl _ _)
          -- 5
          apply ex_yes 2 14 rfl rfl rfl rfl (by kernel_rfl) rfl rfl
          · intro a w hC hA K hK
            have h15 : a.tmps[15]?.getD undef = _ := hA.dep 3 15 _ (by kernel_rfl) rfl
            have h16 : a.tmps[16]?.getD undef = _ := hA.dep 4 16 _ (by kernel_rfl) rfl
            obtain ⟨x0, x1, x2, x3, x4, x5⟩ := HCE.out _ (HF.out.trans hC (by simp))
            obtain ⟨y0, y1, y2, y3, y4, y5⟩ := HCP.out _ (HF.out.trans hC (by simp))
            rw [HRR.out] at x0
            rw [HRP.out] at y0
            simp only [Oper.wp, execOp]; go_simp
            exact hK _ hC (Fp.refl _ _)
          -- 6
          apply ex_yes 2 14 rfl rfl rfl rfl (by kernel_rfl) rfl rfl
          · intro a w hC hA K hK
            have h17 : a.tmps[17]?.getD undef = _ := hA.dep 5 17 _ (by kernel_rfl) rfl
            simp only [Oper.wp, execOp]; go_simp
            exact hK _ hC (Fp.refl _ _)
          -- 7
          apply ex_yes 2 14 rfl rfl rfl rfl (by kernel_rfl) rfl rfl
          · intro a w hC hA K hK
            have h18 : a.tmps[18]?.getD undef = _ := hA.dep 6 18 _ (by kernel_rfl) rfl
            obtain ⟨x0, x1, x2, x3, x4, x5⟩ := HCE.out _ (HF.out.trans hC (by simp))
            obtain ⟨y0, y1, y2, y3, y4, y5⟩ := HCP.out _ (HF.out.trans hC (by simp))
            rw [HRR.out] at x0
            rw [HRP.out] at y0
            simp only [Oper.wp, execOp]; go_simp
            exact hK _ hC (Fp.refl _ _)
          -- 8
          apply ex_yes 2 14 rfl rfl rfl rfl (by kernel_rfl) rfl rfl
          · intro a w hC hA K hK
            have h0 := hA.free 0 _ (by kernel_rfl) rfl
            simp only [Oper.wp, execOp]; go_simp
            exact hK _ hC (Fp.refl _ _)
          -- 9
          apply ex_yes 2 14 rfl rfl rfl rfl (by kernel_rfl) rfl rfl
          · intro a w hC hA K hK
            have h4 := hA.free 4 _ (by kernel_rfl) rfl
            simp only [Oper.wp, execOp]; go_simp
            exact hK _ hC (Fp.refl _ _)
          -- 10
          apply ex_yes 2 14 rfl rfl rfl rfl (by kernel_rfl) rfl rfl
          · intro a w hC hA K hK
            have h21 : a.tmps[21]?.getD undef = _ := hA.dep 9 21 _ (by kernel_rfl) rfl
            simp only [Oper.wp, execOp]; go_simp
            exact hK _ hC (Fp.refl _ _)
          -- 11
          apply ex_yes 2 14 rfl rfl rfl rfl (by kernel_rfl) rfl rfl
          · intro a w hC hA K hK
            have h20 : a.tmps[20]?.getD undef = _ := hA.dep 8 20 _ (by kernel_rfl) rfl
            have h22 : a.tmps[22]?.getD undef = _ := hA.dep 10 22 _ (by kernel_rfl) rfl
            obtain ⟨x0, x1, x2, x3, x4, x5⟩ := HCE.out _ (HF.out.trans hC (by simp))
            obtain ⟨y0, y1, y2, y3, y4, y5⟩ := HCP.out _ (HF.out.trans hC (by simp))
            rw [HRR.out] at x0
            rw [HRP.out] at y0
            simp only [Oper.wp, execOp]; go_simp
            exact hK _ hC (Fp.refl _ _)
          -- 12
          apply ex_yes 2 14 rfl rfl rfl rfl (by kernel_rfl) rfl rfl
          · intro a w hC hA K hK
            have h23 : a.tmps[23]?.getD undef = _ := hA.dep 11 23 _ (by kernel_rfl) rfl
            simp only [Oper.wp, execOp]; go_simp
            exact hK _ hC (Fp.refl _ _)
          -- 13
          apply ex_yes 2 14 rfl rfl rfl rfl (by kernel_rfl) rfl rfl
          · intro a w hC hA K hK
            have h24 : a.tmps[24]?.getD undef = _ := hA.dep 12 24 _ (by kernel_rfl) rfl
            obtain ⟨x0, x1, x2, x3, x4, x5⟩ := HCE.out _ (HF.out.trans hC (by simp))
            obtain ⟨y0, y1, y2, y3, y4, y5⟩ := HCP.out _ (HF.out.trans hC (by simp))
            rw [HRR.out] at x0
            rw [HRP.out] at y0
            simp only [Oper.wp, execOp]; go_simp
            exact hK _ hC (Fp.refl _ _)
          -- 14
          apply ex_yes 2 14 rfl rfl rfl rfl (by kernel_rfl) rfl rfl
          · intro a w hC hA K hK
            have h19 : a.tmps[19]?.getD undef = _ := hA.dep 7 19 _ (by kernel_rfl) rfl
            have h25 : a.tmps[25]?.getD undef = _ := hA.dep 13 25 _ (by kernel_rfl) rfl
            simp only [Oper.wp, execOp]; go_simp
            exact hK _ hC (Fp.refl _ _)
          -- 15
          apply ex_plain rfl rfl rfl
          · intro a w hC hA K hK
            have h14 : a.tmps[14]?.getD undef = _ := hA.dep 2 14 _ (by kernel_rfl) rfl
            have h26 : a.tmps[26]?.getD undef = _ := hA.dep 14 26 _ (by kernel_rfl) rfl
            simp only [Oper.wp, execOp]; go_simp
            exact hK _ hC (Fp.refl _ _)
          refine ⟨?_, ?_⟩
          · repeat (first | exact trivial | refine stab_val _ ?_ | refine ⟨fun w1 w2 v _ hf ⟨g, h1, h2⟩ => ⟨g, h1, (hf.block g (heap_lt h2) (by simp)).trans h2⟩, ?_⟩)
          · intro w' hC
            simp only [List.reverse_cons, List.reverse_nil, List.nil_append, List.cons_append]
            iterate 16 (refine all_val ?_)
            refine all_nil ?_
            simp only [putAll, Act.put, List.setIfInBounds_toArray, List.set_cons_succ, List.set_cons_zero]
            have HF2 := Lib.hid (HF.out.trans hC (by simp))
            have HO2 := Lib.hid (HO.out.fp hC (by simp))
            clear hC
            go_wp2_with (fail)
            go_roundg (gk - 1)
            case measure => omega
            case rel => exact ⟨k + 1, _, by omega, rfl, by simp, by rw [HSU.out]; exact HO2.out, HF2.out⟩
        · have hne : (rr.toList == rp.toList) = false := by
            rw [beq_eq_false_iff_ne]
            intro e
            rw [ByteArray.toList_eq, ByteArray.toList_eq] at e
            exact hr (data_inj e)
          rw [decide_eq_true hr, if_pos rfl] at hsu
          have HSU := Lib.hid hsu
          clear hsu hkeep hrr hrp hgk hgp hc hp hcells hcellsp hle hr hb2e hkpe
          go_wp2_with (fail)
          refine wp_region_calm (by kernel_rfl) (by kernel_rfl) ?_
          -- 0
          apply ex_plain rfl rfl rfl
          · intro a w hC hA K hK
            have h4 := hA.free 4 _ (by kernel_rfl) rfl
            simp only [Oper.wp, execOp]; go_simp
            exact hK _ hC (Fp.refl _ _)
          -- 1
          apply ex_plain rfl rfl rfl
          · intro a w hC hA K hK
            have h12 : a.tmps[12]?.getD undef = _ := hA.dep 0 12 _ (by kernel_rfl) rfl
            simp only [Oper.wp, execOp]; go_simp
            exact hK _ hC (Fp.refl _ _)
          -- 2
          apply ex_plain rfl rfl rfl
          · intro a w hC hA K hK
            have h13 : a.tmps[13]?.getD undef = _ := hA.dep 1 13 _ (by kernel_rfl) rfl
            simp only [Oper.wp, execOp]; go_simp
            exact hK _ hC (Fp.refl _ _)
          -- 3
          apply ex_yes 2 14 rfl rfl rfl rfl (by kernel_rfl) rfl rfl
          · intro a w hC hA K hK
            have h0 := hA.free 0 _ (by kernel_rfl) rfl
            simp only [Oper.wp, execOp]; go_simp
            exact hK _ hC (Fp.refl _ _)
          -- 4
          apply ex_yes 2 14 rfl rfl rfl rfl (by kernel_rfl) rfl rfl
          · intro a w hC hA K hK
            have h4 := hA.free 4 _ (by kernel_rfl) rfl
            simp only [Oper.wp, execOp]; go_simp
            exact hK _ hC (Fp.refl _ _)
          -- 5
          apply ex_yes 2 14 rfl rfl rfl rfl (by kernel_rfl) rfl rfl
          · intro a w hC hA K hK
            have h15 : a.tmps[15]?.getD undef = _ := hA.dep 3 15 _ (by kernel_rfl) rfl
            have h16 : a.tmps[16]?.getD undef = _ := hA.dep 4 16 _ (by kernel_rfl) rfl
            obtain ⟨x0, x1, x2, x3, x4, x5⟩ := HCE.out _ (HF.out.trans hC (by simp))
            obtain ⟨y0, y1, y2, y3, y4, y5⟩ := HCP.out _ (HF.out.trans hC (by simp))
            rw [HRR.out] at x0
            rw [HRP.out] at y0
            simp only [Oper.wp, execOp]; go_simp
            exact hK _ hC (Fp.refl _ _)
          -- 6
          apply ex_yes 2 14 rfl rfl rfl rfl (by kernel_rfl) rfl rfl
          · intro a w hC hA K hK
            have h17 : a.tmps[17]?.getD undef = _ := hA.dep 5 17 _ (by kernel_rfl) rfl
            simp only [Oper.wp, execOp]; go_simp
            exact hK _ hC (Fp.refl _ _)
          -- 7
          apply ex_yes 2 14 rfl rfl rfl rfl (by kernel_rfl) rfl rfl
          · intro a w hC hA K hK
            have h18 : a.tmps[18]?.getD undef = _ := hA.dep 6 18 _ (by kernel_rfl) rfl
            obtain ⟨x0, x1, x2, x3, x4, x5⟩ := HCE.out _ (HF.out.trans hC (by simp))
            obtain ⟨y0, y1, y2, y3, y4, y5⟩ := HCP.out _ (HF.out.trans hC (by simp))
            rw [HRR.out] at x0
            rw [HRP.out] at y0
            simp only [Oper.wp, execOp]; go_simp
            exact hK _ hC (Fp.refl _ _)
          -- 8
          apply ex_yes 2 14 rfl rfl rfl rfl (by kernel_rfl) rfl rfl
          · intro a w hC hA K hK
            have h0 := hA.free 0 _ (by kernel_rfl) rfl
            simp only [Oper.wp, execOp]; go_simp
            exact hK _ hC (Fp.refl _ _)
          -- 9
          apply ex_yes 2 14 rfl rfl rfl rfl (by kernel_rfl) rfl rfl
          · intro a w hC hA K hK
            have h4 := hA.free 4 _ (by kernel_rfl) rfl
            simp only [Oper.wp, execOp]; go_simp
            exact hK _ hC (Fp.refl _ _)
          -- 10
          apply ex_yes 2 14 rfl rfl rfl rfl (by kernel_rfl) rfl rfl
          · intro a w hC hA K hK
            have h21 : a.tmps[21]?.getD undef = _ := hA.dep 9 21 _ (by kernel_rfl) rfl
            simp only [Oper.wp, execOp]; go_simp
            exact hK _ hC (Fp.refl _ _)
          -- 11
          apply ex_yes 2 14 rfl rfl rfl rfl (by kernel_rfl) rfl rfl
          · intro a w hC hA K hK
            have h20 : a.tmps[20]?.getD undef = _ := hA.dep 8 20 _ (by kernel_rfl) rfl
            have h22 : a.tmps[22]?.getD undef = _ := hA.dep 10 22 _ (by kernel_rfl) rfl
            obtain ⟨x0, x1, x2, x3, x4, x5⟩ := HCE.out _ (HF.out.trans hC (by simp))
            obtain ⟨y0, y1, y2, y3, y4, y5⟩ := HCP.out _ (HF.out.trans hC (by simp))
            rw [HRR.out] at x0
            rw [HRP.out] at y0
            simp only [Oper.wp, execOp]; go_simp
            exact hK _ hC (Fp.refl _ _)
          -- 12
          apply ex_yes 2 14 rfl rfl rfl rfl (by kernel_rfl) rfl rfl
          · intro a w hC hA K hK
            have h23 : a.tmps[23]?.getD undef = _ := hA.dep 11 23 _ (by kernel_rfl) rfl
            simp only [Oper.wp, execOp]; go_simp
            exact hK _ hC (Fp.refl _ _)
          -- 13
          apply ex_yes 2 14 rfl rfl rfl rfl (by kernel_rfl) rfl rfl
          · intro a w hC hA K hK
            have h24 : a.tmps[24]?.getD undef = _ := hA.dep 12 24 _ (by kernel_rfl) rfl
            obtain ⟨x0, x1, x2, x3, x4, x5⟩ := HCE.out _ (HF.out.trans hC (by simp))
            obtain ⟨y0, y1, y2, y3, y4, y5⟩ := HCP.out _ (HF.out.trans hC (by simp))
            rw [HRR.out] at x0
            rw [HRP.out] at y0
            simp only [Oper.wp, execOp]; go_simp
            exact hK _ hC (Fp.refl _ _)
          -- 14
          apply ex_yes 2 14 rfl rfl rfl rfl (by kernel_rfl) rfl rfl
          · intro a w hC hA K hK
            have h19 : a.tmps[19]?.getD undef = _ := hA.dep 7 19 _ (by kernel_rfl) rfl
            have h25 : a.tmps[25]?.getD undef = _ := hA.dep 13 25 _ (by kernel_rfl) rfl
            simp only [Oper.wp, execOp]; go_simp
            exact hK _ hC (Fp.refl _ _)
          -- 15
          apply ex_plain rfl rfl rfl
          · intro a w hC hA K hK
            have h14 : a.tmps[14]?.getD undef = _ := hA.dep 2 14 _ (by kernel_rfl) rfl
            have h26 : a.tmps[26]?.getD undef = _ := hA.dep 14 26 _ (by kernel_rfl) rfl
            simp only [Oper.wp, execOp]; go_simp
            exact hK _ hC (Fp.refl _ _)
          refine ⟨?_, ?_⟩
          · repeat (first | exact trivial | refine stab_val _ ?_ | refine ⟨fun w1 w2 v _ hf ⟨g, h1, h2⟩ => ⟨g, h1, (hf.block g (heap_lt h2) (by simp)).trans h2⟩, ?_⟩)
          · intro w' hC
            simp only [List.reverse_cons, List.reverse_nil, List.nil_append, List.cons_append]
            iterate 16 (refine all_val ?_)
            refine all_nil ?_
            simp only [putAll, Act.put, List.setIfInBounds_toArray, List.set_cons_succ, List.set_cons_zero]
            have HF2 := Lib.hid (HF.out.trans hC (by simp))
            have HO2 := Lib.hid (HO.out.fp hC (by simp))
            obtain ⟨q0, q1, q2, q3, q4, q5⟩ := HCE.out _ HF2.out
            rw [HRR.out] at q0
            have hbw2 : w.heap.size ≤ w'.heap.size := HF2.out.size
            clear hC
            go_wp2_with (at_builtin; (refine wpList_append_one rfl _ _ rfl w.heap.size _ _ rfl (HO2.out.fp (Fp.alloc _ _) (by simp)) _ rr rfl (by rw [cell_of_block (heap_alloc_at (by simp) _)]; rfl) (by have := HLE.out; omega) (by simp; omega) ?_); intro v2 w2 ho2 hb2; have HO3 := Lib.hid ho2; have HB3 := Lib.hid hb2; clear ho2 hb2)
            go_roundg (gk - 1)
            case measure => omega
            case rel => exact ⟨k + 1, _, by omega, rfl, by simp, by rw [HSU.out]; exact HO3.out, ((HF2.out.alloc' _)).belowTrans HB3.out⟩
    · obtain rfl : k = len := by omega
      have zk : ¬ (k : Int) < (k : Int) := by omega
      have HRE : Hid (rowsUpTo l k = rowsP l) := by unfold rowsP; rw [HLEN.out]; exact Lib.hid rfl
      go_wp2_with (fail)
      go_ret
      exact ⟨_, rfl, by rw [← HRE.out]; exact HO.out, HF.out⟩
end Go.Proofs.YtjnapcfclejknaaGreatDoor
