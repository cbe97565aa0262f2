/-
  SameCells of two slices that hold the same cells.
-/
import Derived.Test.YtjnapcfclejknaaGreatDoorCelsOwn
namespace Go.Proofs.YtjnapcfclejknaaGreatDoor
open Go.RowKit

set_option maxRecDepth 100000 in
set_option maxHeartbeats 8000000 in
theorem same_any (w : World) (a b : Option Addr) (la ca lb cb : Nat) (l : List Cel) (ha : CelsAt w a la l) (hb : CelsAt w b lb l) (hn : la ≤ 9223372036854775807) :
    Calls Tryz.prog 44 #[.slice a la ca, .slice b lb cb] w fun e w' => e = .returned (.bool true) ∧ Fp [] w w' := by
  have HA := Lib.hid ha
  have HB := Lib.hid hb
  obtain rfl : lb = la := by rw [hb.len, ha.len]
  have HLEN := Lib.hid ha.len
  clear ha hb
  go_enter Tryz.func44, Tryz.ntmps44
  go_wp2_with (fail)
  go_loopg [5] lb (fun g vi wr => ∃ k : Nat, g + k = lb ∧ vi = .int .i64 k ∧ Fp [] w wr)
  case atStart => exact ⟨0, rfl, rfl, Fp.refl _ _⟩
  case round =>
    obtain ⟨k, hg, rfl, hf⟩ := hrel
    have HF := Lib.hid hf
    clear hf
    by_cases hk : k < lb
    · have hkl : k < l.length := by rw [← HLEN.out]; exact hk
      obtain ⟨x, hx⟩ : ∃ x, l[k] = x := ⟨_, rfl⟩
      obtain ⟨b1, o1, rfl, HA1⟩ : ∃ b1 o1, a = some ⟨b1, o1, none⟩ ∧ Hid (∀ w2, Fp [] w w2 → CelCells w2 b1 (o1 + k * 6) x) := by
        rcases HA.out.cells with h | ⟨b1, o1, h1, h2, h3⟩
        · rw [h] at hkl; exact absurd hkl (Nat.not_lt_zero _)
        · exact ⟨b1, o1, h1, fun w2 hf => by rw [← hx]; exact (h3 k hkl).fp hf h2 List.not_mem_nil⟩
      obtain ⟨b2, o2, rfl, HB1⟩ : ∃ b2 o2, b = some ⟨b2, o2, none⟩ ∧ Hid (∀ w2, Fp [] w w2 → CelCells w2 b2 (o2 + k * 6) x) := by
        rcases HB.out.cells with h | ⟨b1, o1, h1, h2, h3⟩
        · rw [h] at hkl; exact absurd hkl (Nat.not_lt_zero _)
        · exact ⟨b1, o1, h1, fun w2 hf => by rw [← hx]; exact (h3 k hkl).fp hf h2 List.not_mem_nil⟩
      clear hx hkl
      go_wp2_with (fail)
      refine wp_region_calm (by kernel_rfl) (by kernel_rfl) ?_
      -- 0
      apply ex_plain rfl rfl rfl
      · intro a w hC hA K hK
        have h0 := hA.free 0 _ (by kernel_rfl) rfl
        simp only [Oper.wp, execOp]; go_simp
        exact hK _ hC (Fp.refl _ _)
      -- 1
      apply ex_plain rfl rfl rfl
      · intro a w hC hA K hK
        have h5 := hA.free 5 _ (by kernel_rfl) rfl
        simp only [Oper.wp, execOp]; go_simp
        exact hK _ hC (Fp.refl _ _)
      -- 2
      apply ex_plain rfl rfl rfl
      · intro a w hC hA K hK
        have h17 : a.tmps[17]?.getD undef = _ := hA.dep 0 17 _ (by kernel_rfl) rfl
        have h18 : a.tmps[18]?.getD undef = _ := hA.dep 1 18 _ (by kernel_rfl) rfl
        obtain ⟨x0, x1, x2, x3, x4, x5⟩ := HA1.out _ (HF.out.trans hC (by simp))
        obtain ⟨y0, y1, y2, y3, y4, y5⟩ := HB1.out _ (HF.out.trans hC (by simp))
        simp only [Oper.wp, execOp]; go_simp
        exact hK _ hC (Fp.refl _ _)
      -- 3
      apply ex_plain rfl rfl rfl
      · intro a w hC hA K hK
        have h19 : a.tmps[19]?.getD undef = _ := hA.dep 2 19 _ (by kernel_rfl) rfl
        obtain ⟨x0, x1, x2, x3, x4, x5⟩ := HA1.out _ (HF.out.trans hC (by simp))
        obtain ⟨y0, y1, y2, y3, y4, y5⟩ := HB1.out _ (HF.out.trans hC (by simp))
        simp only [Oper.wp, execOp]; go_simp
        exact hK _ hC (Fp.refl _ _)
      -- 4
      apply ex_plain rfl rfl rfl
      · intro a w hC hA K hK
        have h1 := hA.free 1 _ (by kernel_rfl) rfl
        simp only [Oper.wp, execOp]; go_simp
        exact hK _ hC (Fp.refl _ _)
      -- 5
      apply ex_plain rfl rfl rfl
      · intro a w hC hA K hK
        have h5 := hA.free 5 _ (by kernel_rfl) rfl
        simp only [Oper.wp, execOp]; go_simp
        exact hK _ hC (Fp.refl _ _)
      -- 6
      apply ex_plain rfl rfl rfl
      · intro a w hC hA K hK
        have h21 : a.tmps[21]?.getD undef = _ := hA.dep 4 21 _ (by kernel_rfl) rfl
        have h22 : a.tmps[22]?.getD undef = _ := hA.dep 5 22 _ (by kernel_rfl) rfl
        obtain ⟨x0, x1, x2, x3, x4, x5⟩ := HA1.out _ (HF.out.trans hC (by simp))
        obtain ⟨y0, y1, y2, y3, y4, y5⟩ := HB1.out _ (HF.out.trans hC (by simp))
        simp only [Oper.wp, execOp]; go_simp
        exact hK _ hC (Fp.refl _ _)
      -- 7
      apply ex_plain rfl rfl rfl
      · intro a w hC hA K hK
        have h23 : a.tmps[23]?.getD undef = _ := hA.dep 6 23 _ (by kernel_rfl) rfl
        obtain ⟨x0, x1, x2, x3, x4, x5⟩ := HA1.out _ (HF.out.trans hC (by simp))
        obtain ⟨y0, y1, y2, y3, y4, y5⟩ := HB1.out _ (HF.out.trans hC (by simp))
        simp only [Oper.wp, execOp]; go_simp
        exact hK _ hC (Fp.refl _ _)
      -- 8
      apply ex_plain rfl rfl rfl
      · intro a w hC hA K hK
        have h20 : a.tmps[20]?.getD undef = _ := hA.dep 3 20 _ (by kernel_rfl) rfl
        have h24 : a.tmps[24]?.getD undef = _ := hA.dep 7 24 _ (by kernel_rfl) rfl
        simp only [Oper.wp, execOp]; go_simp
        exact hK _ hC (Fp.refl _ _)
      refine ⟨?_, ?_⟩
      · repeat (first | exact trivial | refine stab_val _ ?_ | refine ⟨fun w1 w2 v _ hf ⟨g, h1, h2⟩ => ⟨g, h1, (hf.block g (heap_lt h2) (by simp)).trans h2⟩, ?_⟩)
      · intro w' hC
        simp only [List.reverse_cons, List.reverse_nil, List.nil_append, List.cons_append]
        iterate 9 (refine all_val ?_)
        refine all_nil ?_
        simp only [putAll, Act.put, List.setIfInBounds_toArray, List.set_cons_succ, List.set_cons_zero]
        have HF2 := Lib.hid (HF.out.trans hC (by simp))
        clear hC
        go_wp2_with (fail)
        go_roundg (gk - 1)
        case measure => omega
        case rel => exact ⟨k + 1, by omega, by simp, HF2.out⟩
    · go_wp2_with (fail)
      go_ret
      exact ⟨rfl, HF.out⟩
end Go.Proofs.YtjnapcfclejknaaGreatDoor
