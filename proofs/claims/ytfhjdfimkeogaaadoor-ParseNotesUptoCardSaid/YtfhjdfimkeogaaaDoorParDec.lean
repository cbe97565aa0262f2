/-
  The reference of layer 7: decimal.
-/
import Derived.Test.YtfhjdfimkeogaaaDoorParPP
import Derived.IntWalk
import Derived.Laws.DeepStrings4
namespace Go.Proofs.YtfhjdfimkeogaaaDoor
open Go.RowKit Go.Lib

def digs : ByteArray := ⟨#[48, 49, 50, 51, 52, 53, 54, 55, 56, 57]⟩
theorem digs_at (d : Nat) (h : d < 10) : digs.extract d (d + 1) = ⟨[UInt8.ofNat (48 + d)].toArray⟩ := by
  have key : ∀ d, d < 10 → (digs.extract d (d + 1)).data.toList = [UInt8.ofNat (48 + d)] := by decide +kernel
  exact data_inj (key d h)
theorem decB_small {n : Nat} (h : n < 10) : decB n = digs.extract n (n + 1) := by
  rw [digs_at n h]
  unfold decB
  rw [decDigits, dif_pos h]
theorem decB_great {n : Nat} (h : ¬ n < 10) : decB n = decB (n / 10) ++ digs.extract (n % 10) (n % 10 + 1) := by
  rw [digs_at (n % 10) (Nat.mod_lt _ (by decide))]
  apply data_inj
  rw [append_data]
  unfold decB
  rw [decDigits, dif_neg h]

set_option maxRecDepth 100000 in
set_option maxHeartbeats 4000000 in
theorem decimal_any : ∀ (n : Nat) (w : World), n < 18446744073709551616 →
    Calls Tryd.prog 29 #[.int .u64 n] w fun e w' => e = .returned (.string (decB n)) ∧ Fp [] w w' := by
  intro n
  induction n using Nat.strongRecOn with
  | _ n ih =>
    intro w hn
    by_cases h : n < 10
    · rw [decB_small h]
      have hex : (⟨#[48, 49, 50, 51, 52, 53, 54, 55, 56, 57]⟩ : ByteArray).extract n (n + 1) = digs.extract n (n + 1) := rfl
      obtain ⟨r, hr⟩ : ∃ r, digs.extract n (n + 1) = r := ⟨_, rfl⟩
      rw [hr] at hex ⊢
      have hn' : (n : Int) < 10 := by omega
      have hsz : (⟨#[48, 49, 50, 51, 52, 53, 54, 55, 56, 57]⟩ : ByteArray).size = 10 := rfl
      go_enter Tryd.func29, Tryd.ntmps29
      go_wp2_with (fail)
      go_ret
      exact ⟨rfl, Fp.refl _ _⟩
    · rw [decB_great h]
      have HI : Hid (∀ w, Calls Tryd.prog 29 #[.int .u64 ((n / 10 : Nat) : Int)] w fun e w' => e = .returned (.string (decB (n / 10))) ∧ Fp [] w w') := fun w => ih (n / 10) (by omega) w (by omega)
      have hz := decB_size (n / 10) (by omega)
      obtain ⟨q, hq⟩ : ∃ q, n / 10 = q := ⟨_, rfl⟩
      obtain ⟨d, hd⟩ : ∃ d, n % 10 = d := ⟨_, rfl⟩
      have hd10 : d < 10 := by omega
      have e1 : (n : Int) / 10 = (q : Int) := by omega
      have e2 : (n : Int) % 10 = (d : Int) := by omega
      rw [hq] at HI hz
      rw [hq, hd]
      have hex : (⟨#[48, 49, 50, 51, 52, 53, 54, 55, 56, 57]⟩ : ByteArray).extract d (d + 1) = digs.extract d (d + 1) := rfl
      have hrz : (digs.extract d (d + 1)).size = 1 := by rw [digs_at d hd10]; rfl
      obtain ⟨r, hr⟩ : ∃ r, digs.extract d (d + 1) = r := ⟨_, rfl⟩
      rw [hr] at hex hrz
      rw [hr]
      have hge : ¬ (n : Int) < 10 := by omega
      obtain ⟨s, hs⟩ : ∃ s, decB q = s := ⟨_, rfl⟩
      rw [hs] at HI hz
      rw [hs]
      have hsz : (⟨#[48, 49, 50, 51, 52, 53, 54, 55, 56, 57]⟩ : ByteArray).size = 10 := rfl
      have wq : IntKind.u64.wrap (q : Int) = (q : Int) := by rw [IntKind.wrap_u64]; omega
      have tm : (n : Int).tmod 10 = (d : Int) := by rw [Int.tmod_eq_emod_of_nonneg (by omega)]; omega
      have wd : IntKind.u64.wrap ((d : Int) + 1) = ((d + 1 : Nat) : Int) := by rw [IntKind.wrap_u64]; omega
      have hb1 : (d : Int) ≤ ((d + 1 : Nat) : Int) := by omega
      have hb2 : ((d + 1 : Nat) : Int) ≤ 10 := by omega
      clear ih hq hd hr hs
      go_enter Tryd.func29, Tryd.ntmps29
      go_wp2_with (fail)
      refine wp_region_calm (by kernel_rfl) (by kernel_rfl) ?_
      -- 0
      apply ex_plain rfl rfl rfl
      · intro a w hC hA K hK
        have h0 := hA.free 0 _ (by kernel_rfl) rfl
        simp only [Oper.wp, execOp]; go_simp
        exact hK _ hC (Fp.refl _ _)
      -- 1
      apply ex_plain rfl rfl rfl
      · intro a w hC hA K hK
        have h9 : a.tmps[9]?.getD undef = _ := hA.dep 0 9 _ (by kernel_rfl) rfl
        simp only [Oper.wp, execOp]; go_simp
        exact hK _ hC (Fp.refl _ _)
      -- 2
      apply ex_plain rfl rfl rfl
      · intro a w hC hA K hK
        have h10 : a.tmps[10]?.getD undef = _ := hA.dep 1 10 _ (by kernel_rfl) rfl
        simp only [Oper.wp, execOp]; go_simp
        (with_reducible refine (HI.out _).mono ?_); rintro e w2 ⟨rfl, hf⟩; exact hK _ (hC.trans hf (by simp)) hf
      -- 3
      apply ex_plain rfl rfl rfl
      · intro a w hC hA K hK
        have h0 := hA.free 0 _ (by kernel_rfl) rfl
        simp only [Oper.wp, execOp]; go_simp
        exact hK _ hC (Fp.refl _ _)
      -- 4
      apply ex_plain rfl rfl rfl
      · intro a w hC hA K hK
        have h12 : a.tmps[12]?.getD undef = _ := hA.dep 3 12 _ (by kernel_rfl) rfl
        simp only [Oper.wp, execOp]; go_simp
        exact hK _ hC (Fp.refl _ _)
      -- 5
      apply ex_plain rfl rfl rfl
      · intro a w hC hA K hK
        have h0 := hA.free 0 _ (by kernel_rfl) rfl
        simp only [Oper.wp, execOp]; go_simp
        exact hK _ hC (Fp.refl _ _)
      -- 6
      apply ex_plain rfl rfl rfl
      · intro a w hC hA K hK
        have h14 : a.tmps[14]?.getD undef = _ := hA.dep 5 14 _ (by kernel_rfl) rfl
        simp only [Oper.wp, execOp]; go_simp
        exact hK _ hC (Fp.refl _ _)
      -- 7
      apply ex_plain rfl rfl rfl
      · intro a w hC hA K hK
        have h15 : a.tmps[15]?.getD undef = _ := hA.dep 6 15 _ (by kernel_rfl) rfl
        simp only [Oper.wp, execOp]; go_simp
        exact hK _ hC (Fp.refl _ _)
      -- 8
      apply ex_plain rfl rfl rfl
      · intro a w hC hA K hK
        have h13 : a.tmps[13]?.getD undef = _ := hA.dep 4 13 _ (by kernel_rfl) rfl
        have h16 : a.tmps[16]?.getD undef = _ := hA.dep 7 16 _ (by kernel_rfl) rfl
        simp only [Oper.wp, execOp]; go_simp
        rw [if_pos (by omega), if_pos (by omega)]
        exact hK _ hC (Fp.refl _ _)
      -- 9
      apply ex_plain rfl rfl rfl
      · intro a w hC hA K hK
        have h11 : a.tmps[11]?.getD undef = _ := hA.dep 2 11 _ (by kernel_rfl) rfl
        have h17 : a.tmps[17]?.getD undef = _ := hA.dep 8 17 _ (by kernel_rfl) rfl
        simp only [Oper.wp, execOp]; go_simp
        rw [if_neg (by first | omega | (simp only [ByteArray.size_append]; omega))]
        exact hK _ hC (Fp.refl _ _)
      -- 10
      apply ex_plain rfl rfl rfl
      · intro a w hC hA K hK
        have h18 : a.tmps[18]?.getD undef = _ := hA.dep 9 18 _ (by kernel_rfl) rfl
        simp only [Oper.wp, execOp]; go_simp
        exact hK _ hC (Fp.refl _ _)
      refine ⟨?_, ?_⟩
      · repeat (first | exact trivial | refine stab_val _ ?_ | refine ⟨fun w1 w2 v _ hf ⟨g, h1, h2⟩ => ⟨g, h1, (hf.block g (heap_lt h2) (by simp)).trans h2⟩, ?_⟩)
      · intro w' hC
        simp only [List.reverse_cons, List.reverse_nil, List.nil_append, List.cons_append]
        iterate 11 (refine all_val ?_)
        refine all_nil ?_
        simp only [putAll, Act.put, List.setIfInBounds_toArray, List.set_cons_succ, List.set_cons_zero]
        clear hrz
        go_wp2_with (fail)
        go_ret
        exact ⟨rfl, hC⟩
end Go.Proofs.YtfhjdfimkeogaaaDoor
