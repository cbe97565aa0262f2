/-
  BlockShares: the walk.
-/
import Derived.Test.YtepffknhkpppcaaDoorBlkL
namespace Go.Proofs.YtepffknhkpppcaaDoor
open Go.RowKit Go.Lib

theorem share_symm : ∀ (a b : List UInt8), shareL a b = shareL b a
  | [], [] => rfl
  | [], _ :: _ => rfl
  | _ :: _, [] => rfl
  | x :: a, y :: b => by
    unfold shareL
    by_cases e : x = y
    · rw [if_pos e, if_pos e.symm, share_symm a b]
    · rw [if_neg e, if_neg (Ne.symm e)]
theorem share_self : ∀ (a : List UInt8), shareL a a = a.length
  | [] => rfl
  | x :: a => by unfold shareL; rw [if_pos rfl, share_self a]; rfl
theorem share_pre : ∀ (c a b : List UInt8), shareL (c ++ a) (c ++ b) = c.length + shareL a b
  | [], a, b => by simp
  | x :: c, a, b => by
    rw [List.cons_append, List.cons_append]
    have e : shareL (x :: (c ++ a)) (x :: (c ++ b)) = shareL (c ++ a) (c ++ b) + 1 := if_pos rfl
    rw [e, share_pre c a b, List.length_cons]
    omega
theorem share_end : ∀ (a b : List UInt8) (x y : UInt8), a[shareL a b]? = some x → b[shareL a b]? = some y → x ≠ y
  | [], b, x, y, h, _ => by cases b <;> cases h
  | _ :: _, [], x, y, _, h => by cases h
  | u :: a, v :: b, x, y, h, k => by
    unfold shareL at h k
    by_cases e : u = v
    · rw [if_pos e] at h k
      exact share_end a b x y (by simpa using h) (by simpa using k)
    · rw [if_neg e] at h k
      cases h
      cases k
      exact e

set_option maxRecDepth 100000 in
set_option maxHeartbeats 16000000 in
theorem shares_walk (w : World) (a b c : ByteArray) (_wa : a.size ≤ 9223372036854775807) (_wb : b.size ≤ 9223372036854775807) (_wc : c.size ≤ 9223372036854775807) (hm : MaxAt w) :
    Calls Tryd.prog 5 #[.string a, .string b, .string c] w fun e w' => e = .returned (.bool true) ∧ Fp [] w w' := by
  have HM := Lib.hid hm
  have HSW := Lib.hid (fun w hm => shown4_any w hm)
  clear hm
  by_cases h1 : a.size > 200
  · have z1 : (a.size : Int) > 200 := by omega
    go_enter Tryd.func5, Tryd.ntmps5
    go_wp2_with (fail)
    (with_reducible refine (HSW.out _ HM.out).mono ?_)
    rintro e w2 ⟨rfl, hf⟩
    go_wp2_with (fail)
    go_ret
    exact ⟨rfl, hf⟩
  have z1 : ¬ (a.size : Int) > 200 := by omega
  by_cases h2 : b.size > 200
  · have z2 : (b.size : Int) > 200 := by omega
    go_enter Tryd.func5, Tryd.ntmps5
    go_wp2_with (fail)
    (with_reducible refine (HSW.out _ HM.out).mono ?_)
    rintro e w2 ⟨rfl, hf⟩
    go_wp2_with (fail)
    go_ret
    exact ⟨rfl, hf⟩
  have z2 : ¬ (b.size : Int) > 200 := by omega
  by_cases h3 : c.size > 200
  · have z3 : (c.size : Int) > 200 := by omega
    go_enter Tryd.func5, Tryd.ntmps5
    go_wp2_with (fail)
    (with_reducible refine (HSW.out _ HM.out).mono ?_)
    rintro e w2 ⟨rfl, hf⟩
    go_wp2_with (fail)
    go_ret
    exact ⟨rfl, hf⟩
  have z3 : ¬ (c.size : Int) > 200 := by omega
  have S1 := Lib.hid (fun w => shared_any a b w (by omega) (by omega))
  have s2 := fun w => shared_any b a w (by omega) (by omega)
  have s3 := fun w => shared_any a a w (by omega) (by omega)
  have s4 := fun w => shared_any (c ++ a) (c ++ b) w (by rw [ByteArray.size_append]; omega) (by rw [ByteArray.size_append]; omega)
  have e2 : shareB b a = shareB a b := share_symm _ _
  have e3 : shareB a a = a.size := share_self _
  have e4 : shareB (c ++ a) (c ++ b) = c.size + shareB a b := by unfold shareB; rw [append_data', append_data', share_pre]; rfl
  rw [e2] at s2
  rw [e3] at s3
  rw [e4] at s4
  have hle := share_le a.data.toList b.data.toList
  have hta := share_take a.data.toList b.data.toList
  have hend := share_end a.data.toList b.data.toList
  obtain ⟨n, hn⟩ : ∃ n, shareB a b = n := ⟨_, rfl⟩
  have hn' : shareL a.data.toList b.data.toList = n := hn
  rw [hn] at S1 s2 s4
  rw [hn'] at hle hta hend
  have hla : n ≤ a.size := hle.1
  have hlb : n ≤ b.size := hle.2
  have hpre : a.extract 0 n = b.extract 0 n := by
    have ea := bl_extract a.data.toList 0 n
    have eb := bl_extract b.data.toList 0 n
    rw [bl_data] at ea eb
    rw [ea, eb, List.drop_zero, List.drop_zero, Nat.sub_zero, hta]
  have hne : ∀ (ha : n < a.size) (hb : n < b.size), a[n] ≠ b[n] := fun ha hb => hend _ _ (dat_at ha) (dat_at hb)
  have S2 := Lib.hid s2
  have S3 := Lib.hid s3
  have S4 := Lib.hid s4
  have zc1 : ¬ c.size + a.size > 9223372036854775807 := by omega
  have zc2 : ¬ c.size + b.size > 9223372036854775807 := by omega
  have y1 : ¬ (n : Int) > (a.size : Int) := by omega
  have y2 : ¬ (n : Int) > (b.size : Int) := by omega
  have y3 : (n : Int) ≤ (a.size : Int) := by omega
  have y4 : (n : Int) ≤ (b.size : Int) := by omega
  have yy1 : decide (a.size < n) = false := decide_eq_false (by omega)
  have yy2 : decide (b.size < n) = false := decide_eq_false (by omega)
  obtain ⟨pa, hpa⟩ : ∃ p, a.extract 0 n = p := ⟨_, rfl⟩
  have hpb : b.extract 0 n = pa := by rw [← hpre, hpa]
  have n1 : wrap64 ((c.size : Int) + (n : Int)) = (c.size : Int) + (n : Int) := by unfold wrap64; omega
  have HNE := Lib.hid hne
  clear hn hn' hle hta hend hpre e2 e3 e4 s2 s3 s4 hne
  by_cases ha : n < a.size
  · have x1 : (n : Int) < (a.size : Int) := by omega
    have xx1 : decide (n < a.size) = true := decide_eq_true ha
    by_cases hb : n < b.size
    · have x2 : (n : Int) < (b.size : Int) := by omega
      have xx2 : decide (n < b.size) = true := decide_eq_true hb
      have x3 : ((a[n].toNat : Int) == (b[n].toNat : Int)) = false := beq_eq_false_iff_ne.2 fun e => HNE.out ha hb (UInt8.toNat_inj.1 (by omega))
      go_enter Tryd.func5, Tryd.ntmps5
      go_wp2_with (fail)
      (with_reducible refine (HSW.out _ HM.out).mono ?_)
      rintro e w1 ⟨rfl, hf1⟩
      have HF1 := Lib.hid hf1
      clear hf1
      go_wp2_with (fail)
      (with_reducible refine (S1.out _).mono ?_)
      rintro e w2 ⟨rfl, hf2⟩
      have HF2 := Lib.hid (HF1.out.trans hf2 (by simp))
      clear hf2
      go_wp2_with (fail)
      refine wp_region_calm (by kernel_rfl) (by kernel_rfl) ?_
      -- 0
      apply ex_plain rfl rfl rfl
      · intro a w hC hA K hK
        have h7 := hA.free 7 _ (by kernel_rfl) rfl
        simp only [Oper.wp, execOp]; go_simp
        exact hK _ hC (Fp.refl _ _)
      -- 1
      apply ex_plain rfl rfl rfl
      · intro a w hC hA K hK
        have h0 := hA.free 0 _ (by kernel_rfl) rfl
        simp only [Oper.wp, execOp]; go_simp
        exact hK _ hC (Fp.refl _ _)
      -- 2
      apply ex_plain rfl rfl rfl
      · intro a w hC hA K hK
        have h30 : a.tmps[30]?.getD undef = _ := hA.dep 1 30 _ (by kernel_rfl) rfl
        simp only [Oper.wp, execOp]; go_simp
        exact hK _ hC (Fp.refl _ _)
      -- 3
      apply ex_plain rfl rfl rfl
      · intro a w hC hA K hK
        have h29 : a.tmps[29]?.getD undef = _ := hA.dep 0 29 _ (by kernel_rfl) rfl
        have h31 : a.tmps[31]?.getD undef = _ := hA.dep 2 31 _ (by kernel_rfl) rfl
        simp only [Oper.wp, execOp]; go_simp
        exact hK _ hC (Fp.refl _ _)
      -- 4
      apply ex_plain rfl rfl rfl
      · intro a w hC hA K hK
        have h32 : a.tmps[32]?.getD undef = _ := hA.dep 3 32 _ (by kernel_rfl) rfl
        simp only [Oper.wp, execOp]; go_simp
        exact hK _ hC (Fp.refl _ _)
      -- 5
      apply ex_yes 4 33 rfl rfl rfl rfl (by kernel_rfl) rfl rfl
      · intro a w hC hA K hK
        have h7 := hA.free 7 _ (by kernel_rfl) rfl
        simp only [Oper.wp, execOp]; go_simp
        exact hK _ hC (Fp.refl _ _)
      -- 6
      apply ex_yes 4 33 rfl rfl rfl rfl (by kernel_rfl) rfl rfl
      · intro a w hC hA K hK
        have h1 := hA.free 1 _ (by kernel_rfl) rfl
        simp only [Oper.wp, execOp]; go_simp
        exact hK _ hC (Fp.refl _ _)
      -- 7
      apply ex_yes 4 33 rfl rfl rfl rfl (by kernel_rfl) rfl rfl
      · intro a w hC hA K hK
        have h35 : a.tmps[35]?.getD undef = _ := hA.dep 6 35 _ (by kernel_rfl) rfl
        simp only [Oper.wp, execOp]; go_simp
        exact hK _ hC (Fp.refl _ _)
      -- 8
      apply ex_yes 4 33 rfl rfl rfl rfl (by kernel_rfl) rfl rfl
      · intro a w hC hA K hK
        have h34 : a.tmps[34]?.getD undef = _ := hA.dep 5 34 _ (by kernel_rfl) rfl
        have h36 : a.tmps[36]?.getD undef = _ := hA.dep 7 36 _ (by kernel_rfl) rfl
        simp only [Oper.wp, execOp]; go_simp
        exact hK _ hC (Fp.refl _ _)
      -- 9
      apply ex_plain rfl rfl rfl
      · intro a w hC hA K hK
        have h33 : a.tmps[33]?.getD undef = _ := hA.dep 4 33 _ (by kernel_rfl) rfl
        have h37 : a.tmps[37]?.getD undef = _ := hA.dep 8 37 _ (by kernel_rfl) rfl
        simp only [Oper.wp, execOp]; go_simp
        exact hK _ hC (Fp.refl _ _)
      -- 10
      apply ex_plain rfl rfl rfl
      · intro a w hC hA K hK
        have h38 : a.tmps[38]?.getD undef = _ := hA.dep 9 38 _ (by kernel_rfl) rfl
        simp only [Oper.wp, execOp]; go_simp
        exact hK _ hC (Fp.refl _ _)
      -- 11
      apply ex_yes 10 39 rfl rfl rfl rfl (by kernel_rfl) rfl rfl
      · intro a w hC hA K hK
        have h0 := hA.free 0 _ (by kernel_rfl) rfl
        simp only [Oper.wp, execOp]; go_simp
        exact hK _ hC (Fp.refl _ _)
      -- 12
      apply ex_yes 10 39 rfl rfl rfl rfl (by kernel_rfl) rfl rfl
      · intro a w hC hA K hK
        have h7 := hA.free 7 _ (by kernel_rfl) rfl
        simp only [Oper.wp, execOp]; go_simp
        exact hK _ hC (Fp.refl _ _)
      -- 13
      apply ex_yes 10 39 rfl rfl rfl rfl (by kernel_rfl) rfl rfl
      · intro a w hC hA K hK
        have h40 : a.tmps[40]?.getD undef = _ := hA.dep 11 40 _ (by kernel_rfl) rfl
        have h41 : a.tmps[41]?.getD undef = _ := hA.dep 12 41 _ (by kernel_rfl) rfl
        simp only [Oper.wp, execOp]; go_simp
        exact hK _ hC (Fp.refl _ _)
      -- 14
      apply ex_yes 10 39 rfl rfl rfl rfl (by kernel_rfl) rfl rfl
      · intro a w hC hA K hK
        have h1 := hA.free 1 _ (by kernel_rfl) rfl
        simp only [Oper.wp, execOp]; go_simp
        exact hK _ hC (Fp.refl _ _)
      -- 15
      apply ex_yes 10 39 rfl rfl rfl rfl (by kernel_rfl) rfl rfl
      · intro a w hC hA K hK
        have h7 := hA.free 7 _ (by kernel_rfl) rfl
        simp only [Oper.wp, execOp]; go_simp
        exact hK _ hC (Fp.refl _ _)
      -- 16
      apply ex_yes 10 39 rfl rfl rfl rfl (by kernel_rfl) rfl rfl
      · intro a w hC hA K hK
        have h43 : a.tmps[43]?.getD undef = _ := hA.dep 14 43 _ (by kernel_rfl) rfl
        have h44 : a.tmps[44]?.getD undef = _ := hA.dep 15 44 _ (by kernel_rfl) rfl
        simp only [Oper.wp, execOp]; go_simp
        exact hK _ hC (Fp.refl _ _)
      -- 17
      apply ex_yes 10 39 rfl rfl rfl rfl (by kernel_rfl) rfl rfl
      · intro a w hC hA K hK
        have h42 : a.tmps[42]?.getD undef = _ := hA.dep 13 42 _ (by kernel_rfl) rfl
        have h45 : a.tmps[45]?.getD undef = _ := hA.dep 16 45 _ (by kernel_rfl) rfl
        simp only [Oper.wp, execOp]; go_simp
        exact hK _ hC (Fp.refl _ _)
      -- 18
      apply ex_plain rfl rfl rfl
      · intro a w hC hA K hK
        have h39 : a.tmps[39]?.getD undef = _ := hA.dep 10 39 _ (by kernel_rfl) rfl
        have h46 : a.tmps[46]?.getD undef = _ := hA.dep 17 46 _ (by kernel_rfl) rfl
        simp only [Oper.wp, execOp]; go_simp
        exact hK _ hC (Fp.refl _ _)
      -- 19
      apply ex_plain rfl rfl rfl
      · intro a w hC hA K hK
        have h47 : a.tmps[47]?.getD undef = _ := hA.dep 18 47 _ (by kernel_rfl) rfl
        simp only [Oper.wp, execOp]; go_simp
        exact hK _ hC (Fp.refl _ _)
      -- 20
      apply ex_yes 19 48 rfl rfl rfl rfl (by kernel_rfl) rfl rfl
      · intro a w hC hA K hK
        have h7 := hA.free 7 _ (by kernel_rfl) rfl
        simp only [Oper.wp, execOp]; go_simp
        exact hK _ hC (Fp.refl _ _)
      -- 21
      apply ex_yes 19 48 rfl rfl rfl rfl (by kernel_rfl) rfl rfl
      · intro a w hC hA K hK
        have h0 := hA.free 0 _ (by kernel_rfl) rfl
        simp only [Oper.wp, execOp]; go_simp
        exact hK _ hC (Fp.refl _ _)
      -- 22
      apply ex_yes 19 48 rfl rfl rfl rfl (by kernel_rfl) rfl rfl
      · intro a w hC hA K hK
        have h50 : a.tmps[50]?.getD undef = _ := hA.dep 21 50 _ (by kernel_rfl) rfl
        simp only [Oper.wp, execOp]; go_simp
        exact hK _ hC (Fp.refl _ _)
      -- 23
      apply ex_yes 19 48 rfl rfl rfl rfl (by kernel_rfl) rfl rfl
      · intro a w hC hA K hK
        have h49 : a.tmps[49]?.getD undef = _ := hA.dep 20 49 _ (by kernel_rfl) rfl
        have h51 : a.tmps[51]?.getD undef = _ := hA.dep 22 51 _ (by kernel_rfl) rfl
        simp only [Oper.wp, execOp]; go_simp
        exact hK _ hC (Fp.refl _ _)
      -- 24
      apply ex_yes 19 48 rfl rfl rfl rfl (by kernel_rfl) rfl rfl
      · intro a w hC hA K hK
        have h52 : a.tmps[52]?.getD undef = _ := hA.dep 23 52 _ (by kernel_rfl) rfl
        simp only [Oper.wp, execOp]; go_simp
        exact hK _ hC (Fp.refl _ _)
      -- 25
      apply ex_yes 24 53 rfl rfl rfl rfl (by kernel_rfl) rfl rfl
      · intro a w hC hA K hK
        have h7 := hA.free 7 _ (by kernel_rfl) rfl
        simp only [Oper.wp, execOp]; go_simp
        exact hK _ hC (Fp.refl _ _)
      -- 26
      apply ex_yes 24 53 rfl rfl rfl rfl (by kernel_rfl) rfl rfl
      · intro a w hC hA K hK
        have h1 := hA.free 1 _ (by kernel_rfl) rfl
        simp only [Oper.wp, execOp]; go_simp
        exact hK _ hC (Fp.refl _ _)
      -- 27
      apply ex_yes 24 53 rfl rfl rfl rfl (by kernel_rfl) rfl rfl
      · intro a w hC hA K hK
        have h55 : a.tmps[55]?.getD undef = _ := hA.dep 26 55 _ (by kernel_rfl) rfl
        simp only [Oper.wp, execOp]; go_simp
        exact hK _ hC (Fp.refl _ _)
      -- 28
      apply ex_yes 24 53 rfl rfl rfl rfl (by kernel_rfl) rfl rfl
      · intro a w hC hA K hK
        have h54 : a.tmps[54]?.getD undef = _ := hA.dep 25 54 _ (by kernel_rfl) rfl
        have h56 : a.tmps[56]?.getD undef = _ := hA.dep 27 56 _ (by kernel_rfl) rfl
        simp only [Oper.wp, execOp]; go_simp
        exact hK _ hC (Fp.refl _ _)
      -- 29
      apply ex_yes 19 48 rfl rfl rfl rfl (by kernel_rfl) rfl rfl
      · intro a w hC hA K hK
        have h53 : a.tmps[53]?.getD undef = _ := hA.dep 24 53 _ (by kernel_rfl) rfl
        have h57 : a.tmps[57]?.getD undef = _ := hA.dep 28 57 _ (by kernel_rfl) rfl
        simp only [Oper.wp, execOp]; go_simp
        exact hK _ hC (Fp.refl _ _)
      -- 30
      apply ex_yes 19 48 rfl rfl rfl rfl (by kernel_rfl) rfl rfl
      · intro a w hC hA K hK
        have h58 : a.tmps[58]?.getD undef = _ := hA.dep 29 58 _ (by kernel_rfl) rfl
        simp only [Oper.wp, execOp]; go_simp
        exact hK _ hC (Fp.refl _ _)
      -- 31
      apply ex_yes 30 59 rfl rfl rfl rfl (by kernel_rfl) rfl rfl
      · intro a w hC hA K hK
        have h0 := hA.free 0 _ (by kernel_rfl) rfl
        simp only [Oper.wp, execOp]; go_simp
        exact hK _ hC (Fp.refl _ _)
      -- 32
      apply ex_yes 30 59 rfl rfl rfl rfl (by kernel_rfl) rfl rfl
      · intro a w hC hA K hK
        have h7 := hA.free 7 _ (by kernel_rfl) rfl
        simp only [Oper.wp, execOp]; go_simp
        exact hK _ hC (Fp.refl _ _)
      -- 33
      apply ex_yes 30 59 rfl rfl rfl rfl (by kernel_rfl) rfl rfl
      · intro a w hC hA K hK
        have h60 : a.tmps[60]?.getD undef = _ := hA.dep 31 60 _ (by kernel_rfl) rfl
        have h61 : a.tmps[61]?.getD undef = _ := hA.dep 32 61 _ (by kernel_rfl) rfl
        simp only [Oper.wp, execOp]; go_simp
        exact hK _ hC (Fp.refl _ _)
      -- 34
      apply ex_yes 30 59 rfl rfl rfl rfl (by kernel_rfl) rfl rfl
      · intro a w hC hA K hK
        have h1 := hA.free 1 _ (by kernel_rfl) rfl
        simp only [Oper.wp, execOp]; go_simp
        exact hK _ hC (Fp.refl _ _)
      -- 35
      apply ex_yes 30 59 rfl rfl rfl rfl (by kernel_rfl) rfl rfl
      · intro a w hC hA K hK
        have h7 := hA.free 7 _ (by kernel_rfl) rfl
        simp only [Oper.wp, execOp]; go_simp
        exact hK _ hC (Fp.refl _ _)
      -- 36
      apply ex_yes 30 59 rfl rfl rfl rfl (by kernel_rfl) rfl rfl
      · intro a w hC hA K hK
        have h63 : a.tmps[63]?.getD undef = _ := hA.dep 34 63 _ (by kernel_rfl) rfl
        have h64 : a.tmps[64]?.getD undef = _ := hA.dep 35 64 _ (by kernel_rfl) rfl
        simp only [Oper.wp, execOp]; go_simp
        exact hK _ hC (Fp.refl _ _)
      -- 37
      apply ex_yes 30 59 rfl rfl rfl rfl (by kernel_rfl) rfl rfl
      · intro a w hC hA K hK
        have h62 : a.tmps[62]?.getD undef = _ := hA.dep 33 62 _ (by kernel_rfl) rfl
        have h65 : a.tmps[65]?.getD undef = _ := hA.dep 36 65 _ (by kernel_rfl) rfl
        simp only [Oper.wp, execOp]; go_simp
        exact hK _ hC (Fp.refl _ _)
      -- 38
      apply ex_yes 19 48 rfl rfl rfl rfl (by kernel_rfl) rfl rfl
      · intro a w hC hA K hK
        have h59 : a.tmps[59]?.getD undef = _ := hA.dep 30 59 _ (by kernel_rfl) rfl
        have h66 : a.tmps[66]?.getD undef = _ := hA.dep 37 66 _ (by kernel_rfl) rfl
        simp only [Oper.wp, execOp]; go_simp
        exact hK _ hC (Fp.refl _ _)
      -- 39
      apply ex_plain rfl rfl rfl
      · intro a w hC hA K hK
        have h48 : a.tmps[48]?.getD undef = _ := hA.dep 19 48 _ (by kernel_rfl) rfl
        have h67 : a.tmps[67]?.getD undef = _ := hA.dep 38 67 _ (by kernel_rfl) rfl
        simp only [Oper.wp, execOp]; go_simp
        exact hK _ hC (Fp.refl _ _)
      refine ⟨?_, ?_⟩
      · repeat (first | exact trivial | refine stab_val _ ?_ | refine ⟨fun w1 w2 v _ hf ⟨g, h1, h2⟩ => ⟨g, h1, (hf.block g (heap_lt h2) (by simp)).trans h2⟩, ?_⟩)
      · intro w' hC
        simp only [List.reverse_cons, List.reverse_nil, List.nil_append, List.cons_append]
        iterate 40 (refine all_val ?_)
        refine all_nil ?_
        simp only [putAll, Act.put, List.setIfInBounds_toArray, List.set_cons_succ, List.set_cons_zero]
        have HF3 := Lib.hid (HF2.out.trans hC (by simp))
        clear hC
        go_wp2_with (fail)
        (with_reducible refine (S2.out _).mono ?_)
        rintro e w4 ⟨rfl, hf4⟩
        have HF4 := Lib.hid (HF3.out.trans hf4 (by simp))
        clear hf4
        go_wp2_with (fail)
        (with_reducible refine (S3.out _).mono ?_)
        rintro e w5 ⟨rfl, hf5⟩
        have HF5 := Lib.hid (HF4.out.trans hf5 (by simp))
        clear hf5
        go_wp2_with (fail)
        (with_reducible refine (S4.out _).mono ?_)
        rintro e w6 ⟨rfl, hf6⟩
        go_wp2_with (fail)
        go_ret
        exact ⟨rfl, HF5.out.trans hf6 (by simp)⟩
    · have x2 : ¬ (n : Int) < (b.size : Int) := by omega
      have xx2 : decide (n < b.size) = false := decide_eq_false hb
      go_enter Tryd.func5, Tryd.ntmps5
      go_wp2_with (fail)
      (with_reducible refine (HSW.out _ HM.out).mono ?_)
      rintro e w1 ⟨rfl, hf1⟩
      have HF1 := Lib.hid hf1
      clear hf1
      go_wp2_with (fail)
      (with_reducible refine (S1.out _).mono ?_)
      rintro e w2 ⟨rfl, hf2⟩
      have HF2 := Lib.hid (HF1.out.trans hf2 (by simp))
      clear hf2
      go_wp2_with (fail)
      refine wp_region_calm (by kernel_rfl) (by kernel_rfl) ?_
      -- 0
      apply ex_plain rfl rfl rfl
      · intro a w hC hA K hK
        have h7 := hA.free 7 _ (by kernel_rfl) rfl
        simp only [Oper.wp, execOp]; go_simp
        exact hK _ hC (Fp.refl _ _)
      -- 1
      apply ex_plain rfl rfl rfl
      · intro a w hC hA K hK
        have h0 := hA.free 0 _ (by kernel_rfl) rfl
        simp only [Oper.wp, execOp]; go_simp
        exact hK _ hC (Fp.refl _ _)
      -- 2
      apply ex_plain rfl rfl rfl
      · intro a w hC hA K hK
        have h30 : a.tmps[30]?.getD undef = _ := hA.dep 1 30 _ (by kernel_rfl) rfl
        simp only [Oper.wp, execOp]; go_simp
        exact hK _ hC (Fp.refl _ _)
      -- 3
      apply ex_plain rfl rfl rfl
      · intro a w hC hA K hK
        have h29 : a.tmps[29]?.getD undef = _ := hA.dep 0 29 _ (by kernel_rfl) rfl
        have h31 : a.tmps[31]?.getD undef = _ := hA.dep 2 31 _ (by kernel_rfl) rfl
        simp only [Oper.wp, execOp]; go_simp
        exact hK _ hC (Fp.refl _ _)
      -- 4
      apply ex_plain rfl rfl rfl
      · intro a w hC hA K hK
        have h32 : a.tmps[32]?.getD undef = _ := hA.dep 3 32 _ (by kernel_rfl) rfl
        simp only [Oper.wp, execOp]; go_simp
        exact hK _ hC (Fp.refl _ _)
      -- 5
      apply ex_yes 4 33 rfl rfl rfl rfl (by kernel_rfl) rfl rfl
      · intro a w hC hA K hK
        have h7 := hA.free 7 _ (by kernel_rfl) rfl
        simp only [Oper.wp, execOp]; go_simp
        exact hK _ hC (Fp.refl _ _)
      -- 6
      apply ex_yes 4 33 rfl rfl rfl rfl (by kernel_rfl) rfl rfl
      · intro a w hC hA K hK
        have h1 := hA.free 1 _ (by kernel_rfl) rfl
        simp only [Oper.wp, execOp]; go_simp
        exact hK _ hC (Fp.refl _ _)
      -- 7
      apply ex_yes 4 33 rfl rfl rfl rfl (by kernel_rfl) rfl rfl
      · intro a w hC hA K hK
        have h35 : a.tmps[35]?.getD undef = _ := hA.dep 6 35 _ (by kernel_rfl) rfl
        simp only [Oper.wp, execOp]; go_simp
        exact hK _ hC (Fp.refl _ _)
      -- 8
      apply ex_yes 4 33 rfl rfl rfl rfl (by kernel_rfl) rfl rfl
      · intro a w hC hA K hK
        have h34 : a.tmps[34]?.getD undef = _ := hA.dep 5 34 _ (by kernel_rfl) rfl
        have h36 : a.tmps[36]?.getD undef = _ := hA.dep 7 36 _ (by kernel_rfl) rfl
        simp only [Oper.wp, execOp]; go_simp
        exact hK _ hC (Fp.refl _ _)
      -- 9
      apply ex_plain rfl rfl rfl
      · intro a w hC hA K hK
        have h33 : a.tmps[33]?.getD undef = _ := hA.dep 4 33 _ (by kernel_rfl) rfl
        have h37 : a.tmps[37]?.getD undef = _ := hA.dep 8 37 _ (by kernel_rfl) rfl
        simp only [Oper.wp, execOp]; go_simp
        exact hK _ hC (Fp.refl _ _)
      -- 10
      apply ex_plain rfl rfl rfl
      · intro a w hC hA K hK
        have h38 : a.tmps[38]?.getD undef = _ := hA.dep 9 38 _ (by kernel_rfl) rfl
        simp only [Oper.wp, execOp]; go_simp
        exact hK _ hC (Fp.refl _ _)
      -- 11
      apply ex_yes 10 39 rfl rfl rfl rfl (by kernel_rfl) rfl rfl
      · intro a w hC hA K hK
        have h0 := hA.free 0 _ (by kernel_rfl) rfl
        simp only [Oper.wp, execOp]; go_simp
        exact hK _ hC (Fp.refl _ _)
      -- 12
      apply ex_yes 10 39 rfl rfl rfl rfl (by kernel_rfl) rfl rfl
      · intro a w hC hA K hK
        have h7 := hA.free 7 _ (by kernel_rfl) rfl
        simp only [Oper.wp, execOp]; go_simp
        exact hK _ hC (Fp.refl _ _)
      -- 13
      apply ex_yes 10 39 rfl rfl rfl rfl (by kernel_rfl) rfl rfl
      · intro a w hC hA K hK
        have h40 : a.tmps[40]?.getD undef = _ := hA.dep 11 40 _ (by kernel_rfl) rfl
        have h41 : a.tmps[41]?.getD undef = _ := hA.dep 12 41 _ (by kernel_rfl) rfl
        simp only [Oper.wp, execOp]; go_simp
        exact hK _ hC (Fp.refl _ _)
      -- 14
      apply ex_yes 10 39 rfl rfl rfl rfl (by kernel_rfl) rfl rfl
      · intro a w hC hA K hK
        have h1 := hA.free 1 _ (by kernel_rfl) rfl
        simp only [Oper.wp, execOp]; go_simp
        exact hK _ hC (Fp.refl _ _)
      -- 15
      apply ex_yes 10 39 rfl rfl rfl rfl (by kernel_rfl) rfl rfl
      · intro a w hC hA K hK
        have h7 := hA.free 7 _ (by kernel_rfl) rfl
        simp only [Oper.wp, execOp]; go_simp
        exact hK _ hC (Fp.refl _ _)
      -- 16
      apply ex_yes 10 39 rfl rfl rfl rfl (by kernel_rfl) rfl rfl
      · intro a w hC hA K hK
        have h43 : a.tmps[43]?.getD undef = _ := hA.dep 14 43 _ (by kernel_rfl) rfl
        have h44 : a.tmps[44]?.getD undef = _ := hA.dep 15 44 _ (by kernel_rfl) rfl
        simp only [Oper.wp, execOp]; go_simp
        exact hK _ hC (Fp.refl _ _)
      -- 17
      apply ex_yes 10 39 rfl rfl rfl rfl (by kernel_rfl) rfl rfl
      · intro a w hC hA K hK
        have h42 : a.tmps[42]?.getD undef = _ := hA.dep 13 42 _ (by kernel_rfl) rfl
        have h45 : a.tmps[45]?.getD undef = _ := hA.dep 16 45 _ (by kernel_rfl) rfl
        simp only [Oper.wp, execOp]; go_simp
        exact hK _ hC (Fp.refl _ _)
      -- 18
      apply ex_plain rfl rfl rfl
      · intro a w hC hA K hK
        have h39 : a.tmps[39]?.getD undef = _ := hA.dep 10 39 _ (by kernel_rfl) rfl
        have h46 : a.tmps[46]?.getD undef = _ := hA.dep 17 46 _ (by kernel_rfl) rfl
        simp only [Oper.wp, execOp]; go_simp
        exact hK _ hC (Fp.refl _ _)
      -- 19
      apply ex_plain rfl rfl rfl
      · intro a w hC hA K hK
        have h47 : a.tmps[47]?.getD undef = _ := hA.dep 18 47 _ (by kernel_rfl) rfl
        simp only [Oper.wp, execOp]; go_simp
        exact hK _ hC (Fp.refl _ _)
      -- 20
      apply ex_yes 19 48 rfl rfl rfl rfl (by kernel_rfl) rfl rfl
      · intro a w hC hA K hK
        have h7 := hA.free 7 _ (by kernel_rfl) rfl
        simp only [Oper.wp, execOp]; go_simp
        exact hK _ hC (Fp.refl _ _)
      -- 21
      apply ex_yes 19 48 rfl rfl rfl rfl (by kernel_rfl) rfl rfl
      · intro a w hC hA K hK
        have h0 := hA.free 0 _ (by kernel_rfl) rfl
        simp only [Oper.wp, execOp]; go_simp
        exact hK _ hC (Fp.refl _ _)
      -- 22
      apply ex_yes 19 48 rfl rfl rfl rfl (by kernel_rfl) rfl rfl
      · intro a w hC hA K hK
        have h50 : a.tmps[50]?.getD undef = _ := hA.dep 21 50 _ (by kernel_rfl) rfl
        simp only [Oper.wp, execOp]; go_simp
        exact hK _ hC (Fp.refl _ _)
      -- 23
      apply ex_yes 19 48 rfl rfl rfl rfl (by kernel_rfl) rfl rfl
      · intro a w hC hA K hK
        have h49 : a.tmps[49]?.getD undef = _ := hA.dep 20 49 _ (by kernel_rfl) rfl
        have h51 : a.tmps[51]?.getD undef = _ := hA.dep 22 51 _ (by kernel_rfl) rfl
        simp only [Oper.wp, execOp]; go_simp
        exact hK _ hC (Fp.refl _ _)
      -- 24
      apply ex_yes 19 48 rfl rfl rfl rfl (by kernel_rfl) rfl rfl
      · intro a w hC hA K hK
        have h52 : a.tmps[52]?.getD undef = _ := hA.dep 23 52 _ (by kernel_rfl) rfl
        simp only [Oper.wp, execOp]; go_simp
        exact hK _ hC (Fp.refl _ _)
      -- 25
      apply ex_yes 24 53 rfl rfl rfl rfl (by kernel_rfl) rfl rfl
      · intro a w hC hA K hK
        have h7 := hA.free 7 _ (by kernel_rfl) rfl
        simp only [Oper.wp, execOp]; go_simp
        exact hK _ hC (Fp.refl _ _)
      -- 26
      apply ex_yes 24 53 rfl rfl rfl rfl (by kernel_rfl) rfl rfl
      · intro a w hC hA K hK
        have h1 := hA.free 1 _ (by kernel_rfl) rfl
        simp only [Oper.wp, execOp]; go_simp
        exact hK _ hC (Fp.refl _ _)
      -- 27
      apply ex_yes 24 53 rfl rfl rfl rfl (by kernel_rfl) rfl rfl
      · intro a w hC hA K hK
        have h55 : a.tmps[55]?.getD undef = _ := hA.dep 26 55 _ (by kernel_rfl) rfl
        simp only [Oper.wp, execOp]; go_simp
        exact hK _ hC (Fp.refl _ _)
      -- 28
      apply ex_yes 24 53 rfl rfl rfl rfl (by kernel_rfl) rfl rfl
      · intro a w hC hA K hK
        have h54 : a.tmps[54]?.getD undef = _ := hA.dep 25 54 _ (by kernel_rfl) rfl
        have h56 : a.tmps[56]?.getD undef = _ := hA.dep 27 56 _ (by kernel_rfl) rfl
        simp only [Oper.wp, execOp]; go_simp
        exact hK _ hC (Fp.refl _ _)
      -- 29
      apply ex_yes 19 48 rfl rfl rfl rfl (by kernel_rfl) rfl rfl
      · intro a w hC hA K hK
        have h53 : a.tmps[53]?.getD undef = _ := hA.dep 24 53 _ (by kernel_rfl) rfl
        have h57 : a.tmps[57]?.getD undef = _ := hA.dep 28 57 _ (by kernel_rfl) rfl
        simp only [Oper.wp, execOp]; go_simp
        exact hK _ hC (Fp.refl _ _)
      -- 30
      apply ex_yes 19 48 rfl rfl rfl rfl (by kernel_rfl) rfl rfl
      · intro a w hC hA K hK
        have h58 : a.tmps[58]?.getD undef = _ := hA.dep 29 58 _ (by kernel_rfl) rfl
        simp only [Oper.wp, execOp]; go_simp
        exact hK _ hC (Fp.refl _ _)
      -- 31
      apply ex_no 30 59 rfl rfl rfl rfl (by kernel_rfl) rfl rfl
      -- 32
      apply ex_no 30 59 rfl rfl rfl rfl (by kernel_rfl) rfl rfl
      -- 33
      apply ex_no 30 59 rfl rfl rfl rfl (by kernel_rfl) rfl rfl
      -- 34
      apply ex_no 30 59 rfl rfl rfl rfl (by kernel_rfl) rfl rfl
      -- 35
      apply ex_no 30 59 rfl rfl rfl rfl (by kernel_rfl) rfl rfl
      -- 36
      apply ex_no 30 59 rfl rfl rfl rfl (by kernel_rfl) rfl rfl
      -- 37
      apply ex_no 30 59 rfl rfl rfl rfl (by kernel_rfl) rfl rfl
      -- 38
      apply ex_yes 19 48 rfl rfl rfl rfl (by kernel_rfl) rfl rfl
      · intro a w hC hA K hK
        have h59 : a.tmps[59]?.getD undef = _ := hA.dep 30 59 _ (by kernel_rfl) rfl
        have h66 : a.tmps[66]?.getD undef = _ := hA.dep 37 66 _ (by kernel_rfl) rfl
        simp only [Oper.wp, execOp]; go_simp
        exact hK _ hC (Fp.refl _ _)
      -- 39
      apply ex_plain rfl rfl rfl
      · intro a w hC hA K hK
        have h48 : a.tmps[48]?.getD undef = _ := hA.dep 19 48 _ (by kernel_rfl) rfl
        have h67 : a.tmps[67]?.getD undef = _ := hA.dep 38 67 _ (by kernel_rfl) rfl
        simp only [Oper.wp, execOp]; go_simp
        exact hK _ hC (Fp.refl _ _)
      refine ⟨?_, ?_⟩
      · repeat (first | exact trivial | refine stab_val _ ?_ | refine ⟨fun w1 w2 v _ hf ⟨g, h1, h2⟩ => ⟨g, h1, (hf.block g (heap_lt h2) (by simp)).trans h2⟩, ?_⟩)
      · intro w' hC
        simp only [List.reverse_cons, List.reverse_nil, List.nil_append, List.cons_append]
        iterate 40 (refine all_val ?_)
        refine all_nil ?_
        simp only [putAll, Act.put, List.setIfInBounds_toArray, List.set_cons_succ, List.set_cons_zero]
        have HF3 := Lib.hid (HF2.out.trans hC (by simp))
        clear hC
        go_wp2_with (fail)
        (with_reducible refine (S2.out _).mono ?_)
        rintro e w4 ⟨rfl, hf4⟩
        have HF4 := Lib.hid (HF3.out.trans hf4 (by simp))
        clear hf4
        go_wp2_with (fail)
        (with_reducible refine (S3.out _).mono ?_)
        rintro e w5 ⟨rfl, hf5⟩
        have HF5 := Lib.hid (HF4.out.trans hf5 (by simp))
        clear hf5
        go_wp2_with (fail)
        (with_reducible refine (S4.out _).mono ?_)
        rintro e w6 ⟨rfl, hf6⟩
        go_wp2_with (fail)
        go_ret
        exact ⟨rfl, HF5.out.trans hf6 (by simp)⟩
  · have x1 : ¬ (n : Int) < (a.size : Int) := by omega
    have xx1 : decide (n < a.size) = false := decide_eq_false ha
    go_enter Tryd.func5, Tryd.ntmps5
    go_wp2_with (fail)
    (with_reducible refine (HSW.out _ HM.out).mono ?_)
    rintro e w1 ⟨rfl, hf1⟩
    have HF1 := Lib.hid hf1
    clear hf1
    go_wp2_with (fail)
    (with_reducible refine (S1.out _).mono ?_)
    rintro e w2 ⟨rfl, hf2⟩
    have HF2 := Lib.hid (HF1.out.trans hf2 (by simp))
    clear hf2
    go_wp2_with (fail)
    refine wp_region_calm (by kernel_rfl) (by kernel_rfl) ?_
    -- 0
    apply ex_plain rfl rfl rfl
    · intro a w hC hA K hK
      have h7 := hA.free 7 _ (by kernel_rfl) rfl
      simp only [Oper.wp, execOp]; go_simp
      exact hK _ hC (Fp.refl _ _)
    -- 1
    apply ex_plain rfl rfl rfl
    · intro a w hC hA K hK
      have h0 := hA.free 0 _ (by kernel_rfl) rfl
      simp only [Oper.wp, execOp]; go_simp
      exact hK _ hC (Fp.refl _ _)
    -- 2
    apply ex_plain rfl rfl rfl
    · intro a w hC hA K hK
      have h30 : a.tmps[30]?.getD undef = _ := hA.dep 1 30 _ (by kernel_rfl) rfl
      simp only [Oper.wp, execOp]; go_simp
      exact hK _ hC (Fp.refl _ _)
    -- 3
    apply ex_plain rfl rfl rfl
    · intro a w hC hA K hK
      have h29 : a.tmps[29]?.getD undef = _ := hA.dep 0 29 _ (by kernel_rfl) rfl
      have h31 : a.tmps[31]?.getD undef = _ := hA.dep 2 31 _ (by kernel_rfl) rfl
      simp only [Oper.wp, execOp]; go_simp
      exact hK _ hC (Fp.refl _ _)
    -- 4
    apply ex_plain rfl rfl rfl
    · intro a w hC hA K hK
      have h32 : a.tmps[32]?.getD undef = _ := hA.dep 3 32 _ (by kernel_rfl) rfl
      simp only [Oper.wp, execOp]; go_simp
      exact hK _ hC (Fp.refl _ _)
    -- 5
    apply ex_yes 4 33 rfl rfl rfl rfl (by kernel_rfl) rfl rfl
    · intro a w hC hA K hK
      have h7 := hA.free 7 _ (by kernel_rfl) rfl
      simp only [Oper.wp, execOp]; go_simp
      exact hK _ hC (Fp.refl _ _)
    -- 6
    apply ex_yes 4 33 rfl rfl rfl rfl (by kernel_rfl) rfl rfl
    · intro a w hC hA K hK
      have h1 := hA.free 1 _ (by kernel_rfl) rfl
      simp only [Oper.wp, execOp]; go_simp
      exact hK _ hC (Fp.refl _ _)
    -- 7
    apply ex_yes 4 33 rfl rfl rfl rfl (by kernel_rfl) rfl rfl
    · intro a w hC hA K hK
      have h35 : a.tmps[35]?.getD undef = _ := hA.dep 6 35 _ (by kernel_rfl) rfl
      simp only [Oper.wp, execOp]; go_simp
      exact hK _ hC (Fp.refl _ _)
    -- 8
    apply ex_yes 4 33 rfl rfl rfl rfl (by kernel_rfl) rfl rfl
    · intro a w hC hA K hK
      have h34 : a.tmps[34]?.getD undef = _ := hA.dep 5 34 _ (by kernel_rfl) rfl
      have h36 : a.tmps[36]?.getD undef = _ := hA.dep 7 36 _ (by kernel_rfl) rfl
      simp only [Oper.wp, execOp]; go_simp
      exact hK _ hC (Fp.refl _ _)
    -- 9
    apply ex_plain rfl rfl rfl
    · intro a w hC hA K hK
      have h33 : a.tmps[33]?.getD undef = _ := hA.dep 4 33 _ (by kernel_rfl) rfl
      have h37 : a.tmps[37]?.getD undef = _ := hA.dep 8 37 _ (by kernel_rfl) rfl
      simp only [Oper.wp, execOp]; go_simp
      exact hK _ hC (Fp.refl _ _)
    -- 10
    apply ex_plain rfl rfl rfl
    · intro a w hC hA K hK
      have h38 : a.tmps[38]?.getD undef = _ := hA.dep 9 38 _ (by kernel_rfl) rfl
      simp only [Oper.wp, execOp]; go_simp
      exact hK _ hC (Fp.refl _ _)
    -- 11
    apply ex_yes 10 39 rfl rfl rfl rfl (by kernel_rfl) rfl rfl
    · intro a w hC hA K hK
      have h0 := hA.free 0 _ (by kernel_rfl) rfl
      simp only [Oper.wp, execOp]; go_simp
      exact hK _ hC (Fp.refl _ _)
    -- 12
    apply ex_yes 10 39 rfl rfl rfl rfl (by kernel_rfl) rfl rfl
    · intro a w hC hA K hK
      have h7 := hA.free 7 _ (by kernel_rfl) rfl
      simp only [Oper.wp, execOp]; go_simp
      exact hK _ hC (Fp.refl _ _)
    -- 13
    apply ex_yes 10 39 rfl rfl rfl rfl (by kernel_rfl) rfl rfl
    · intro a w hC hA K hK
      have h40 : a.tmps[40]?.getD undef = _ := hA.dep 11 40 _ (by kernel_rfl) rfl
      have h41 : a.tmps[41]?.getD undef = _ := hA.dep 12 41 _ (by kernel_rfl) rfl
      simp only [Oper.wp, execOp]; go_simp
      exact hK _ hC (Fp.refl _ _)
    -- 14
    apply ex_yes 10 39 rfl rfl rfl rfl (by kernel_rfl) rfl rfl
    · intro a w hC hA K hK
      have h1 := hA.free 1 _ (by kernel_rfl) rfl
      simp only [Oper.wp, execOp]; go_simp
      exact hK _ hC (Fp.refl _ _)
    -- 15
    apply ex_yes 10 39 rfl rfl rfl rfl (by kernel_rfl) rfl rfl
    · intro a w hC hA K hK
      have h7 := hA.free 7 _ (by kernel_rfl) rfl
      simp only [Oper.wp, execOp]; go_simp
      exact hK _ hC (Fp.refl _ _)
    -- 16
    apply ex_yes 10 39 rfl rfl rfl rfl (by kernel_rfl) rfl rfl
    · intro a w hC hA K hK
      have h43 : a.tmps[43]?.getD undef = _ := hA.dep 14 43 _ (by kernel_rfl) rfl
      have h44 : a.tmps[44]?.getD undef = _ := hA.dep 15 44 _ (by kernel_rfl) rfl
      simp only [Oper.wp, execOp]; go_simp
      exact hK _ hC (Fp.refl _ _)
    -- 17
    apply ex_yes 10 39 rfl rfl rfl rfl (by kernel_rfl) rfl rfl
    · intro a w hC hA K hK
      have h42 : a.tmps[42]?.getD undef = _ := hA.dep 13 42 _ (by kernel_rfl) rfl
      have h45 : a.tmps[45]?.getD undef = _ := hA.dep 16 45 _ (by kernel_rfl) rfl
      simp only [Oper.wp, execOp]; go_simp
      exact hK _ hC (Fp.refl _ _)
    -- 18
    apply ex_plain rfl rfl rfl
    · intro a w hC hA K hK
      have h39 : a.tmps[39]?.getD undef = _ := hA.dep 10 39 _ (by kernel_rfl) rfl
      have h46 : a.tmps[46]?.getD undef = _ := hA.dep 17 46 _ (by kernel_rfl) rfl
      simp only [Oper.wp, execOp]; go_simp
      exact hK _ hC (Fp.refl _ _)
    -- 19
    apply ex_plain rfl rfl rfl
    · intro a w hC hA K hK
      have h47 : a.tmps[47]?.getD undef = _ := hA.dep 18 47 _ (by kernel_rfl) rfl
      simp only [Oper.wp, execOp]; go_simp
      exact hK _ hC (Fp.refl _ _)
    -- 20
    apply ex_yes 19 48 rfl rfl rfl rfl (by kernel_rfl) rfl rfl
    · intro a w hC hA K hK
      have h7 := hA.free 7 _ (by kernel_rfl) rfl
      simp only [Oper.wp, execOp]; go_simp
      exact hK _ hC (Fp.refl _ _)
    -- 21
    apply ex_yes 19 48 rfl rfl rfl rfl (by kernel_rfl) rfl rfl
    · intro a w hC hA K hK
      have h0 := hA.free 0 _ (by kernel_rfl) rfl
      simp only [Oper.wp, execOp]; go_simp
      exact hK _ hC (Fp.refl _ _)
    -- 22
    apply ex_yes 19 48 rfl rfl rfl rfl (by kernel_rfl) rfl rfl
    · intro a w hC hA K hK
      have h50 : a.tmps[50]?.getD undef = _ := hA.dep 21 50 _ (by kernel_rfl) rfl
      simp only [Oper.wp, execOp]; go_simp
      exact hK _ hC (Fp.refl _ _)
    -- 23
    apply ex_yes 19 48 rfl rfl rfl rfl (by kernel_rfl) rfl rfl
    · intro a w hC hA K hK
      have h49 : a.tmps[49]?.getD undef = _ := hA.dep 20 49 _ (by kernel_rfl) rfl
      have h51 : a.tmps[51]?.getD undef = _ := hA.dep 22 51 _ (by kernel_rfl) rfl
      simp only [Oper.wp, execOp]; go_simp
      exact hK _ hC (Fp.refl _ _)
    -- 24
    apply ex_yes 19 48 rfl rfl rfl rfl (by kernel_rfl) rfl rfl
    · intro a w hC hA K hK
      have h52 : a.tmps[52]?.getD undef = _ := hA.dep 23 52 _ (by kernel_rfl) rfl
      simp only [Oper.wp, execOp]; go_simp
      exact hK _ hC (Fp.refl _ _)
    -- 25
    apply ex_no 24 53 rfl rfl rfl rfl (by kernel_rfl) rfl rfl
    -- 26
    apply ex_no 24 53 rfl rfl rfl rfl (by kernel_rfl) rfl rfl
    -- 27
    apply ex_no 24 53 rfl rfl rfl rfl (by kernel_rfl) rfl rfl
    -- 28
    apply ex_no 24 53 rfl rfl rfl rfl (by kernel_rfl) rfl rfl
    -- 29
    apply ex_yes 19 48 rfl rfl rfl rfl (by kernel_rfl) rfl rfl
    · intro a w hC hA K hK
      have h53 : a.tmps[53]?.getD undef = _ := hA.dep 24 53 _ (by kernel_rfl) rfl
      have h57 : a.tmps[57]?.getD undef = _ := hA.dep 28 57 _ (by kernel_rfl) rfl
      simp only [Oper.wp, execOp]; go_simp
      exact hK _ hC (Fp.refl _ _)
    -- 30
    apply ex_yes 19 48 rfl rfl rfl rfl (by kernel_rfl) rfl rfl
    · intro a w hC hA K hK
      have h58 : a.tmps[58]?.getD undef = _ := hA.dep 29 58 _ (by kernel_rfl) rfl
      simp only [Oper.wp, execOp]; go_simp
      exact hK _ hC (Fp.refl _ _)
    -- 31
    apply ex_no 30 59 rfl rfl rfl rfl (by kernel_rfl) rfl rfl
    -- 32
    apply ex_no 30 59 rfl rfl rfl rfl (by kernel_rfl) rfl rfl
    -- 33
    apply ex_no 30 59 rfl rfl rfl rfl (by kernel_rfl) rfl rfl
    -- 34
    apply ex_no 30 59 rfl rfl rfl rfl (by kernel_rfl) rfl rfl
    -- 35
    apply ex_no 30 59 rfl rfl rfl rfl (by kernel_rfl) rfl rfl
    -- 36
    apply ex_no 30 59 rfl rfl rfl rfl (by kernel_rfl) rfl rfl
    -- 37
    apply ex_no 30 59 rfl rfl rfl rfl (by kernel_rfl) rfl rfl
    -- 38
    apply ex_yes 19 48 rfl rfl rfl rfl (by kernel_rfl) rfl rfl
    · intro a w hC hA K hK
      have h59 : a.tmps[59]?.getD undef = _ := hA.dep 30 59 _ (by kernel_rfl) rfl
      have h66 : a.tmps[66]?.getD undef = _ := hA.dep 37 66 _ (by kernel_rfl) rfl
      simp only [Oper.wp, execOp]; go_simp
      exact hK _ hC (Fp.refl _ _)
    -- 39
    apply ex_plain rfl rfl rfl
    · intro a w hC hA K hK
      have h48 : a.tmps[48]?.getD undef = _ := hA.dep 19 48 _ (by kernel_rfl) rfl
      have h67 : a.tmps[67]?.getD undef = _ := hA.dep 38 67 _ (by kernel_rfl) rfl
      simp only [Oper.wp, execOp]; go_simp
      exact hK _ hC (Fp.refl _ _)
    refine ⟨?_, ?_⟩
    · repeat (first | exact trivial | refine stab_val _ ?_ | refine ⟨fun w1 w2 v _ hf ⟨g, h1, h2⟩ => ⟨g, h1, (hf.block g (heap_lt h2) (by simp)).trans h2⟩, ?_⟩)
    · intro w' hC
      simp only [List.reverse_cons, List.reverse_nil, List.nil_append, List.cons_append]
      iterate 40 (refine all_val ?_)
      refine all_nil ?_
      simp only [putAll, Act.put, List.setIfInBounds_toArray, List.set_cons_succ, List.set_cons_zero]
      have HF3 := Lib.hid (HF2.out.trans hC (by simp))
      clear hC
      go_wp2_with (fail)
      (with_reducible refine (S2.out _).mono ?_)
      rintro e w4 ⟨rfl, hf4⟩
      have HF4 := Lib.hid (HF3.out.trans hf4 (by simp))
      clear hf4
      go_wp2_with (fail)
      (with_reducible refine (S3.out _).mono ?_)
      rintro e w5 ⟨rfl, hf5⟩
      have HF5 := Lib.hid (HF4.out.trans hf5 (by simp))
      clear hf5
      go_wp2_with (fail)
      (with_reducible refine (S4.out _).mono ?_)
      rintro e w6 ⟨rfl, hf6⟩
      go_wp2_with (fail)
      go_ret
      exact ⟨rfl, HF5.out.trans hf6 (by simp)⟩
end Go.Proofs.YtepffknhkpppcaaDoor
