/-
  The reference of layer 1: text, Cmp, Same. Slices of cells; Rising, the program's and the reference's.
-/
import Derived.Test.YtjnapcfclejknaaGreatDoorRefC
import Derived.Test.YtjnapcfclejknaaGreatDoorCellShown
import Derived.Test.YtjnapcfclejknaaGreatDoorCellA
import Derived.Laws.Cover1
import Derived.Test.YtjnapcfclejknaaGreatDoorCels
import Derived.IntWalk
namespace Go.Proofs.YtjnapcfclejknaaGreatDoor
section
open Go.RowKit

theorem eq_cb (a b : List UInt8) : (a == b) = decide (Lib.compareBytes a b = 0) := by
  by_cases e : a = b
  · rw [e, cb_refl]; simp
  · rw [beq_eq_false_iff_ne.2 e]
    symm
    exact decide_eq_false (fun h => e (cb_eq h))

set_option maxHeartbeats 1000000 in
theorem rtext_any (a b : ByteArray) (w : World) : Calls Tryz.prog 98 #[.string a, .string b] w fun e w' => e = .returned (.int .i64 (cmpS a b)) ∧ w = w' := by
  have less : Op.bytesLess a.toList b.toList = decide (cmpS a b = -1) := by rw [less_cb, ByteArray.toList_eq, ByteArray.toList_eq]; rfl
  have same : (a.toList == b.toList) = decide (cmpS a b = 0) := by rw [eq_cb, ByteArray.toList_eq, ByteArray.toList_eq]; rfl
  have hr : cmpS a b = -1 ∨ cmpS a b = 0 ∨ cmpS a b = 1 := cb_range _ _
  obtain ⟨x, hx⟩ : ∃ x, cmpS a b = x := ⟨_, rfl⟩
  rw [hx] at less same hr ⊢
  clear hx
  rcases hr with rfl | rfl | rfl
  · have less : Op.bytesLess a.toList b.toList = true := less
    have same : (a.toList == b.toList) = false := same
    go_enter Tryz.func98, Tryz.ntmps98
    go_wp2_with (fail)
    go_ret
    exact ⟨rfl, rfl⟩
  · have less : Op.bytesLess a.toList b.toList = false := less
    have same : (a.toList == b.toList) = true := same
    go_enter Tryz.func98, Tryz.ntmps98
    go_wp2_with (fail)
    go_ret
    exact ⟨rfl, rfl⟩
  · have less : Op.bytesLess a.toList b.toList = false := less
    have same : (a.toList == b.toList) = false := same
    go_enter Tryz.func98, Tryz.ntmps98
    go_wp2_with (fail)
    go_ret
    exact ⟨rfl, rfl⟩

set_option maxRecDepth 100000 in
set_option maxHeartbeats 4000000 in
theorem rcmp_any (a b : Cel) (w : World) : Calls Tryz.prog 74 #[cellV a, cellV b] w fun e w' => e = .returned (.int .i64 (cmpC a b)) ∧ Fp [] w w' := by
  have HC : Hid (cmpC a b = firstN [cmpS a.row b.row, cmpS a.col b.col, cmpN b.ts a.ts, cmpN b.seq a.seq]) := rfl
  have n1 := fun w => rtext_any a.row b.row w
  have n2 := fun w => rtext_any a.col b.col w
  unfold cellV
  obtain ⟨x1, hx1⟩ : ∃ x, cmpS a.row b.row = x := ⟨_, rfl⟩
  obtain ⟨x2, hx2⟩ : ∃ x, cmpS a.col b.col = x := ⟨_, rfl⟩
  rw [hx1] at HC n1
  rw [hx2] at HC n2
  clear hx1 hx2
  have N1 := Lib.hid n1
  have N2 := Lib.hid n2
  clear n1 n2
  have hF := Lib.hid ((Fp.alloc w (.cells #[.string a.row, .string a.col, .int .u64 a.ts, .int .u64 a.seq, .bool a.del, .string a.val] 34)).alloc' (.cells #[.string b.row, .string b.col, .int .u64 b.ts, .int .u64 b.seq, .bool b.del, .string b.val] 34))
  by_cases h1 : x1 = 0
  case neg =>
    have HO : Hid (cmpC a b = x1) := by unfold Hid; rw [HC.out]; exact if_pos h1
    have t1 : (x1 != 0) = true := by simpa using h1
    clear h1
    go_enter Tryz.func74, Tryz.ntmps74
    go_wp2_with (first | (go_at_call 98; (with_reducible refine (N1.out _).mono ?_); rintro e w1 ⟨rfl, rfl⟩))
    go_ret
    rw [HO.out]
    exact ⟨rfl, hF.out⟩
  subst h1
  by_cases h2 : x2 = 0
  case neg =>
    have HO : Hid (cmpC a b = x2) := by unfold Hid; rw [HC.out]; unfold firstN; rw [if_neg (by simp)]; exact if_pos h2
    have t1 : (x2 != 0) = true := by simpa using h2
    clear h2
    go_enter Tryz.func74, Tryz.ntmps74
    go_wp2_with (first | (go_at_call 98; (with_reducible refine (N1.out _).mono ?_); rintro e w1 ⟨rfl, rfl⟩) | (go_at_call 98; (with_reducible refine (N2.out _).mono ?_); rintro e w1 ⟨rfl, rfl⟩))
    go_ret
    rw [HO.out]
    exact ⟨rfl, hF.out⟩
  subst h2
  have HC2 : Hid (cmpC a b = firstN [cmpN b.ts a.ts, cmpN b.seq a.seq]) := HC.out
  by_cases h3 : b.ts < a.ts
  · have HO : Hid (cmpC a b = -1) := by unfold Hid; rw [HC2.out, cmpN_lt h3]; rfl
    go_enter Tryz.func74, Tryz.ntmps74
    go_wp2_with (first | (go_at_call 98; (with_reducible refine (N1.out _).mono ?_); rintro e w1 ⟨rfl, rfl⟩) | (go_at_call 98; (with_reducible refine (N2.out _).mono ?_); rintro e w1 ⟨rfl, rfl⟩))
    go_ret
    rw [HO.out]
    exact ⟨rfl, hF.out⟩
  by_cases h4 : a.ts < b.ts
  · have HO : Hid (cmpC a b = 1) := by unfold Hid; rw [HC2.out, cmpN_gt h4]; rfl
    go_enter Tryz.func74, Tryz.ntmps74
    go_wp2_with (first | (go_at_call 98; (with_reducible refine (N1.out _).mono ?_); rintro e w1 ⟨rfl, rfl⟩) | (go_at_call 98; (with_reducible refine (N2.out _).mono ?_); rintro e w1 ⟨rfl, rfl⟩))
    go_ret
    rw [HO.out]
    exact ⟨rfl, hF.out⟩
  have HC3 : Hid (cmpC a b = firstN [cmpN b.seq a.seq]) := by unfold Hid; rw [HC2.out, cmpN_eq h3 h4]; rfl
  by_cases h5 : b.seq < a.seq
  · have HO : Hid (cmpC a b = -1) := by unfold Hid; rw [HC3.out, cmpN_lt h5]; rfl
    go_enter Tryz.func74, Tryz.ntmps74
    go_wp2_with (first | (go_at_call 98; (with_reducible refine (N1.out _).mono ?_); rintro e w1 ⟨rfl, rfl⟩) | (go_at_call 98; (with_reducible refine (N2.out _).mono ?_); rintro e w1 ⟨rfl, rfl⟩))
    go_ret
    rw [HO.out]
    exact ⟨rfl, hF.out⟩
  by_cases h6 : a.seq < b.seq
  · have HO : Hid (cmpC a b = 1) := by unfold Hid; rw [HC3.out, cmpN_gt h6]; rfl
    go_enter Tryz.func74, Tryz.ntmps74
    go_wp2_with (first | (go_at_call 98; (with_reducible refine (N1.out _).mono ?_); rintro e w1 ⟨rfl, rfl⟩) | (go_at_call 98; (with_reducible refine (N2.out _).mono ?_); rintro e w1 ⟨rfl, rfl⟩))
    go_ret
    rw [HO.out]
    exact ⟨rfl, hF.out⟩
  have HO : Hid (cmpC a b = 0) := by unfold Hid; rw [HC3.out, cmpN_eq h5 h6]; rfl
  go_enter Tryz.func74, Tryz.ntmps74
  go_wp2_with (first | (go_at_call 98; (with_reducible refine (N1.out _).mono ?_); rintro e w1 ⟨rfl, rfl⟩) | (go_at_call 98; (with_reducible refine (N2.out _).mono ?_); rintro e w1 ⟨rfl, rfl⟩))
  go_ret
  rw [HO.out]
  exact ⟨rfl, hF.out⟩

end

section
open Go.RowKit

def badAt (l : List Cel) (i : Nat) : Bool := decide (0 < i) && decide (0 ≤ cmpC (l.getD (i - 1) zeroC) (l.getD i zeroC))
def risC (l : List Cel) : Bool := !(List.range l.length).any (badAt l)
theorem risC_no {l : List Cel} {k : Nat} (hk : k < l.length) (h : badAt l k = true) : risC l = false := by
  unfold risC
  rw [List.any_eq_true.2 ⟨k, List.mem_range.2 hk, h⟩]; rfl
theorem risC_yes {l : List Cel} (h : ∀ j, j < l.length → badAt l j = false) : risC l = true := by
  unfold risC
  rw [List.any_eq_false.2 (fun x hx => by rw [h x (List.mem_range.1 hx)]; decide)]; rfl
theorem badAt_at {l : List Cel} {k m : Nat} (hk : k < l.length) (hm : k = m + 1) (x y : Cel) (hx : l[m]'(by omega) = x) (hy : l[k] = y) : badAt l k = decide (0 ≤ cmpC x y) := by
  subst hm
  unfold badAt
  rw [decide_eq_true (by omega), Bool.true_and, Nat.add_sub_cancel]
  rw [List.getD_eq_getElem?_getD, List.getD_eq_getElem?_getD, List.getElem?_eq_getElem (by omega), List.getElem?_eq_getElem hk]
  simp only [Option.getD_some, hx, hy]

theorem badAt_zero {l : List Cel} {j : Nat} (h : j < 1) : badAt l j = false := by
  obtain rfl : j = 0 := by omega
  rfl
set_option maxRecDepth 100000 in
set_option maxHeartbeats 8000000 in
theorem rising_any (w : World) (a : Option Addr) (len cap : Nat) (l : List Cel) (hl : CelsAt w a len l) (hn : len ≤ 9223372036854775807) :
    Calls Tryz.prog 24 #[.slice a len cap] w fun e w' => e = .returned (.bool (risC l)) ∧ Fp [] w w' := by
  have HL := Lib.hid hl
  have hlen := hl.len
  have HLEN := Lib.hid hlen
  clear hl hlen
  go_enter Tryz.func24, Tryz.ntmps24
  go_wp2_with (fail)
  go_loopg [6] len (fun g vi wr => ∃ k : Nat, g + k = len ∧ vi = .int .i64 k ∧ (∀ j, j < k → badAt l j = false) ∧ Fp [] w wr)
  case atStart => exact ⟨0, rfl, rfl, by intro j hj; omega, Fp.refl _ _⟩
  case round =>
    obtain ⟨k, hg, rfl, hall, hf⟩ := hrel
    have HALL := Lib.hid hall
    have HF := Lib.hid hf
    clear hall hf
    by_cases hk : k < len
    · by_cases h0 : k = 0
      · subst h0
        have hk0 : ¬ ((0 : Nat) : Int) > 0 := by decide
        rw [show ((0 : Nat) : Int) = 0 from rfl]
        go_wp2_with (fail)
        refine wp_region_calm (by kernel_rfl) (by kernel_rfl) ?_
        -- 0
        apply ex_plain rfl rfl rfl
        · intro a w hC hA K hK
          have h3 := hA.free 3 _ (by kernel_rfl) rfl
          simp only [Oper.wp, execOp]; go_simp
          exact hK _ hC (Fp.refl _ _)
        -- 1
        apply ex_plain rfl rfl rfl
        · intro a w hC hA K hK
          have h9 : a.tmps[9]?.getD undef = _ := hA.dep 0 9 _ (by kernel_rfl) rfl
          simp only [Oper.wp, execOp]; go_simp
          exact hK _ hC (Fp.refl _ _)
        -- 2
        apply ex_plain rfl rfl rfl
        · intro a w hC hA K hK
          have h10 : a.tmps[10]?.getD undef = _ := hA.dep 1 10 _ (by kernel_rfl) rfl
          simp only [Oper.wp, execOp]; go_simp
          exact hK _ hC (Fp.refl _ _)
        -- 3
        apply ex_no 2 11 rfl rfl rfl rfl (by kernel_rfl) rfl rfl
        -- 4
        apply ex_no 2 11 rfl rfl rfl rfl (by kernel_rfl) rfl rfl
        -- 5
        apply ex_no 2 11 rfl rfl rfl rfl (by kernel_rfl) rfl rfl
        -- 6
        apply ex_no 2 11 rfl rfl rfl rfl (by kernel_rfl) rfl rfl
        -- 7
        apply ex_no 2 11 rfl rfl rfl rfl (by kernel_rfl) rfl rfl
        -- 8
        apply ex_no 2 11 rfl rfl rfl rfl (by kernel_rfl) rfl rfl
        -- 9
        apply ex_no 2 11 rfl rfl rfl rfl (by kernel_rfl) rfl rfl
        -- 10
        apply ex_no 2 11 rfl rfl rfl rfl (by kernel_rfl) rfl rfl
        -- 11
        apply ex_no 2 11 rfl rfl rfl rfl (by kernel_rfl) rfl rfl
        -- 12
        apply ex_no 2 11 rfl rfl rfl rfl (by kernel_rfl) rfl rfl
        -- 13
        apply ex_no 2 11 rfl rfl rfl rfl (by kernel_rfl) rfl rfl
        -- 14
        apply ex_plain rfl rfl rfl
        · intro a w hC hA K hK
          have h11 : a.tmps[11]?.getD undef = _ := hA.dep 2 11 _ (by kernel_rfl) rfl
          have h22 : a.tmps[22]?.getD undef = _ := hA.dep 13 22 _ (by kernel_rfl) rfl
          simp only [Oper.wp, execOp]; go_simp
          exact hK _ hC (Fp.refl _ _)
        refine ⟨?_, ?_⟩
        · repeat (first | exact trivial | refine stab_val _ ?_ | refine ⟨fun w1 w2 v _ hf ⟨g, h1, h2⟩ => ⟨g, h1, (hf.block g (heap_lt h2) (by simp)).trans h2⟩, ?_⟩)
        · intro w' hC
          simp only [List.reverse_cons, List.reverse_nil, List.nil_append, List.cons_append]
          iterate 15 (refine all_val ?_)
          refine all_nil ?_
          simp only [putAll, Act.put, List.setIfInBounds_toArray, List.set_cons_succ, List.set_cons_zero]
          have HF2 := Lib.hid (HF.out.trans hC (by simp))
          clear hC
          go_wp2_with (fail)
          go_roundg (gk - 1)
          case measure => omega
          case rel =>
            refine ⟨1, by omega, rfl, ?_, HF2.out⟩
            intro j hj
            obtain rfl : j = 0 := by omega
            rfl
      · obtain ⟨m, hm⟩ : ∃ m, k = m + 1 := ⟨k - 1, by omega⟩
        have hkl : k < l.length := by rw [← HLEN.out]; exact hk
        obtain ⟨x, hx⟩ : ∃ x, l[m]'(by omega) = x := ⟨_, rfl⟩
        obtain ⟨y, hy⟩ : ∃ y, l[k] = y := ⟨_, rfl⟩
        have HBAD := Lib.hid (badAt_at hkl hm x y hx hy)
        rcases HL.out.cells with he | ⟨b, o, rfl, hb, hc⟩
        · rw [he] at hkl; exact absurd hkl (by simp)
        have hX := hc m (by omega)
        have hY := hc k hkl
        rw [hx] at hX
        rw [hy] at hY
        have HXY : Hid (∀ w', Fp [] w w' → CelCells w' b (o + m * 6) x ∧ CelCells w' b (o + k * 6) y) := fun w' hf => ⟨hX.fp hf hb (by simp), hY.fp hf hb (by simp)⟩
        have c1 := fun w => cmp_any x y w
        unfold cellV at c1
        obtain ⟨v, hv⟩ : ∃ v, cmpC x y = v := ⟨_, rfl⟩
        rw [hv] at c1 HBAD
        have C1 := Lib.hid c1
        have hw1 : IntKind.i64.wrap ((k : Int) - 1) = (m : Int) := by rw [IntWalk.i64_in _ (by omega)]; omega
        have hk1 : 0 < k := by omega
        have hm1 : (m : Int) < (len : Int) := by omega
        have hk2 : (k : Int) < (len : Int) := by omega
        have hmn : m < len := by omega
        clear hx hy hc hX hY c1 hv hb hm
        go_wp2_with (fail)
        refine wp_region_calm (by kernel_rfl) (by kernel_rfl) ?_
        -- 0
        apply ex_plain rfl rfl rfl
        · intro a w hC hA K hK
          have h3 := hA.free 3 _ (by kernel_rfl) rfl
          simp only [Oper.wp, execOp]; go_simp
          exact hK _ hC (Fp.refl _ _)
        -- 1
        apply ex_plain rfl rfl rfl
        · intro a w hC hA K hK
          have h9 : a.tmps[9]?.getD undef = _ := hA.dep 0 9 _ (by kernel_rfl) rfl
          simp only [Oper.wp, execOp]; go_simp
          exact hK _ hC (Fp.refl _ _)
        -- 2
        apply ex_plain rfl rfl rfl
        · intro a w hC hA K hK
          have h10 : a.tmps[10]?.getD undef = _ := hA.dep 1 10 _ (by kernel_rfl) rfl
          simp only [Oper.wp, execOp]; go_simp
          exact hK _ hC (Fp.refl _ _)
        -- 3
        apply ex_yes 2 11 rfl rfl rfl rfl (by kernel_rfl) rfl rfl
        · intro a w hC hA K hK
          have h0 := hA.free 0 _ (by kernel_rfl) rfl
          simp only [Oper.wp, execOp]; go_simp
          exact hK _ hC (Fp.refl _ _)
        -- 4
        apply ex_yes 2 11 rfl rfl rfl rfl (by kernel_rfl) rfl rfl
        · intro a w hC hA K hK
          have h3 := hA.free 3 _ (by kernel_rfl) rfl
          simp only [Oper.wp, execOp]; go_simp
          exact hK _ hC (Fp.refl _ _)
        -- 5
        apply ex_yes 2 11 rfl rfl rfl rfl (by kernel_rfl) rfl rfl
        · intro a w hC hA K hK
          have h13 : a.tmps[13]?.getD undef = _ := hA.dep 4 13 _ (by kernel_rfl) rfl
          simp only [Oper.wp, execOp]; go_simp
          exact hK _ hC (Fp.refl _ _)
        -- 6
        apply ex_yes 2 11 rfl rfl rfl rfl (by kernel_rfl) rfl rfl
        · intro a w hC hA K hK
          have h12 : a.tmps[12]?.getD undef = _ := hA.dep 3 12 _ (by kernel_rfl) rfl
          have h14 : a.tmps[14]?.getD undef = _ := hA.dep 5 14 _ (by kernel_rfl) rfl
          obtain ⟨⟨x0, x1, x2, x3, x4, x5⟩, ⟨y0, y1, y2, y3, y4, y5⟩⟩ := HXY.out _ (HF.out.trans hC (by simp))
          simp only [Oper.wp, execOp]; go_simp
          exact hK _ hC (Fp.refl _ _)
        -- 7
        apply ex_yes 2 11 rfl rfl rfl rfl (by kernel_rfl) rfl rfl
        · intro a w hC hA K hK
          have h15 : a.tmps[15]?.getD undef = _ := hA.dep 6 15 _ (by kernel_rfl) rfl
          obtain ⟨⟨x0, x1, x2, x3, x4, x5⟩, ⟨y0, y1, y2, y3, y4, y5⟩⟩ := HXY.out _ (HF.out.trans hC (by simp))
          simp only [Oper.wp, execOp]; go_simp
          exact hK _ hC (Fp.refl _ _)
        -- 8
        apply ex_yes 2 11 rfl rfl rfl rfl (by kernel_rfl) rfl rfl
        · intro a w hC hA K hK
          have h0 := hA.free 0 _ (by kernel_rfl) rfl
          simp only [Oper.wp, execOp]; go_simp
          exact hK _ hC (Fp.refl _ _)
        -- 9
        apply ex_yes 2 11 rfl rfl rfl rfl (by kernel_rfl) rfl rfl
        · intro a w hC hA K hK
          have h3 := hA.free 3 _ (by kernel_rfl) rfl
          simp only [Oper.wp, execOp]; go_simp
          exact hK _ hC (Fp.refl _ _)
        -- 10
        apply ex_yes 2 11 rfl rfl rfl rfl (by kernel_rfl) rfl rfl
        · intro a w hC hA K hK
          have h17 : a.tmps[17]?.getD undef = _ := hA.dep 8 17 _ (by kernel_rfl) rfl
          have h18 : a.tmps[18]?.getD undef = _ := hA.dep 9 18 _ (by kernel_rfl) rfl
          obtain ⟨⟨x0, x1, x2, x3, x4, x5⟩, ⟨y0, y1, y2, y3, y4, y5⟩⟩ := HXY.out _ (HF.out.trans hC (by simp))
          simp only [Oper.wp, execOp]; go_simp
          exact hK _ hC (Fp.refl _ _)
        -- 11
        apply ex_yes 2 11 rfl rfl rfl rfl (by kernel_rfl) rfl rfl
        · intro a w hC hA K hK
          have h19 : a.tmps[19]?.getD undef = _ := hA.dep 10 19 _ (by kernel_rfl) rfl
          obtain ⟨⟨x0, x1, x2, x3, x4, x5⟩, ⟨y0, y1, y2, y3, y4, y5⟩⟩ := HXY.out _ (HF.out.trans hC (by simp))
          simp only [Oper.wp, execOp]; go_simp
          exact hK _ hC (Fp.refl _ _)
        -- 12
        apply ex_yes 2 11 rfl rfl rfl rfl (by kernel_rfl) rfl rfl
        · intro a w hC hA K hK
          have h16 : a.tmps[16]?.getD undef = _ := hA.dep 7 16 _ (by kernel_rfl) rfl
          have h20 : a.tmps[20]?.getD undef = _ := hA.dep 11 20 _ (by kernel_rfl) rfl
          simp only [Oper.wp, execOp]; go_simp
          (with_reducible refine (C1.out _).mono ?_)
          rintro e w2 ⟨rfl, hf⟩
          exact hK _ (hC.trans hf (by simp)) hf
        -- 13
        apply ex_yes 2 11 rfl rfl rfl rfl (by kernel_rfl) rfl rfl
        · intro a w hC hA K hK
          have h21 : a.tmps[21]?.getD undef = _ := hA.dep 12 21 _ (by kernel_rfl) rfl
          simp only [Oper.wp, execOp]; go_simp
          exact hK _ hC (Fp.refl _ _)
        -- 14
        apply ex_plain rfl rfl rfl
        · intro a w hC hA K hK
          have h11 : a.tmps[11]?.getD undef = _ := hA.dep 2 11 _ (by kernel_rfl) rfl
          have h22 : a.tmps[22]?.getD undef = _ := hA.dep 13 22 _ (by kernel_rfl) rfl
          simp only [Oper.wp, execOp]; go_simp
          exact hK _ hC (Fp.refl _ _)
        refine ⟨?_, ?_⟩
        · repeat (first | exact trivial | refine stab_val _ ?_ | refine ⟨fun w1 w2 v _ hf ⟨g, h1, h2⟩ => ⟨g, h1, (hf.block g (heap_lt h2) (by simp)).trans h2⟩, ?_⟩)
        · intro w' hC
          simp only [List.reverse_cons, List.reverse_nil, List.nil_append, List.cons_append]
          iterate 15 (refine all_val ?_)
          refine all_nil ?_
          simp only [putAll, Act.put, List.setIfInBounds_toArray, List.set_cons_succ, List.set_cons_zero]
          have HF2 := Lib.hid (HF.out.trans hC (by simp))
          clear hC
          by_cases hv : 0 ≤ v
          · have H := Lib.hid (risC_no hkl (by rw [HBAD.out]; exact decide_eq_true hv))
            go_wp2_with (fail)
            go_ret
            rw [H.out]
            exact ⟨rfl, HF2.out⟩
          · have H : Hid (badAt l k = false) := by unfold Hid; rw [HBAD.out]; exact decide_eq_false hv
            go_wp2_with (fail)
            go_roundg (gk - 1)
            case measure => omega
            case rel => exact ⟨k + 1, by omega, by go_num, fun j hj => by
                          by_cases e : j = k
                          · rw [e]; exact H.out
                          · exact HALL.out j (by omega), HF2.out⟩
    · have H := Lib.hid (risC_yes (l := l) (fun j hj => HALL.out j (by have := HLEN.out; omega)))
      go_wp2_with (fail)
      go_ret
      rw [H.out]
      exact ⟨rfl, HF.out⟩

set_option maxRecDepth 100000 in
set_option maxHeartbeats 8000000 in
theorem rrising_any (w : World) (a : Option Addr) (len cap : Nat) (l : List Cel) (hl : CelsAt w a len l) (hn : len ≤ 9223372036854775807) :
    Calls Tryz.prog 34 #[.slice a len cap] w fun e w' => e = .returned (.bool (risC l)) ∧ Fp [] w w' := by
  have HL := Lib.hid hl
  have hlen := hl.len
  have HLEN := Lib.hid hlen
  clear hl hlen
  go_enter Tryz.func34, Tryz.ntmps34
  go_wp2_with (fail)
  go_loopg [3] len (fun g vi wr => ∃ k : Nat, g + k = len + 1 ∧ 1 ≤ k ∧ vi = .int .i64 k ∧ (∀ j, j < k → badAt l j = false) ∧ Fp [] w wr)
  case atStart => exact ⟨1, rfl, Nat.le_refl _, rfl, fun _ hj => badAt_zero hj, Fp.refl _ _⟩
  case round =>
    obtain ⟨k, hg, hk0, rfl, hall, hf⟩ := hrel
    have HALL := Lib.hid hall
    have HF := Lib.hid hf
    clear hall hf
    by_cases hk : k < len
    · obtain ⟨m, hm⟩ : ∃ m, k = m + 1 := ⟨k - 1, by omega⟩
      have hkl : k < l.length := by rw [← HLEN.out]; exact hk
      obtain ⟨x, hx⟩ : ∃ x, l[m]'(by omega) = x := ⟨_, rfl⟩
      obtain ⟨y, hy⟩ : ∃ y, l[k] = y := ⟨_, rfl⟩
      have HBAD := Lib.hid (badAt_at hkl hm x y hx hy)
      rcases HL.out.cells with he | ⟨b, o, rfl, hb, hc⟩
      · rw [he] at hkl; exact absurd hkl (by simp)
      have hX := hc m (by omega)
      have hY := hc k hkl
      rw [hx] at hX
      rw [hy] at hY
      have HXY : Hid (∀ w', Fp [] w w' → CelCells w' b (o + m * 6) x ∧ CelCells w' b (o + k * 6) y) := fun w' hf => ⟨hX.fp hf hb (by simp), hY.fp hf hb (by simp)⟩
      have c1 := fun w => rcmp_any x y w
      unfold cellV at c1
      obtain ⟨v, hv⟩ : ∃ v, cmpC x y = v := ⟨_, rfl⟩
      rw [hv] at c1 HBAD
      have C1 := Lib.hid c1
      have hw1 : IntKind.i64.wrap ((k : Int) - 1) = (m : Int) := by rw [IntWalk.i64_in _ (by omega)]; omega
      have hm1 : (m : Int) < (len : Int) := by omega
      have hk2 : (k : Int) < (len : Int) := by omega
      have hmn : m < len := by omega
      clear hx hy hc hX hY c1 hv hb hm
      go_wp2_with (fail)
      refine wp_region_calm (by kernel_rfl) (by kernel_rfl) ?_
      -- 0
      apply ex_plain rfl rfl rfl
      · intro a w hC hA K hK
        have h0 := hA.free 0 _ (by kernel_rfl) rfl
        simp only [Oper.wp, execOp]; go_simp
        exact hK _ hC (Fp.refl _ _)
      -- 1
      apply ex_plain rfl rfl rfl
      · intro a w hC hA K hK
        have h3 := hA.free 3 _ (by kernel_rfl) rfl
        simp only [Oper.wp, execOp]; go_simp
        exact hK _ hC (Fp.refl _ _)
      -- 2
      apply ex_plain rfl rfl rfl
      · intro a w hC hA K hK
        have h11 : a.tmps[11]?.getD undef = _ := hA.dep 1 11 _ (by kernel_rfl) rfl
        simp only [Oper.wp, execOp]; go_simp
        exact hK _ hC (Fp.refl _ _)
      -- 3
      apply ex_plain rfl rfl rfl
      · intro a w hC hA K hK
        have h10 : a.tmps[10]?.getD undef = _ := hA.dep 0 10 _ (by kernel_rfl) rfl
        have h12 : a.tmps[12]?.getD undef = _ := hA.dep 2 12 _ (by kernel_rfl) rfl
        obtain ⟨⟨x0, x1, x2, x3, x4, x5⟩, ⟨y0, y1, y2, y3, y4, y5⟩⟩ := HXY.out _ (HF.out.trans hC (by simp))
        simp only [Oper.wp, execOp]; go_simp
        exact hK _ hC (Fp.refl _ _)
      -- 4
      apply ex_plain rfl rfl rfl
      · intro a w hC hA K hK
        have h13 : a.tmps[13]?.getD undef = _ := hA.dep 3 13 _ (by kernel_rfl) rfl
        obtain ⟨⟨x0, x1, x2, x3, x4, x5⟩, ⟨y0, y1, y2, y3, y4, y5⟩⟩ := HXY.out _ (HF.out.trans hC (by simp))
        simp only [Oper.wp, execOp]; go_simp
        exact hK _ hC (Fp.refl _ _)
      -- 5
      apply ex_plain rfl rfl rfl
      · intro a w hC hA K hK
        have h0 := hA.free 0 _ (by kernel_rfl) rfl
        simp only [Oper.wp, execOp]; go_simp
        exact hK _ hC (Fp.refl _ _)
      -- 6
      apply ex_plain rfl rfl rfl
      · intro a w hC hA K hK
        have h3 := hA.free 3 _ (by kernel_rfl) rfl
        simp only [Oper.wp, execOp]; go_simp
        exact hK _ hC (Fp.refl _ _)
      -- 7
      apply ex_plain rfl rfl rfl
      · intro a w hC hA K hK
        have h15 : a.tmps[15]?.getD undef = _ := hA.dep 5 15 _ (by kernel_rfl) rfl
        have h16 : a.tmps[16]?.getD undef = _ := hA.dep 6 16 _ (by kernel_rfl) rfl
        obtain ⟨⟨x0, x1, x2, x3, x4, x5⟩, ⟨y0, y1, y2, y3, y4, y5⟩⟩ := HXY.out _ (HF.out.trans hC (by simp))
        simp only [Oper.wp, execOp]; go_simp
        exact hK _ hC (Fp.refl _ _)
      -- 8
      apply ex_plain rfl rfl rfl
      · intro a w hC hA K hK
        have h17 : a.tmps[17]?.getD undef = _ := hA.dep 7 17 _ (by kernel_rfl) rfl
        obtain ⟨⟨x0, x1, x2, x3, x4, x5⟩, ⟨y0, y1, y2, y3, y4, y5⟩⟩ := HXY.out _ (HF.out.trans hC (by simp))
        simp only [Oper.wp, execOp]; go_simp
        exact hK _ hC (Fp.refl _ _)
      -- 9
      apply ex_plain rfl rfl rfl
      · intro a w hC hA K hK
        have h14 : a.tmps[14]?.getD undef = _ := hA.dep 4 14 _ (by kernel_rfl) rfl
        have h18 : a.tmps[18]?.getD undef = _ := hA.dep 8 18 _ (by kernel_rfl) rfl
        simp only [Oper.wp, execOp]; go_simp
        (with_reducible refine (C1.out _).mono ?_)
        rintro e w2 ⟨rfl, hf⟩
        exact hK _ (hC.trans hf (by simp)) hf
      -- 10
      apply ex_plain rfl rfl rfl
      · intro a w hC hA K hK
        have h19 : a.tmps[19]?.getD undef = _ := hA.dep 9 19 _ (by kernel_rfl) rfl
        simp only [Oper.wp, execOp]; go_simp
        exact hK _ hC (Fp.refl _ _)
      refine ⟨?_, ?_⟩
      · repeat (first | exact trivial | refine stab_val _ ?_ | refine ⟨fun w1 w2 v _ hf ⟨g, h1, h2⟩ => ⟨g, h1, (hf.block g (heap_lt h2) (by simp)).trans h2⟩, ?_⟩)
      · intro w' hC
        simp only [List.reverse_cons, List.reverse_nil, List.nil_append, List.cons_append]
        iterate 11 (refine all_val ?_)
        refine all_nil ?_
        simp only [putAll, Act.put, List.setIfInBounds_toArray, List.set_cons_succ, List.set_cons_zero]
        have HF2 := Lib.hid (HF.out.trans hC (by simp))
        clear hC
        by_cases hv : 0 ≤ v
        · have H := Lib.hid (risC_no hkl (by rw [HBAD.out]; exact decide_eq_true hv))
          go_wp2_with (fail)
          go_ret
          rw [H.out]
          exact ⟨rfl, HF2.out⟩
        · have H : Hid (badAt l k = false) := by unfold Hid; rw [HBAD.out]; exact decide_eq_false hv
          go_wp2_with (fail)
          go_roundg (gk - 1)
          case measure => omega
          case rel => exact ⟨k + 1, by omega, by omega, by go_num, fun j hj => by
                        by_cases e : j = k
                        · rw [e]; exact H.out
                        · exact HALL.out j (by omega), HF2.out⟩
    · have H := Lib.hid (risC_yes (l := l) (fun j hj => HALL.out j (by have := HLEN.out; omega)))
      go_wp2_with (fail)
      go_ret
      rw [H.out]
      exact ⟨rfl, HF.out⟩
end
end Go.Proofs.YtjnapcfclejknaaGreatDoor
