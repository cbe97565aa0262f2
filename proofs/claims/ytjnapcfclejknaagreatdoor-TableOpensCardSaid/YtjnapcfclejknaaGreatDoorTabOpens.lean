/-
  TableOpens: the reference's Open; the walk.
-/
import Derived.Test.YtjnapcfclejknaaGreatDoorTabOpenP
namespace Go.Proofs.YtjnapcfclejknaaGreatDoor
open Go.RowKit Go.Lib

/-- what the reference's Open hands on -/
def OpenL (w : World) (base : Nat) (v : Value) (q : Nat) : Option FileP → Prop
  | none => True
  | some F => OwnC w base v F.l ∧ q = F.f.seq ∧ ∀ c ∈ F.l, CelOK c

set_option maxRecDepth 100000 in
set_option maxHeartbeats 4000000 in
theorem ropen_any (w : World) (s : ByteArray) (hs : s.size ≤ 100000) :
    Calls Tryz.prog 12 #[.string s] w fun e w' => ∃ (v : Value) (q : Nat), e = .returned (.tuple #[v, .int .u64 q, .int .i64 ((openP s).2 : Nat)]) ∧ OpenL w' w.heap.size v q (openP s).1 ∧ Fp [] w w' := by
  by_cases h26 : s.size < 26
  · rw [openP_short h26]
    have z : (s.size : Int) < 26 := by omega
    go_enter Tryz.func12, Tryz.ntmps12
    go_wp2_with (fail)
    refine bodyPost_ret (v := .tuple #[.slice none 0 0, .int .u64 0, .int .i64 20]) (by simp [results, Tryz.results12, go_sem, *]) rfl ⟨_, 0, rfl, trivial, Fp.refl _ _⟩
  have z1 : ¬ (s.size : Int) < 26 := by omega
  obtain ⟨at_, hat⟩ : ∃ x, s.size - 26 = x := ⟨_, rfl⟩
  have n1 : IntKind.i64.wrap ((s.size : Int) - 26) = (at_ : Int) := by rw [IntKind.wrap_i64]; omega
  have z2 : (at_ : Int) ≤ (s.size : Int) := by omega
  have hgt := rget_any (s.extract at_ s.size) w (by rw [ByteArray.size_extract]; omega)
  have hsm := openP_sum (s := s)
  have hfo := openP_form (s := s) h26
  have hbo := openP_body (s := s) h26
  have htl : tailOf s = (getP (s.extract at_ s.size)).1 := by unfold tailOf; rw [hat]
  rw [hat] at hsm hfo hbo
  obtain ⟨⟨t, k, e⟩, hget⟩ : ∃ x, getP (s.extract at_ s.size) = x := ⟨_, rfl⟩
  rw [hget] at hgt hsm hfo hbo htl
  have HGT := Lib.hid hgt
  clear hgt hget
  by_cases he : e = 0
  · subst he
    by_cases ht20 : t.size = 20
    · have hbo2 := hbo rfl (by rw [htl]; exact ht20)
      obtain ⟨op, hop⟩ : ∃ x, openP s = x := ⟨_, rfl⟩
      rw [hop] at hbo2 ⊢
      have HBO := Lib.hid hbo2
      clear hbo2 hop
      have z20 : (t.size : Int) = 20 := by omega
      have zb20 : ((t.size : Int) != 20) = false := by rw [bne_eq_false_iff_eq]; omega
      have HFB : Hid ((footE s).blocks = leN (t.extract 0 4) 4) := by unfold Hid footE; rw [htl]; rfl
      have HFS : Hid ((footE s).seq = leN (t.extract 12 20) 8) := by unfold Hid footE; rw [htl]; rfl
      have hHI := hiF_all ht20
      have hL4 := le4_all ht20
      have HSM := Lib.hid (fun c (h : c < 8) => hiF_small t h)
      have HSC : Hid (∀ c, hiF t (c + 1) = hiF t c * 256 + (atB t (12 + (7 - c))).toNat) := fun c => rfl
      have hsl : hiF t 8 < 18446744073709551616 := Nat.lt_of_lt_of_le (hiF_lt t 8) (by decide)
      have HLE : Hid (∀ j (h : j < t.size), t[j] = atB t j) := fun j h => atB_get t j h
      clear hbo hsm hfo htl
      have HT20 := Lib.hid ht20
      go_enter Tryz.func12, Tryz.ntmps12
      go_wp2_with (fail)
      (with_reducible refine HGT.out.mono ?_)
      rintro e w1 ⟨rfl, hf1⟩
      have HF1 := Lib.hid hf1
      clear hf1
      go_wp2_with (fail)
      go_loopg [8, 9] 8 (fun g vs vi wr => ∃ (c : Nat) (i : Int), g + c = 8 ∧ vs = .int .u64 (hiF t c : Nat) ∧ vi = .int .i64 i ∧ i = 7 - (c : Int) ∧ wr = w1)
      case atStart => exact ⟨0, 7, rfl, rfl, rfl, rfl, rfl⟩
      case round =>
        obtain ⟨c, i, hg, rfl, rfl, hi, rfl⟩ := hrel
        by_cases hc : c < 8
        · have zi : i ≥ 0 := by omega
          have hsc := HSC.out c
          have hsm := HSM.out c hc
          obtain ⟨j, hj⟩ : ∃ j, 12 + (7 - c) = j := ⟨_, rfl⟩
          rw [hj] at hsc
          have n2 : IntKind.i64.wrap (12 + i) = (j : Int) := by rw [IntKind.wrap_i64]; omega
          have hj20 : j < t.size := by rw [HT20.out]; omega
          have zj : (j : Int) < (t.size : Int) := by omega
          have e0 := HLE.out j hj20
          have hb := (atB t j).toNat_lt
          obtain ⟨b, hbe⟩ : ∃ b, (atB t j).toNat = b := ⟨_, rfl⟩
          rw [hbe] at hsc hb
          obtain ⟨x, hx⟩ : ∃ x, hiF t c = x := ⟨_, rfl⟩
          rw [hx] at hsc hsm
          rw [hx]
          obtain ⟨x2, hx2⟩ : ∃ x2, x * 256 = x2 := ⟨_, rfl⟩
          rw [hx2] at hsc
          have HS := Lib.hid hsc
          have n3 : IntKind.u64.wrap ((x : Int) * 256) = (x2 : Int) := by rw [IntKind.wrap_u64]; omega
          have n4 : IntKind.u64.wrap (b : Int) = (b : Int) := by rw [IntKind.wrap_u64]; omega
          have n5 : IntKind.u64.wrap ((x2 : Int) + (b : Int)) = ((x2 + b : Nat) : Int) := by rw [IntKind.wrap_u64]; omega
          have n6 : IntKind.i64.wrap (i - 1) = i - 1 := by rw [IntKind.wrap_i64]; omega
          have HI := Lib.hid hi
          clear hj hx hx2 hsc hi
          go_wp2_with (fail)
          go_roundg (gk - 1)
          case measure => omega
          case rel => exact ⟨c + 1, i - 1, by omega, by rw [HS.out]; simp, rfl, by have := HI.out; omega, rfl⟩
        · obtain rfl : c = 8 := by omega
          have zi : ¬ i ≥ 0 := by omega
          rw [hHI, ← HFS.out]
          rw [hHI, ← HFS.out] at hsl
          rw [← HFB.out] at hL4
          have HBL := Lib.hid (fun h => openF_blocks (s := s) h)
          have HEN := Lib.hid (fun h => openF_end (s := s) h)
          have HAL := Lib.hid (fun h => openF_all (s := s) h)
          have HNO := Lib.hid (fun h => openF_none (s := s) h)
          have HSO := Lib.hid (fun h => openF_some (s := s) h)
          have HCOK := Lib.hid (cellsE_ok s)
          have hce : cellsE s = cellsUp (textsOf s (footE s).blocks) (textsOf s (footE s).blocks).length := rfl
          have hto : textsOf s (footE s).blocks = (textsP (s.extract 0 (footE s).blocks)).map (·.2) := rfl
          have htsm := textsOf_small s (footE s).blocks
          have htsu := textsOf_sum s (footE s).blocks
          obtain ⟨q, hq⟩ : ∃ q, (footE s).seq = q := ⟨_, rfl⟩
          rw [hq] at hsl
          rw [hq]
          obtain ⟨bk, hbk⟩ : ∃ q, (footE s).blocks = q := ⟨_, rfl⟩
          rw [hbk] at hL4 HBL HEN HAL hce hto htsm htsu
          obtain ⟨ts, hts⟩ : ∃ ts, textsOf s bk = ts := ⟨_, rfl⟩
          rw [hts] at HAL hce hto htsm htsu
          have HQ := Lib.hid hq
          have HTO := Lib.hid hto
          have HCE := Lib.hid hce
          have HTS := Lib.hid htsm
          have htl : ts.length ≤ 100000 := Nat.le_trans (len_sum ts) (by omega)
          have e0 := HLE.out 0 (by rw [HT20.out]; decide)
          have e1 := HLE.out 1 (by rw [HT20.out]; decide)
          have e2 := HLE.out 2 (by rw [HT20.out]; decide)
          have e3 := HLE.out 3 (by rw [HT20.out]; decide)
          have hb0 := (atB t 0).toNat_lt
          have hb1 := (atB t 1).toNat_lt
          have hb2 := (atB t 2).toNat_lt
          have hb3 := (atB t 3).toNat_lt
          obtain ⟨b0, hx0⟩ : ∃ x, (atB t 0).toNat = x := ⟨_, rfl⟩
          obtain ⟨b1, hx1⟩ : ∃ x, (atB t 1).toNat = x := ⟨_, rfl⟩
          obtain ⟨b2, hx2⟩ : ∃ x, (atB t 2).toNat = x := ⟨_, rfl⟩
          obtain ⟨b3, hx3⟩ : ∃ x, (atB t 3).toNat = x := ⟨_, rfl⟩
          rw [hx0] at hL4 hb0
          rw [hx1] at hL4 hb1
          rw [hx2] at hL4 hb2
          rw [hx3] at hL4 hb3
          have p0 : (0 : Int) < (t.size : Int) := by omega
          have p1 : (1 : Int) < (t.size : Int) := by omega
          have p2 : (2 : Int) < (t.size : Int) := by omega
          have p3 : (3 : Int) < (t.size : Int) := by omega
          have pn : 0 < t.size := by omega
          have c0 : IntKind.u64.wrap (b0 : Int) = (b0 : Int) := by rw [IntKind.wrap_u64]; omega
          have c1 : IntKind.u64.wrap (b1 : Int) = (b1 : Int) := by rw [IntKind.wrap_u64]; omega
          have c2 : IntKind.u64.wrap (b2 : Int) = (b2 : Int) := by rw [IntKind.wrap_u64]; omega
          have c3 : IntKind.u64.wrap (b3 : Int) = (b3 : Int) := by rw [IntKind.wrap_u64]; omega
          obtain ⟨m1, hm1⟩ : ∃ x, 256 * b1 = x := ⟨_, rfl⟩
          obtain ⟨m2, hm2⟩ : ∃ x, 65536 * b2 = x := ⟨_, rfl⟩
          obtain ⟨m3, hm3⟩ : ∃ x, 16777216 * b3 = x := ⟨_, rfl⟩
          rw [hm1, hm2, hm3] at hL4
          have d1 : IntKind.u64.wrap (256 * (b1 : Int)) = (m1 : Int) := by rw [IntKind.wrap_u64]; omega
          have d2 : IntKind.u64.wrap (65536 * (b2 : Int)) = (m2 : Int) := by rw [IntKind.wrap_u64]; omega
          have d3 : IntKind.u64.wrap (16777216 * (b3 : Int)) = (m3 : Int) := by rw [IntKind.wrap_u64]; omega
          obtain ⟨s1, hs1⟩ : ∃ x, b0 + m1 = x := ⟨_, rfl⟩
          obtain ⟨s2, hs2⟩ : ∃ x, s1 + m2 = x := ⟨_, rfl⟩
          have f1 : IntKind.u64.wrap ((b0 : Int) + (m1 : Int)) = (s1 : Int) := by rw [IntKind.wrap_u64]; omega
          have f2 : IntKind.u64.wrap ((s1 : Int) + (m2 : Int)) = (s2 : Int) := by rw [IntKind.wrap_u64]; omega
          have f3 : IntKind.u64.wrap ((s2 : Int) + (m3 : Int)) = (bk : Int) := by rw [IntKind.wrap_u64]; omega
          have hbkl : bk < 4294967296 := by omega
          have ws : IntKind.u64.wrap (s.size : Int) = (s.size : Int) := by rw [IntKind.wrap_u64]; omega
          clear hHI hL4 hce hto htsm hq hbk hts hm1 hm2 hm3 hs1 hs2 hi hc hat
          by_cases hbs : bk > s.size
          · have zbs : (bk : Int) > (s.size : Int) := by omega
            have HO := Lib.hid (HBL.out hbs)
            go_wp2_with (fail)
            refine wp_region_calm (by kernel_rfl) (by kernel_rfl) ?_
            -- 0
            apply ex_plain rfl rfl rfl
            · intro a w hC hA K hK
              have h5 := hA.free 5 _ (by kernel_rfl) rfl
              simp only [Oper.wp, execOp]; go_simp
              exact hK _ hC (Fp.refl _ _)
            -- 1
            apply ex_plain rfl rfl rfl
            · intro a w hC hA K hK
              have h49 : a.tmps[49]?.getD undef = _ := hA.dep 0 49 _ (by kernel_rfl) rfl
              simp only [Oper.wp, execOp]; go_simp
              exact hK _ hC (Fp.refl _ _)
            -- 2
            apply ex_plain rfl rfl rfl
            · intro a w hC hA K hK
              have h50 : a.tmps[50]?.getD undef = _ := hA.dep 1 50 _ (by kernel_rfl) rfl
              simp only [Oper.wp, execOp]; go_simp
              exact hK _ hC (Fp.refl _ _)
            -- 3
            apply ex_plain rfl rfl rfl
            · intro a w hC hA K hK
              have h5 := hA.free 5 _ (by kernel_rfl) rfl
              simp only [Oper.wp, execOp]; go_simp
              exact hK _ hC (Fp.refl _ _)
            -- 4
            apply ex_plain rfl rfl rfl
            · intro a w hC hA K hK
              have h52 : a.tmps[52]?.getD undef = _ := hA.dep 3 52 _ (by kernel_rfl) rfl
              simp only [Oper.wp, execOp]; go_simp
              exact hK _ hC (Fp.refl _ _)
            -- 5
            apply ex_plain rfl rfl rfl
            · intro a w hC hA K hK
              have h53 : a.tmps[53]?.getD undef = _ := hA.dep 4 53 _ (by kernel_rfl) rfl
              simp only [Oper.wp, execOp]; go_simp
              exact hK _ hC (Fp.refl _ _)
            -- 6
            apply ex_plain rfl rfl rfl
            · intro a w hC hA K hK
              have h54 : a.tmps[54]?.getD undef = _ := hA.dep 5 54 _ (by kernel_rfl) rfl
              simp only [Oper.wp, execOp]; go_simp
              exact hK _ hC (Fp.refl _ _)
            -- 7
            apply ex_plain rfl rfl rfl
            · intro a w hC hA K hK
              have h51 : a.tmps[51]?.getD undef = _ := hA.dep 2 51 _ (by kernel_rfl) rfl
              have h55 : a.tmps[55]?.getD undef = _ := hA.dep 6 55 _ (by kernel_rfl) rfl
              simp only [Oper.wp, execOp]; go_simp
              exact hK _ hC (Fp.refl _ _)
            -- 8
            apply ex_plain rfl rfl rfl
            · intro a w hC hA K hK
              have h5 := hA.free 5 _ (by kernel_rfl) rfl
              simp only [Oper.wp, execOp]; go_simp
              exact hK _ hC (Fp.refl _ _)
            -- 9
            apply ex_plain rfl rfl rfl
            · intro a w hC hA K hK
              have h57 : a.tmps[57]?.getD undef = _ := hA.dep 8 57 _ (by kernel_rfl) rfl
              simp only [Oper.wp, execOp]; go_simp
              exact hK _ hC (Fp.refl _ _)
            -- 10
            apply ex_plain rfl rfl rfl
            · intro a w hC hA K hK
              have h58 : a.tmps[58]?.getD undef = _ := hA.dep 9 58 _ (by kernel_rfl) rfl
              simp only [Oper.wp, execOp]; go_simp
              exact hK _ hC (Fp.refl _ _)
            -- 11
            apply ex_plain rfl rfl rfl
            · intro a w hC hA K hK
              have h59 : a.tmps[59]?.getD undef = _ := hA.dep 10 59 _ (by kernel_rfl) rfl
              simp only [Oper.wp, execOp]; go_simp
              exact hK _ hC (Fp.refl _ _)
            -- 12
            apply ex_plain rfl rfl rfl
            · intro a w hC hA K hK
              have h56 : a.tmps[56]?.getD undef = _ := hA.dep 7 56 _ (by kernel_rfl) rfl
              have h60 : a.tmps[60]?.getD undef = _ := hA.dep 11 60 _ (by kernel_rfl) rfl
              simp only [Oper.wp, execOp]; go_simp
              exact hK _ hC (Fp.refl _ _)
            -- 13
            apply ex_plain rfl rfl rfl
            · intro a w hC hA K hK
              have h5 := hA.free 5 _ (by kernel_rfl) rfl
              simp only [Oper.wp, execOp]; go_simp
              exact hK _ hC (Fp.refl _ _)
            -- 14
            apply ex_plain rfl rfl rfl
            · intro a w hC hA K hK
              have h62 : a.tmps[62]?.getD undef = _ := hA.dep 13 62 _ (by kernel_rfl) rfl
              simp only [Oper.wp, execOp]; go_simp
              exact hK _ hC (Fp.refl _ _)
            -- 15
            apply ex_plain rfl rfl rfl
            · intro a w hC hA K hK
              have h63 : a.tmps[63]?.getD undef = _ := hA.dep 14 63 _ (by kernel_rfl) rfl
              simp only [Oper.wp, execOp]; go_simp
              exact hK _ hC (Fp.refl _ _)
            -- 16
            apply ex_plain rfl rfl rfl
            · intro a w hC hA K hK
              have h64 : a.tmps[64]?.getD undef = _ := hA.dep 15 64 _ (by kernel_rfl) rfl
              simp only [Oper.wp, execOp]; go_simp
              exact hK _ hC (Fp.refl _ _)
            -- 17
            apply ex_plain rfl rfl rfl
            · intro a w hC hA K hK
              have h61 : a.tmps[61]?.getD undef = _ := hA.dep 12 61 _ (by kernel_rfl) rfl
              have h65 : a.tmps[65]?.getD undef = _ := hA.dep 16 65 _ (by kernel_rfl) rfl
              simp only [Oper.wp, execOp]; go_simp
              exact hK _ hC (Fp.refl _ _)
            -- 18
            apply ex_plain rfl rfl rfl
            · intro a w hC hA K hK
              have h66 : a.tmps[66]?.getD undef = _ := hA.dep 17 66 _ (by kernel_rfl) rfl
              simp only [Oper.wp, execOp]; go_simp
              exact hK _ hC (Fp.refl _ _)
            refine ⟨?_, ?_⟩
            · repeat (first | exact trivial | refine stab_val _ ?_ | refine ⟨fun w1 w2 v _ hf ⟨g, h1, h2⟩ => ⟨g, h1, (hf.block g (heap_lt h2) (by simp)).trans h2⟩, ?_⟩)
            · intro w' hC
              simp only [List.reverse_cons, List.reverse_nil, List.nil_append, List.cons_append]
              iterate 19 (refine all_val ?_)
              refine all_nil ?_
              simp only [putAll, Act.put, List.setIfInBounds_toArray, List.set_cons_succ, List.set_cons_zero]
              have HF2 := Lib.hid (HF1.out.trans hC (by simp))
              clear hC e0 e1 e2 e3 p0 p1 p2 p3 pn c0 c1 c2 c3 d1 d2 d3 f1 f2 f3 hx0 hx1 hx2 hx3 ht20 z20 zb20
              go_wp2_with (fail)
              have hres := HBO.out.trans (congrArg openC HO.out)
              refine bodyPost_ret (v := .tuple #[.slice none 0 0, .int .u64 0, .int .i64 50]) (by simp [results, Tryz.results12, go_sem, *]) rfl ?_
              rw [hres]
              exact ⟨_, 0, rfl, trivial, HF2.out⟩
          have zbs : ¬ (bk : Int) > (s.size : Int) := by omega
          have zbl : (bk : Int) ≤ (s.size : Int) := by omega
          have HAR := Lib.hid (fun w => rall_any w (s.extract 0 bk) (by rw [ByteArray.size_extract]; omega))
          have hel : endOf (textsP (s.extract 0 bk)) ≤ s.size := Nat.le_trans (textsP_end _) (by rw [ByteArray.size_extract]; omega)
          obtain ⟨en, hen⟩ : ∃ x, endOf (textsP (s.extract 0 bk)) = x := ⟨_, rfl⟩
          rw [hen] at HAR HEN hel
          rw [← HTO.out] at HAR
          have we : IntKind.u64.wrap (en : Int) = (en : Int) := by rw [IntKind.wrap_u64]; omega
          clear hen
          go_wp2_with (fail)
          refine wp_region_calm (by kernel_rfl) (by kernel_rfl) ?_
          -- 0
          apply ex_plain rfl rfl rfl
          · intro a w hC hA K hK
            have h5 := hA.free 5 _ (by kernel_rfl) rfl
            simp only [Oper.wp, execOp]; go_simp
            exact hK _ hC (Fp.refl _ _)
          -- 1
          apply ex_plain rfl rfl rfl
          · intro a w hC hA K hK
            have h49 : a.tmps[49]?.getD undef = _ := hA.dep 0 49 _ (by kernel_rfl) rfl
            simp only [Oper.wp, execOp]; go_simp
            exact hK _ hC (Fp.refl _ _)
          -- 2
          apply ex_plain rfl rfl rfl
          · intro a w hC hA K hK
            have h50 : a.tmps[50]?.getD undef = _ := hA.dep 1 50 _ (by kernel_rfl) rfl
            simp only [Oper.wp, execOp]; go_simp
            exact hK _ hC (Fp.refl _ _)
          -- 3
          apply ex_plain rfl rfl rfl
          · intro a w hC hA K hK
            have h5 := hA.free 5 _ (by kernel_rfl) rfl
            simp only [Oper.wp, execOp]; go_simp
            exact hK _ hC (Fp.refl _ _)
          -- 4
          apply ex_plain rfl rfl rfl
          · intro a w hC hA K hK
            have h52 : a.tmps[52]?.getD undef = _ := hA.dep 3 52 _ (by kernel_rfl) rfl
            simp only [Oper.wp, execOp]; go_simp
            exact hK _ hC (Fp.refl _ _)
          -- 5
          apply ex_plain rfl rfl rfl
          · intro a w hC hA K hK
            have h53 : a.tmps[53]?.getD undef = _ := hA.dep 4 53 _ (by kernel_rfl) rfl
            simp only [Oper.wp, execOp]; go_simp
            exact hK _ hC (Fp.refl _ _)
          -- 6
          apply ex_plain rfl rfl rfl
          · intro a w hC hA K hK
            have h54 : a.tmps[54]?.getD undef = _ := hA.dep 5 54 _ (by kernel_rfl) rfl
            simp only [Oper.wp, execOp]; go_simp
            exact hK _ hC (Fp.refl _ _)
          -- 7
          apply ex_plain rfl rfl rfl
          · intro a w hC hA K hK
            have h51 : a.tmps[51]?.getD undef = _ := hA.dep 2 51 _ (by kernel_rfl) rfl
            have h55 : a.tmps[55]?.getD undef = _ := hA.dep 6 55 _ (by kernel_rfl) rfl
            simp only [Oper.wp, execOp]; go_simp
            exact hK _ hC (Fp.refl _ _)
          -- 8
          apply ex_plain rfl rfl rfl
          · intro a w hC hA K hK
            have h5 := hA.free 5 _ (by kernel_rfl) rfl
            simp only [Oper.wp, execOp]; go_simp
            exact hK _ hC (Fp.refl _ _)
          -- 9
          apply ex_plain rfl rfl rfl
          · intro a w hC hA K hK
            have h57 : a.tmps[57]?.getD undef = _ := hA.dep 8 57 _ (by kernel_rfl) rfl
            simp only [Oper.wp, execOp]; go_simp
            exact hK _ hC (Fp.refl _ _)
          -- 10
          apply ex_plain rfl rfl rfl
          · intro a w hC hA K hK
            have h58 : a.tmps[58]?.getD undef = _ := hA.dep 9 58 _ (by kernel_rfl) rfl
            simp only [Oper.wp, execOp]; go_simp
            exact hK _ hC (Fp.refl _ _)
          -- 11
          apply ex_plain rfl rfl rfl
          · intro a w hC hA K hK
            have h59 : a.tmps[59]?.getD undef = _ := hA.dep 10 59 _ (by kernel_rfl) rfl
            simp only [Oper.wp, execOp]; go_simp
            exact hK _ hC (Fp.refl _ _)
          -- 12
          apply ex_plain rfl rfl rfl
          · intro a w hC hA K hK
            have h56 : a.tmps[56]?.getD undef = _ := hA.dep 7 56 _ (by kernel_rfl) rfl
            have h60 : a.tmps[60]?.getD undef = _ := hA.dep 11 60 _ (by kernel_rfl) rfl
            simp only [Oper.wp, execOp]; go_simp
            exact hK _ hC (Fp.refl _ _)
          -- 13
          apply ex_plain rfl rfl rfl
          · intro a w hC hA K hK
            have h5 := hA.free 5 _ (by kernel_rfl) rfl
            simp only [Oper.wp, execOp]; go_simp
            exact hK _ hC (Fp.refl _ _)
          -- 14
          apply ex_plain rfl rfl rfl
          · intro a w hC hA K hK
            have h62 : a.tmps[62]?.getD undef = _ := hA.dep 13 62 _ (by kernel_rfl) rfl
            simp only [Oper.wp, execOp]; go_simp
            exact hK _ hC (Fp.refl _ _)
          -- 15
          apply ex_plain rfl rfl rfl
          · intro a w hC hA K hK
            have h63 : a.tmps[63]?.getD undef = _ := hA.dep 14 63 _ (by kernel_rfl) rfl
            simp only [Oper.wp, execOp]; go_simp
            exact hK _ hC (Fp.refl _ _)
          -- 16
          apply ex_plain rfl rfl rfl
          · intro a w hC hA K hK
            have h64 : a.tmps[64]?.getD undef = _ := hA.dep 15 64 _ (by kernel_rfl) rfl
            simp only [Oper.wp, execOp]; go_simp
            exact hK _ hC (Fp.refl _ _)
          -- 17
          apply ex_plain rfl rfl rfl
          · intro a w hC hA K hK
            have h61 : a.tmps[61]?.getD undef = _ := hA.dep 12 61 _ (by kernel_rfl) rfl
            have h65 : a.tmps[65]?.getD undef = _ := hA.dep 16 65 _ (by kernel_rfl) rfl
            simp only [Oper.wp, execOp]; go_simp
            exact hK _ hC (Fp.refl _ _)
          -- 18
          apply ex_plain rfl rfl rfl
          · intro a w hC hA K hK
            have h66 : a.tmps[66]?.getD undef = _ := hA.dep 17 66 _ (by kernel_rfl) rfl
            simp only [Oper.wp, execOp]; go_simp
            exact hK _ hC (Fp.refl _ _)
          refine ⟨?_, ?_⟩
          · repeat (first | exact trivial | refine stab_val _ ?_ | refine ⟨fun w1 w2 v _ hf ⟨g, h1, h2⟩ => ⟨g, h1, (hf.block g (heap_lt h2) (by simp)).trans h2⟩, ?_⟩)
          · intro w' hC
            simp only [List.reverse_cons, List.reverse_nil, List.nil_append, List.cons_append]
            iterate 19 (refine all_val ?_)
            refine all_nil ?_
            simp only [putAll, Act.put, List.setIfInBounds_toArray, List.set_cons_succ, List.set_cons_zero]
            have HF2 := Lib.hid (HF1.out.trans hC (by simp))
            clear hC e0 e1 e2 e3 p0 p1 p2 p3 pn c0 c1 c2 c3 d1 d2 d3 f1 f2 f3 hx0 hx1 hx2 hx3 ht20 z20 zb20
            go_wp2_with (fail)
            (with_reducible refine (HAR.out _).mono ?_)
            rintro e w3 ⟨v3, rfl, ho3, hf3⟩
            have HF3 := Lib.hid ((HF2.out.alloc' (.cells #[] 34)).trans hf3 (by simp))
            have hloc := (OwnC.made _ w.heap.size (HF2.out.size)).fp hf3 (by simp)
            have HLO := Lib.hid hloc
            obtain ⟨⟨a3, c3, rfl⟩, -⟩ := ho3.at
            have HOT := Lib.hid (ho3.mono (base' := w.heap.size) (by have := HF2.out.size; simp; omega))
            clear hf3 ho3 hloc
            by_cases hee : en = bk
            · subst hee
              go_wp2_with (fail)
              go_loopg [11, 14] ts.length (fun g vl vi wr => ∃ (k : Nat) (v : Value), g + k = ts.length ∧ v = vl ∧ vi = .int .i64 k ∧ OwnC wr w.heap.size v (cellsUp ts k) ∧ allUp ts k = true ∧ Fp [] w wr ∧ OwnS wr w.heap.size (.slice a3 ts.length c3) ts)
              case atStart => exact ⟨0, _, by omega, rfl, rfl, HLO.out, rfl, HF3.out, HOT.out⟩
              case round =>
                obtain ⟨k, vl, hg, rfl, rfl, ho, hal, hf, hot⟩ := hrel
                have HO := Lib.hid ho
                have HF := Lib.hid hf
                have HOTR := Lib.hid hot
                have HALL := Lib.hid hal
                clear ho hf hot hal
                have hwr : w.heap.size ≤ wr.heap.size := HF.out.size
                by_cases hk : k < ts.length
                · obtain ⟨g3, c3', ea3, q0⟩ : ∃ g3 c3', (Value.slice a3 (List.length ts) c3 = .slice (some ⟨g3, 0, none⟩) ts.length c3') ∧ wr.cell? ⟨g3, k, none⟩ = some (.string ts[k]) := by
                    rcases HOTR.out.at.2 with h | ⟨g3, c3', e3, _, hlt, hc⟩
                    · rw [h] at hk; simp at hk
                    · exact ⟨g3, c3', e3, hc k hk⟩
                  injection ea3 with ea3 _ ec3
                  subst ea3 ec3
                  have hts65 : ts[k].size ≤ 65541 := HTS.out _ (List.getElem_mem hk)
                  have HPR := Lib.hid (fun w => rparse_any w ts[k] (by omega))
                  have hpl := getD_len ts[k]
                  have HSU := Lib.hid (cellsUp_succ hk)
                  have HAS := Lib.hid (allUp_succ hk)
                  have HANO := Lib.hid (fun h => allUp_no hk h)
                  have hcl := cellsUp_le ts k
                  have hst := sum_take (fun t => t.size + 6) ts k
                  have HPOK : Hid (∀ c ∈ (parseP ts[k]).getD [], CelOK c) := fun c hc => cellsUp_ok HTS.out (k + 1) c (by rw [HSU.out]; exact List.mem_append_right _ hc)
                  have hps := parse_same (s := ts[k]) (by omega)
                  have hcs := code_same (s := ts[k]) (by omega)
                  have hcp : codeP ts[k] = (match parseP ts[k] with | some _ => 0 | none => 50) := rfl
                  rw [hps, hcs] at HPR
                  obtain ⟨tk, htk⟩ : ∃ t, ts[k] = t := ⟨_, rfl⟩
                  rw [htk] at q0 HPR HSU HAS HANO hpl HPOK hcp hts65
                  have zk : (k : Int) < (ts.length : Int) := by omega
                  have n7 : IntKind.i64.wrap ((k : Int) + 1) = ((k + 1 : Nat) : Int) := by rw [IntKind.wrap_i64]; omega
                  clear htk hps hcs
                  have HCL := Lib.hid hcl
                  have HST := Lib.hid hst
                  clear hcl hst
                  cases hpp : parseP tk with
                  | none =>
                    rw [hpp] at HPR hcp HSU HAS HPOK
                    have hcp2 : codeP tk = 50 := hcp
                    rw [hcp2] at HPR
                    have HO2 := Lib.hid (HAL.out (HANO.out hpp))
                    clear hpp hcp hcp2
                    go_wp2_with (fail)
                    (with_reducible refine (HPR.out _).mono ?_)
                    rintro e w4 ⟨v4, rfl, ho4, hf4⟩
                    have HF4 := Lib.hid (HF.out.trans hf4 (by simp))
                    clear hf4 ho4
                    go_wp2_with (fail)
                    have hres := HBO.out.trans (congrArg openC HO2.out)
                    refine bodyPost_ret (v := .tuple #[.slice none 0 0, .int .u64 0, .int .i64 50]) (by simp [results, Tryz.results12, go_sem, *]) rfl ?_
                    rw [hres]
                    exact ⟨_, 0, rfl, trivial, HF4.out⟩
                  | some l =>
                    rw [hpp] at HPR hcp HSU HAS hpl HPOK
                    have hcp2 : codeP tk = 0 := hcp
                    rw [hcp2] at HPR
                    have hsl2 : (cellsUp ts k).length + l.length ≤ 1000000000 := by
                      have h1 := HCL.out
                      have h2 := HST.out
                      have h3 : l.length ≤ tk.size := hpl
                      omega
                    have HS2 := Lib.hid hsl2
                    clear hpp hcp hcp2 hsl2 hpl
                    go_wp2_with (fail)
                    (with_reducible refine (HPR.out _).mono ?_)
                    rintro e w4 ⟨v4, rfl, ho4, hf4⟩
                    obtain ⟨a4, cap4, rfl, hn4, hc4⟩ := ho4.at2 HPOK.out
                    have HF4 := Lib.hid (HF.out.trans hf4 (by simp))
                    have HOT4 := Lib.hid (HOTR.out.fp hf4 (by simp))
                    have HO4 := Lib.hid (HO.out.fp hf4 (by simp))
                    have HC4 := Lib.hid hc4
                    have HN4 := Lib.hid hn4
                    have hw4 : w.heap.size ≤ w4.heap.size := HF4.out.size
                    clear hf4 ho4 hc4 hn4
                    go_wp2_with (at_builtin; (refine wpList_append_celsG rfl _ _ rfl w.heap.size _ (cellsUp ts k) rfl HO4.out _ _ _ l rfl HC4.out HN4.out HS2.out hw4 ?_); intro v5 w5 ho5 hb5 hg5; have HO5 := Lib.hid ho5; have HF5 := Lib.hid (HF4.out.belowTrans hb5); have HOT5 := Lib.hid (ownS_grown HOT4.out HO4.out hg5); clear ho5 hb5 hg5)
                    go_roundg (gk - 1)
                    case measure => omega
                    case rel => exact ⟨k + 1, _, by omega, rfl, by simp, by rw [HSU.out]; exact HO5.out, by rw [HAS.out, HALL.out]; rfl, HF5.out, HOT5.out⟩
                · obtain rfl : k = ts.length := by omega
                  have zk : ¬ (ts.length : Int) < (ts.length : Int) := by omega
                  have ho2 := HO.out
                  rw [← HCE.out] at ho2
                  have hle : (cellsE s).length ≤ 1000000 := by
                    rw [HCE.out]
                    have h1 := cellsUp_le ts ts.length
                    have h2 := sum_take (fun t => t.size + 6) ts ts.length
                    omega
                  obtain ⟨a5, cap5, rfl, hlc5, hc5⟩ := ho2.at3 HCOK.out
                  have HO2 := Lib.hid ho2
                  have HB5 := Lib.hid (rbuild5_any wr a5 (cellsE s).length cap5 (cellsE s) q hc5 hlc5 hsl)
                  have HGO := Lib.hid (fun h => HSO.out h)
                  have HNN := Lib.hid (fun h => HNO.out h)
                  rw [HQ.out] at HGO HNN
                  obtain ⟨⟨x, ce⟩, hbu⟩ : ∃ x, buildT (cellsE s) q = x := ⟨_, rfl⟩
                  rw [hbu] at HB5 HGO HNN
                  obtain ⟨lc, hlc⟩ : ∃ l, cellsE s = l := ⟨_, rfl⟩
                  rw [hlc] at HGO HO2 HCOK HB5 hle
                  rw [hlc]
                  clear ho2 hc5 hlc5 hbu hlc
                  by_cases hce : ce = 0
                  · subst hce
                    by_cases hxs : x = s
                    · subst hxs
                      have HFIN := Lib.hid (HGO.out rfl)
                      go_wp2_with (fail)
                      (with_reducible refine HB5.out.mono ?_)
                      rintro e w6 ⟨rfl, hf6⟩
                      have HF6 := Lib.hid (HF.out.trans hf6 (by simp))
                      have HO6 := Lib.hid (HO2.out.fp hf6 (by simp))
                      clear hf6
                      go_wp2_with (fail)
                      refine bodyPost_ret (v := .tuple #[.slice a5 lc.length cap5, .int .u64 q, .int .i64 0]) (by simp [results, Tryz.results12, go_sem, *]) rfl ?_
                      rw [HBO.out.trans (congrArg openC HFIN.out)]
                      exact ⟨_, q, rfl, ⟨HO6.out, rfl, HCOK.out⟩, HF6.out⟩
                    · have zx : (x.toList == s.toList) = false := by
                        rw [beq_eq_false_iff_ne]
                        intro e
                        rw [ByteArray.toList_eq, ByteArray.toList_eq] at e
                        exact hxs (dat_inj e)
                      have HFIN := Lib.hid (HNN.out (fun h => hxs (congrArg Prod.fst h)))
                      go_wp2_with (fail)
                      (with_reducible refine HB5.out.mono ?_)
                      rintro e w6 ⟨rfl, hf6⟩
                      have HF6 := Lib.hid (HF.out.trans hf6 (by simp))
                      clear hf6
                      go_wp2_with (fail)
                      have hres := HBO.out.trans (congrArg openC HFIN.out)
                      refine bodyPost_ret (v := .tuple #[.slice none 0 0, .int .u64 0, .int .i64 50]) (by simp [results, Tryz.results12, go_sem, *]) rfl ?_
                      rw [hres]
                      exact ⟨_, 0, rfl, trivial, HF6.out⟩
                  · have zce : ((ce : Int) != 0) = true := by rw [bne_iff_ne]; omega
                    have HFIN := Lib.hid (HNN.out (fun h => hce (congrArg Prod.snd h)))
                    go_wp2_with (fail)
                    (with_reducible refine HB5.out.mono ?_)
                    rintro e w6 ⟨rfl, hf6⟩
                    have HF6 := Lib.hid (HF.out.trans hf6 (by simp))
                    clear hf6
                    go_wp2_with (fail)
                    have hres := HBO.out.trans (congrArg openC HFIN.out)
                    refine bodyPost_ret (v := .tuple #[.slice none 0 0, .int .u64 0, .int .i64 50]) (by simp [results, Tryz.results12, go_sem, *]) rfl ?_
                    rw [hres]
                    exact ⟨_, 0, rfl, trivial, HF6.out⟩
            · have zee : ((en : Int) != (bk : Int)) = true := by rw [bne_iff_ne]; omega
              have HO := Lib.hid (HEN.out hee)
              go_wp2_with (fail)
              have hres := HBO.out.trans (congrArg openC HO.out)
              refine bodyPost_ret (v := .tuple #[.slice none 0 0, .int .u64 0, .int .i64 50]) (by simp [results, Tryz.results12, go_sem, *]) rfl ?_
              rw [hres]
              exact ⟨_, 0, rfl, trivial, HF3.out⟩
    · rw [hfo rfl (by rw [htl]; exact ht20)]
      have z20 : ((t.size : Int) != 20) = true := by rw [bne_iff_ne]; omega
      clear hbo hsm hfo htl hat
      go_enter Tryz.func12, Tryz.ntmps12
      go_wp2_with (fail)
      (with_reducible refine HGT.out.mono ?_)
      rintro e w1 ⟨rfl, hf1⟩
      have HF1 := Lib.hid hf1
      clear hf1
      go_wp2_with (fail)
      refine bodyPost_ret (v := .tuple #[.slice none 0 0, .int .u64 0, .int .i64 50]) (by simp [results, Tryz.results12, go_sem, *]) rfl ⟨_, 0, rfl, trivial, HF1.out⟩
  · rw [hsm he]
    have ze : ((e : Int) != 0) = true := by rw [bne_iff_ne]; omega
    clear hbo hsm hfo htl hat
    go_enter Tryz.func12, Tryz.ntmps12
    go_wp2_with (fail)
    (with_reducible refine HGT.out.mono ?_)
    rintro e w1 ⟨rfl, hf1⟩
    have HF1 := Lib.hid hf1
    clear hf1
    go_wp2_with (fail)
    refine bodyPost_ret (v := .tuple #[.slice none 0 0, .int .u64 0, .int .i64 20]) (by simp [results, Tryz.results12, go_sem, *]) rfl ⟨_, 0, rfl, trivial, HF1.out⟩

set_option maxRecDepth 100000 in
set_option maxHeartbeats 4000000 in
theorem topens_walk (w : World) (s row : ByteArray) (_hs : s.size ≤ 9223372036854775807) (_hr : row.size ≤ 9223372036854775807) (hm : MaxAt w) (ht : TabAt w) :
    Calls Tryz.prog 4 #[.string s, .string row] w fun e w' => e = .returned (.bool true) ∧ Fp [] w w' := by
  have HM := Lib.hid hm
  have HT := Lib.hid ht
  have HSW := Lib.hid (fun w hm ht => shown5_any w hm ht)
  clear hm ht
  by_cases hs3 : s.size > 3000
  · have zs : (s.size : Int) > 3000 := by omega
    go_enter Tryz.func4, Tryz.ntmps4
    go_wp2_with (fail)
    (with_reducible refine (HSW.out _ HM.out HT.out).mono ?_)
    rintro e w2 ⟨rfl, hf2⟩
    have HF2 := Lib.hid hf2
    clear hf2
    go_wp2_with (fail)
    go_ret
    exact ⟨rfl, HF2.out⟩
  have zs : ¬ (s.size : Int) > 3000 := by omega
  by_cases hrow : row.size > 100
  · have zr : (row.size : Int) > 100 := by omega
    go_enter Tryz.func4, Tryz.ntmps4
    go_wp2_with (fail)
    (with_reducible refine (HSW.out _ HM.out HT.out).mono ?_)
    rintro e w2 ⟨rfl, hf2⟩
    have HF2 := Lib.hid hf2
    clear hf2
    go_wp2_with (fail)
    go_ret
    exact ⟨rfl, HF2.out⟩
  have zr : ¬ (row.size : Int) > 100 := by omega
  have hrs : row.size ≤ 100000 := by omega
  have HOP := Lib.hid (fun w hm ht => topen_any w s (by omega) hm ht)
  have HRO := Lib.hid (fun w => ropen_any w s (by omega))
  rcases openP_cases s with ⟨e, he, hop⟩ | ⟨l, q, hop, hg, hq, hok⟩
  · rw [hop] at HOP HRO
    have ze : ((e : Int) != 0) = true := by rw [bne_iff_ne]; omega
    clear hop
    go_enter Tryz.func4, Tryz.ntmps4
    go_wp2_with (fail)
    (with_reducible refine (HSW.out _ HM.out HT.out).mono ?_)
    rintro e w2 ⟨rfl, hf2⟩
    have HF2 := Lib.hid hf2
    clear hf2
    go_wp2_with (fail)
    (with_reducible refine (HOP.out _ (HM.out.fp HF2.out (by simp)) (HT.out.fp HF2.out (by simp))).mono ?_)
    rintro e w3 ⟨v3, rfl, hv3, hf3⟩
    obtain rfl : v3 = .pointer none := hv3
    have HF3 := Lib.hid (HF2.out.trans hf3 (by simp))
    clear hf3
    go_wp2_with (fail)
    (with_reducible refine (HRO.out _).mono ?_)
    rintro e w4 ⟨v4, q4, rfl, -, hf4⟩
    have HF4 := Lib.hid (HF3.out.trans hf4 (by simp))
    clear hf4
    go_wp2_with (fail)
    go_ret
    exact ⟨rfl, HF4.out⟩
  · rw [hop] at HOP HRO
    have HG := Lib.hid hg
    have HOK := Lib.hid hok
    clear hop hg hok
    go_enter Tryz.func4, Tryz.ntmps4
    go_wp2_with (fail)
    (with_reducible refine (HSW.out _ HM.out HT.out).mono ?_)
    rintro e w2 ⟨rfl, hf2⟩
    have HF2 := Lib.hid hf2
    clear hf2
    go_wp2_with (fail)
    (with_reducible refine (HOP.out _ (HM.out.fp HF2.out (by simp)) (HT.out.fp HF2.out (by simp))).mono ?_)
    rintro e w3 ⟨v3, rfl, ⟨bt, rfl, hfa⟩, hf3⟩
    have HF3 := Lib.hid (HF2.out.trans hf3 (by simp))
    have HFA := Lib.hid hfa
    clear hf3 hfa
    go_wp2_with (fail)
    (with_reducible refine (HRO.out _).mono ?_)
    rintro e w4 ⟨v4, q4, rfl, hol, hf4⟩
    obtain ⟨ho4, hq4, -⟩ : OwnC w4 w3.heap.size v4 l ∧ q4 = q ∧ _ := hol
    subst hq4
    obtain ⟨a4, c4, rfl, hlc4, hc4⟩ := ho4.at3 HOK.out
    have HF4 := Lib.hid (HF3.out.trans hf4 (by simp))
    have HS4 := Lib.hid (same5_any w4 bt a4 l.length c4 l q4 row (HFA.out.fp hf4) hc4 hlc4 HG.out hq hrs (HT.out.fp HF4.out (by simp)))
    clear hf4 ho4 hlc4 hc4
    go_wp2_with (fail)
    (with_reducible refine HS4.out.mono ?_)
    rintro e w5 ⟨rfl, hf5⟩
    have HF5 := Lib.hid (HF4.out.trans hf5 (by simp))
    clear hf5
    go_wp2_with (fail)
    go_ret
    exact ⟨rfl, HF5.out⟩
end Go.Proofs.YtjnapcfclejknaaGreatDoor
