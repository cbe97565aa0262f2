/-
  BlockErrors: the walk.
-/
import Derived.Test.YtepffknhkpppcaaDoorBlkL
import Derived.Test.YtepffknhkpppcaaDoorCelsStep
namespace Go.Proofs.YtepffknhkpppcaaDoor
open Go.RowKit Go.Lib

theorem built_errs (l : List Cel) : (buildP l).2 = 0 ∨ ((buildP l).2 = 71 ∧ l.length > 255) ∨ (buildP l).2 = 1 ∨ (buildP l).2 = 40 := by
  unfold buildP
  split
  · exact Or.inr (Or.inl ⟨rfl, by assumption⟩)
  · split
    · exact Or.inr (Or.inr (Or.inl rfl))
    · split
      · exact Or.inr (Or.inr (Or.inr rfl))
      · exact Or.inl rfl
def twiceL (l : List Cel) (k : Nat) (c : Cel) : List Cel := l.take (k + 1) ++ [c] ++ l.drop (k + 1)
theorem twice_len {l : List Cel} {k : Nat} {c : Cel} (hk : k < l.length) : (twiceL l k c).length = l.length + 1 := by
  unfold twiceL
  simp only [List.length_append, List.length_take, List.length_drop, List.length_cons, List.length_nil]
  omega
theorem twice_ok {l : List Cel} {k : Nat} (hok : ∀ c ∈ l, CelOK c) (hk : k < l.length) : ∀ c ∈ twiceL l k l[k], CelOK c := by
  intro c hc
  unfold twiceL at hc
  simp only [List.mem_append, List.mem_cons, List.not_mem_nil, or_false] at hc
  rcases hc with (h | h) | h
  · exact hok _ (List.mem_of_mem_take h)
  · rw [h]; exact hok _ (List.getElem_mem hk)
  · exact hok _ (List.mem_of_mem_drop h)
/-- a cell that stands twice: no block -/
theorem twice_err {l : List Cel} {k : Nat} (hok : ∀ c ∈ l, CelOK c) (hm : l.all mayB = true) (hk : k < l.length) : (buildP (twiceL l k l[k])).2 = 40 ∨ ((twiceL l k l[k]).length > 255 ∧ (buildP (twiceL l k l[k])).2 = 71) := by
  have h2 : (twiceL l k l[k]).all mayB = true := by
    rw [List.all_eq_true] at hm ⊢
    intro c hc
    unfold twiceL at hc
    simp only [List.mem_append, List.mem_cons, List.not_mem_nil, or_false] at hc
    rcases hc with (h | h) | h
    · exact hm _ (List.mem_of_mem_take h)
    · rw [h]; exact hm _ (List.getElem_mem hk)
    · exact hm _ (List.mem_of_mem_drop h)
  have h3 : risC (twiceL l k l[k]) = false := by
    refine risC_no (k := k + 1) (by rw [twice_len hk]; omega) ?_
    have e1 : (twiceL l k l[k]).getD k zeroC = l[k] := by
      unfold twiceL
      rw [List.getD_eq_getElem?_getD, List.append_assoc, List.getElem?_append_left (by rw [List.length_take]; omega), List.getElem?_take, if_pos (by omega), List.getElem?_eq_getElem hk]
      rfl
    have e2 : (twiceL l k l[k]).getD (k + 1) zeroC = l[k] := by
      unfold twiceL
      rw [List.getD_eq_getElem?_getD, List.append_assoc, List.getElem?_append_right (by rw [List.length_take]; omega), List.length_take]
      rw [show k + 1 - min (k + 1) l.length = 0 from by omega]
      rfl
    unfold badAt
    rw [Nat.add_sub_cancel, e1, e2, cmpC_self _ (hok _ (List.getElem_mem hk))]
    rw [decide_eq_true (Nat.succ_pos k)]
    rfl
  unfold buildP
  by_cases e : (twiceL l k l[k]).length > 255
  · right
    rw [if_pos e]
    exact ⟨e, rfl⟩
  · left
    rw [if_neg e, if_neg (by rw [h2]; decide), if_pos h3]
def badL (l : List Cel) (k : Nat) : List Cel := l.set k { l.getD k zeroC with row := ⟨#[]⟩ }
theorem bad_ok {l : List Cel} {k : Nat} (hok : ∀ c ∈ l, CelOK c) (hk : k < l.length) : ∀ c ∈ badL l k, CelOK c := by
  intro c hc
  rcases List.mem_or_eq_of_mem_set hc with h | h
  · exact hok _ h
  · have h0 := hok _ (List.getElem_mem hk)
    have e : l.getD k zeroC = l[k] := by rw [List.getD_eq_getElem?_getD, List.getElem?_eq_getElem hk]; rfl
    rw [h, e]
    exact ⟨h0.ts, h0.seq, Nat.zero_le _, h0.col, h0.val⟩
theorem bad_err {l : List Cel} {k : Nat} (hn : l.length ≤ 255) (hk : k < l.length) : (buildP (badL l k)).2 = 1 := by
  unfold buildP
  rw [if_neg (by unfold badL; rw [List.length_set]; omega), if_pos]
  rw [Bool.eq_false_iff]
  intro h
  rw [List.all_eq_true] at h
  have := h _ (List.mem_set (l := l) (i := k) (a := { l.getD k zeroC with row := ⟨#[]⟩ }) hk)
  unfold mayB at this
  rw [nmB_zero rfl] at this
  cases this

/-! the drawn region: what values are good for, and till when -/
def RE (i : Nat) (w w' : World) : Prop := (i = 5 → ∃ g, w.heap[g]? = some (.cells #[] 36 (0, 0)) ∧ w.grownBy w' (some g)) ∧ (i ≠ 5 → i ≠ 11 → i ≠ 16 → Fp [] w w')
theorem RE.calm {i : Nat} {w w' : World} (h5 : i ≠ 5) (h : Fp [] w w') : RE i w w' := ⟨fun e => absurd e h5, fun _ _ _ => h⟩
def S0 (B : Nat) : BS := fun b w v => b 5 = true ∨ b 11 = true ∨ b 16 = true ∨ ∃ g, v = .slice (some ⟨g, 0, none⟩) 0 0 ∧ B ≤ g ∧ w.heap[g]? = some (.cells #[] 36 (0, 0))
def S5 (B : Nat) (l : List Cel) : BS := fun b w v => b 11 = true ∨ b 16 = true ∨ OwnC w B v l
def S10 (c : Cel) : BS := fun b w v => b 11 = true ∨ b 16 = true ∨ ∃ g, v = .slice (some ⟨g, 0, none⟩) 1 1 ∧ CelIn w g c
def S11 (B : Nat) (l : List Cel) : BS := fun b w v => b 16 = true ∨ OwnC w B v l
def S16 (B : Nat) (l : List Cel) : BS := fun _ w v => OwnC w B v l
section
variable {ops : List Oper} {b : Nat → Bool} {i B : Nat} {w w' : World} {v : Value} {l : List Cel} {c : Cel}
theorem S0.stab (h : AdmM ops b i) (hr : RE i w w') (hs : S0 B b w v) : S0 B (upd b i) w' v := by
  rcases hs with h1 | h1 | h1 | ⟨g, e, hb, hg⟩
  · exact Or.inl (upd_keep h1)
  · exact Or.inr (Or.inl (upd_keep h1))
  · exact Or.inr (Or.inr (Or.inl (upd_keep h1)))
  · by_cases e5 : i = 5
    · subst e5; exact Or.inl (upd_same _ _)
    · by_cases e11 : i = 11
      · subst e11; exact Or.inr (Or.inl (upd_same _ _))
      · by_cases e16 : i = 16
        · subst e16; exact Or.inr (Or.inr (Or.inl (upd_same _ _)))
        · exact Or.inr (Or.inr (Or.inr ⟨g, e, hb, ((hr.2 e5 e11 e16).block g (heap_lt hg) (by simp)).trans hg⟩))
theorem S5.stab (h : AdmM ops b i) (h0 : b 5 = true) (hr : RE i w w') (hs : S5 B l b w v) : S5 B l (upd b i) w' v := by
  rcases hs with h1 | h1 | h1
  · exact Or.inl (upd_keep h1)
  · exact Or.inr (Or.inl (upd_keep h1))
  · by_cases e11 : i = 11
    · subst e11; exact Or.inl (upd_same _ _)
    · by_cases e16 : i = 16
      · subst e16; exact Or.inr (Or.inl (upd_same _ _))
      · have e5 : i ≠ 5 := fun e => by subst e; rw [h.self] at h0; cases h0
        exact Or.inr (Or.inr (h1.fp (hr.2 e5 e11 e16) (by simp)))
theorem S10.stab (h : AdmM ops b i) (hr : RE i w w') (hs : S10 c b w v) : S10 c (upd b i) w' v := by
  rcases hs with h1 | h1 | ⟨g, e, h1⟩
  · exact Or.inl (upd_keep h1)
  · exact Or.inr (Or.inl (upd_keep h1))
  · by_cases e11 : i = 11
    · subst e11; exact Or.inl (upd_same _ _)
    · by_cases e16 : i = 16
      · subst e16; exact Or.inr (Or.inl (upd_same _ _))
      · by_cases e5 : i = 5
        · obtain ⟨g2, h2, h3⟩ := hr.1 e5
          refine Or.inr (Or.inr ⟨g, e, (h3.block g (heap_lt h1) fun e => ?_).trans h1⟩)
          obtain rfl := Option.some.inj e
          have h4 : w.heap[g]? = _ := h1
          rw [h2] at h4
          cases h4
        · exact Or.inr (Or.inr ⟨g, e, h1.fp (hr.2 e5 e11 e16) (by simp)⟩)
theorem S11.stab (h : AdmM ops b i) (hp : preN ops 11 5 = true) (h0 : b 11 = true) (hr : RE i w w') (hs : S11 B l b w v) : S11 B l (upd b i) w' v := by
  rcases hs with h1 | h1
  · exact Or.inl (upd_keep h1)
  · by_cases e16 : i = 16
    · subst e16; exact Or.inl (upd_same _ _)
    · have e11 : i ≠ 11 := fun e => by subst e; rw [h.self] at h0; cases h0
      have e5 : i ≠ 5 := fun e => by subst e; have := h.closed 11 5 h0 hp; rw [h.self] at this; cases this
      exact Or.inr (h1.fp (hr.2 e5 e11 e16) (by simp))
theorem S16.stab (h : AdmM ops b i) (hp : preN ops 11 5 = true) (hq : preN ops 16 11 = true) (h0 : b 16 = true) (hr : RE i w w') (hs : S16 B l b w v) : S16 B l (upd b i) w' v := by
  have h11 := h.closed 16 11 h0 hq
  have h5 := h.closed 11 5 h11 hp
  have e16 : i ≠ 16 := fun e => by subst e; rw [h.self] at h0; cases h0
  have e11 : i ≠ 11 := fun e => by subst e; rw [h.self] at h11; cases h11
  have e5 : i ≠ 5 := fun e => by subst e; rw [h.self] at h5; cases h5
  exact OwnC.fp hs (hr.2 e5 e11 e16) (by simp)
theorem adm_no (h : AdmM ops b i) {j k : Nat} (hp : preN ops j k = true) (hk : b k = false) : b j = false := by
  cases e : b j with
  | false => rfl
  | true => have := h.closed j k e hp; rw [hk] at this; cases this
end

set_option maxRecDepth 100000 in
set_option maxHeartbeats 8000000 in
theorem errors_walk (w : World) (a : Option Addr) (len cap : Nat) (l : List Cel) (z : Int) (hl : CelsAt w a len l) (hn : len ≤ maxLen ∧ len ≤ cap ∧ cap ≤ maxLen) (hz0 : 0 ≤ z) (hz1 : z ≤ 255) (hm : MaxAt w) :
    Calls Tryd.prog 6 #[.slice a len cap, .int .u8 z] w fun e w' => e = .returned (.bool true) ∧ Fp [] w w' := by
  obtain ⟨x, rfl⟩ : ∃ x : Nat, z = x := ⟨z.toNat, by omega⟩
  obtain ⟨hn, hcap, hcm⟩ := hn
  have hn2 : len ≤ 9223372036854775807 := by unfold maxLen at hn; omega
  have HM := Lib.hid hm
  have HL := Lib.hid hl
  have HLN := Lib.hid hl.len
  have HSW := Lib.hid (fun w hm => shown4_any w hm)
  have HBO := Lib.hid (bounded4_any w a len cap l hl hn2)
  have HB1 := Lib.hid (fun w hl hm => build_any w a len cap l hl hn2 hm)
  have hbe := built_errs l
  have hbo := build_ok (l := l)
  obtain ⟨⟨bs, be⟩, hb⟩ : ∃ t, buildP l = t := ⟨_, rfl⟩
  rw [hb] at HB1 hbo hbe
  simp only at hbo hbe
  rw [← HLN.out] at hbe
  have HBO2 := Lib.hid hbo
  have HBE := Lib.hid hbe
  clear hb hm hl hbo hbe
  go_enter Tryd.func6, Tryd.ntmps6
  go_wp2_with (fail)
  (with_reducible refine HBO.out.mono ?_)
  rintro e w1 ⟨⟨b, rfl⟩, hf1⟩
  have HF1 := Lib.hid hf1
  clear hf1
  cases b
  · go_wp2_with (fail)
    (with_reducible refine (HSW.out _ (HM.out.fp HF1.out (by simp))).mono ?_)
    rintro e w2 ⟨rfl, hf⟩
    go_wp2_with (fail)
    go_ret
    exact ⟨rfl, HF1.out.trans hf (by simp)⟩
  · go_wp2_with (fail)
    (with_reducible refine (HSW.out _ (HM.out.fp HF1.out (by simp))).mono ?_)
    rintro e w2 ⟨rfl, hf2⟩
    have HF2 := Lib.hid (HF1.out.trans hf2 (by simp))
    clear hf2
    go_wp2_with (fail)
    (with_reducible refine (HB1.out _ (HL.out.fp HF2.out) (HM.out.fp HF2.out (by simp))).mono ?_)
    rintro e w3 ⟨rfl, hf3⟩
    have HF3 := Lib.hid (HF2.out.trans hf3 (by simp))
    clear hf3 HB1
    rcases HBE.out with rfl | ⟨rfl, h255⟩ | rfl | rfl
    · by_cases hl0 : len = 0
      · subst hl0
        go_wp2_with (fail)
        go_ret
        exact ⟨rfl, HF3.out⟩
      · have y0 : ((len : Int) == 0) = false := by rw [beq_eq_false_iff_ne]; omega
        obtain ⟨k, hk⟩ : ∃ k, x % len = k := ⟨_, rfl⟩
        have hkl : k < len := by rw [← hk]; exact Nat.mod_lt _ (by omega)
        have e1 : (x : Int) % (len : Int) = (k : Int) := by rw [← hk]; rfl
        have hkl2 : k < l.length := by rw [← HLN.out]; exact hkl
        have hle : l.length ≤ 255 := (HBO2.out rfl).1
        have hlen255 : len ≤ 255 := by rw [HLN.out]; exact hle
        have htw := twice_err HL.out.ok (HBO2.out rfl).2.1 hkl2
        have hbd := bad_err hle hkl2
        have hto := twice_ok HL.out.ok hkl2
        have hbo := bad_ok HL.out.ok hkl2
        have htl := twice_len (c := l[k]) hkl2
        obtain ⟨b1, o1, rfl, hb1, hcells⟩ := cels_get HL.out hkl2
        obtain ⟨c, hc⟩ : ∃ c, l[k] = c := ⟨_, rfl⟩
        have hoc : CelOK c := by rw [← hc]; exact HL.out.ok _ (List.getElem_mem hkl2)
        rw [hc] at hcells htw hto htl
        have HLE := Lib.hid hle
        have HTW := Lib.hid htw
        have HBD := Lib.hid hbd
        have HTO := Lib.hid hto
        have HBO3 := Lib.hid hbo
        have HTL := Lib.hid htl
        have HCE := Lib.hid hcells
        have HOC := Lib.hid hoc
        obtain ⟨k1, hk1⟩ : ∃ k1, k + 1 = k1 := ⟨_, rfl⟩
        have n1 : IntKind.i64.wrap ((k : Int) + 1) = (k1 : Int) := by rw [IntKind.wrap_i64]; omega
        have hkc : (k1 : Int) ≤ (cap : Int) := by omega
        have hkl1 : (k1 : Int) ≤ (len : Int) := by omega
        have hlc1 : (len : Int) ≤ (cap : Int) := by omega
        clear hk hc hoc hcells htw hbd hto hbo htl hle HBO2 HBE HBO
        obtain ⟨row, col, ts, seq, del, val⟩ := c
        have hTK := HL.out.take k1 (by omega)
        obtain ⟨ad, had, hDR⟩ : ∃ ad, (if cap = k1 then some (⟨b1, o1, none⟩ : Addr) else some ⟨b1, o1 + k1 * 6, none⟩) = some ad ∧ CelsAt w (some ad) (len - k1) (l.drop k1) := by
          by_cases e : cap = k1
          · refine ⟨_, if_pos e, ?_⟩
            have h0 : l.drop k1 = [] := List.drop_eq_nil_of_le (by have := HLN.out; omega)
            rw [h0]
            exact ⟨by show len - k1 = 0; omega, Or.inl rfl, by simp⟩
          · exact ⟨_, if_neg e, HL.out.drop k1 (len - k1) (by omega)⟩
        have HTK := Lib.hid hTK
        have HDR := Lib.hid hDR
        clear hTK hDR
        go_wp2_with (fail)
        refine wp_region_m (fun _ w' => Fp [] w3 w') RE (by kernel_rfl) (by kernel_rfl) (Fp.drew _) ?_
        -- 0
        apply mx_turn (S0 w3.heap.size) rfl rfl rfl
        · intro b a w hC hA K hK
          simp only [Oper.wp, execOp]; go_simp
          exact hK _ _ (hC.alloc' _) (RE.calm (by decide) (Fp.alloc _ _)) (Or.inr (Or.inr (Or.inr ⟨_, rfl, hC.size, heap_alloc_at rfl _⟩)))
        -- 1
        apply mx_plain (fun _ _ h => h) rfl rfl rfl
        · intro b a w hC hA K hK
          have h0 := hA.free 0 _ (by kernel_rfl) rfl
          simp only [Oper.wp, execOp]; go_simp
          exact hK _ hC (RE.calm (by decide) (Fp.refl _ _))
        -- 2
        apply mx_plain (fun _ _ h => h) rfl rfl rfl
        · intro b a w hC hA K hK
          have h7 := hA.free 7 _ (by kernel_rfl) rfl
          simp only [Oper.wp, execOp]; go_simp
          exact hK _ hC (RE.calm (by decide) (Fp.refl _ _))
        -- 3
        apply mx_plain (fun _ _ h => h) rfl rfl rfl
        · intro b a w hC hA K hK
          have h60 : a.tmps[60]?.getD undef = _ := hA.dep 2 60 _ (by kernel_rfl) rfl
          simp only [Oper.wp, execOp]; go_simp
          exact hK _ hC (RE.calm (by decide) (Fp.refl _ _))
        -- 4
        apply mx_plain (fun _ _ h => h) rfl rfl rfl
        · intro b a w hC hA K hK
          have h59 : a.tmps[59]?.getD undef = _ := hA.dep 1 59 _ (by kernel_rfl) rfl
          have h61 : a.tmps[61]?.getD undef = _ := hA.dep 3 61 _ (by kernel_rfl) rfl
          simp only [Oper.wp, execOp]; go_simp
          exact hK _ hC (RE.calm (by decide) (Fp.refl _ _))
        -- 5
        apply mx_turn (S5 w3.heap.size (l.take k1)) rfl rfl rfl
        · intro b a w hC hA K hK
          have h58 := hA.dep 0 58 _ (by kernel_rfl) rfl
          have h62 : a.tmps[62]?.getD undef = _ := hA.dep 4 62 _ (by kernel_rfl) rfl
          have n5 := hA.adm.self
          have n11 := hA.adm.post 11 (by kernel_rfl)
          have n16 := adm_no hA.adm (j := 16) (k := 11) (by kernel_rfl) n11
          rcases h58 with m | m | m | ⟨g, e58, hg, hh⟩
          · rw [n5] at m; cases m
          · rw [n11] at m; cases m
          · rw [n16] at m; cases m
          refine wp_append_cels _ _ rfl w3.heap.size _ [] (ev_tmp e58) (OwnC.empty hg hh) _ _ _ _ (ev_tmp h62) (HTK.out.fp (HF3.out.trans hC (by simp))) (by have := HLE.out; simp only [List.length_take, List.length_nil]; omega) hC.size ?_
          intro v' w' ho hgr hbel
          exact hK _ _ (hC.belowTrans hbel) ⟨fun _ => ⟨g, hh, hgr⟩, fun h => absurd rfl h⟩ (Or.inr (Or.inr ho))
        -- 6
        apply mx_plain (fun _ _ h => h) rfl rfl rfl
        · intro b a w hC hA K hK
          have h0 := hA.free 0 _ (by kernel_rfl) rfl
          simp only [Oper.wp, execOp]; go_simp
          exact hK _ hC (RE.calm (by decide) (Fp.refl _ _))
        -- 7
        apply mx_plain (fun _ _ h => h) rfl rfl rfl
        · intro b a w hC hA K hK
          have h7 := hA.free 7 _ (by kernel_rfl) rfl
          simp only [Oper.wp, execOp]; go_simp
          exact hK _ hC (RE.calm (by decide) (Fp.refl _ _))
        -- 8
        apply mx_plain (fun _ _ h => h) rfl rfl rfl
        · intro b a w hC hA K hK
          have h64 : a.tmps[64]?.getD undef = _ := hA.dep 6 64 _ (by kernel_rfl) rfl
          have h65 : a.tmps[65]?.getD undef = _ := hA.dep 7 65 _ (by kernel_rfl) rfl
          obtain ⟨q0, q1, q2, q3, q4, q5⟩ := HCE.out _ (HF3.out.trans hC (by simp))
          simp only [Oper.wp, execOp]; go_simp
          exact hK _ hC (RE.calm (by decide) (Fp.refl _ _))
        -- 9
        apply mx_plain (fun _ _ h => h) rfl rfl rfl
        · intro b a w hC hA K hK
          have h66 : a.tmps[66]?.getD undef = _ := hA.dep 8 66 _ (by kernel_rfl) rfl
          obtain ⟨q0, q1, q2, q3, q4, q5⟩ := HCE.out _ (HF3.out.trans hC (by simp))
          simp only [Oper.wp, execOp]; go_simp
          exact hK _ hC (RE.calm (by decide) (Fp.refl _ _))
        -- 10
        apply mx_turn (S10 ⟨row, col, ts, seq, del, val⟩) rfl rfl rfl
        · intro b a w hC hA K hK
          have h67 : a.tmps[67]?.getD undef = _ := hA.dep 9 67 _ (by kernel_rfl) rfl
          simp only [Oper.wp, execOp]; go_simp
          exact hK _ _ (hC.alloc' _) (RE.calm (by decide) (Fp.alloc _ _)) (Or.inr (Or.inr ⟨_, rfl, heap_alloc_at rfl _⟩))
        -- 11
        apply mx_turn (S11 w3.heap.size (l.take k1 ++ [⟨row, col, ts, seq, del, val⟩])) rfl rfl rfl
        · intro b a w hC hA K hK
          have h63 := hA.dep 5 63 _ (by kernel_rfl) rfl
          have h68 := hA.dep 10 68 _ (by kernel_rfl) rfl
          have n11 := hA.adm.self
          have n16 := adm_no hA.adm (j := 16) (k := 11) (by kernel_rfl) n11
          rcases h63 with m | m | h63
          · rw [n11] at m; cases m
          · rw [n16] at m; cases m
          rcases h68 with m | m | ⟨g, e68, hg⟩
          · rw [n11] at m; cases m
          · rw [n16] at m; cases m
          refine wp_append_cels _ _ rfl w3.heap.size _ _ (ev_tmp rfl) h63 _ _ _ [⟨row, col, ts, seq, del, val⟩] (ev_tmp e68) (CelIn.one hg HOC.out) (by have := HLE.out; simp only [List.length_take, List.length_cons, List.length_nil]; omega) hC.size ?_
          intro v' w' ho hgr hbel
          exact hK _ _ (hC.belowTrans hbel) ⟨fun h => absurd h (by decide), fun _ h => absurd rfl h⟩ (Or.inr ho)
        -- 12
        apply mx_plain (fun _ _ h => h) rfl rfl rfl
        · intro b a w hC hA K hK
          have h0 := hA.free 0 _ (by kernel_rfl) rfl
          simp only [Oper.wp, execOp]; go_simp
          exact hK _ hC (RE.calm (by decide) (Fp.refl _ _))
        -- 13
        apply mx_plain (fun _ _ h => h) rfl rfl rfl
        · intro b a w hC hA K hK
          have h7 := hA.free 7 _ (by kernel_rfl) rfl
          simp only [Oper.wp, execOp]; go_simp
          exact hK _ hC (RE.calm (by decide) (Fp.refl _ _))
        -- 14
        apply mx_plain (fun _ _ h => h) rfl rfl rfl
        · intro b a w hC hA K hK
          have h71 : a.tmps[71]?.getD undef = _ := hA.dep 13 71 _ (by kernel_rfl) rfl
          simp only [Oper.wp, execOp]; go_simp
          exact hK _ hC (RE.calm (by decide) (Fp.refl _ _))
        -- 15
        apply mx_plain (fun _ _ h => h) rfl rfl rfl
        · intro b a w hC hA K hK
          have h70 : a.tmps[70]?.getD undef = _ := hA.dep 12 70 _ (by kernel_rfl) rfl
          have h72 : a.tmps[72]?.getD undef = _ := hA.dep 14 72 _ (by kernel_rfl) rfl
          simp only [Oper.wp, execOp]; go_simp
          exact hK _ hC (RE.calm (by decide) (Fp.refl _ _))
        -- 16
        apply mx_turn (S16 w3.heap.size (twiceL l k ⟨row, col, ts, seq, del, val⟩)) rfl rfl rfl
        · intro b a w hC hA K hK
          have h69 := hA.dep 11 69 _ (by kernel_rfl) rfl
          have h73 : a.tmps[73]?.getD undef = _ := hA.dep 15 73 _ (by kernel_rfl) rfl
          have n16 := hA.adm.self
          rcases h69 with m | h69
          · rw [n16] at m; cases m
          refine wp_append_cels _ _ rfl w3.heap.size _ _ (ev_tmp rfl) h69 _ _ _ (l.drop k1) (ev_tmp h73) (HDR.out.fp (HF3.out.trans hC (by simp))) (by have := HLE.out; simp only [List.length_append, List.length_take, List.length_drop, List.length_cons, List.length_nil]; omega) hC.size ?_
          intro v' w' ho hgr hbel
          exact hK _ _ (hC.belowTrans hbel) ⟨fun h => absurd h (by decide), fun _ _ h => absurd rfl h⟩ (by rw [← hk1] at ho; exact ho)
        -- 17
        apply mx_turn (S16 w3.heap.size (twiceL l k ⟨row, col, ts, seq, del, val⟩)) rfl rfl rfl
        · intro b a w hC hA K hK
          have h74 := hA.dep 16 74 _ (by kernel_rfl) rfl
          simp only [Oper.wp, execOp]; go_simp
          exact hK _ _ hC (RE.calm (by decide) (Fp.refl _ _)) h74
        refine ⟨?_, ?_⟩
        · refine ⟨fun b i w w' v h h0 hr hs => S16.stab h (by kernel_rfl) (by kernel_rfl) (h.closed 17 16 h0 (by kernel_rfl)) hr hs, ?_⟩
          refine ⟨fun b i w w' v h h0 hr hs => S16.stab h (by kernel_rfl) (by kernel_rfl) h0 hr hs, ?_⟩
          refine stabM_val _ ?_
          refine stabM_val _ ?_
          refine stabM_val _ ?_
          refine stabM_val _ ?_
          refine ⟨fun b i w w' v h h0 hr hs => S11.stab h (by kernel_rfl) h0 hr hs, ?_⟩
          refine ⟨fun b i w w' v h h0 hr hs => S10.stab h hr hs, ?_⟩
          refine stabM_val _ ?_
          refine stabM_val _ ?_
          refine stabM_val _ ?_
          refine stabM_val _ ?_
          refine ⟨fun b i w w' v h h0 hr hs => S5.stab h h0 hr hs, ?_⟩
          refine stabM_val _ ?_
          refine stabM_val _ ?_
          refine stabM_val _ ?_
          refine stabM_val _ ?_
          refine ⟨fun b i w w' v h h0 hr hs => S0.stab h hr hs, ?_⟩
          exact trivial
        · intro w4 bb hC hbb
          simp only [List.reverse_cons, List.reverse_nil, List.nil_append, List.cons_append, List.map_cons, List.map_nil]
          refine all_some ?_
          intro v0 u0
          iterate 4 (refine all_val ?_)
          refine all_some ?_
          intro v5 u5
          iterate 4 (refine all_val ?_)
          refine all_some ?_
          intro v10 u10
          refine all_some ?_
          intro v11 u11
          iterate 4 (refine all_val ?_)
          refine all_some ?_
          intro v16 u16
          refine all_some ?_
          intro v17 u17
          refine all_nil ?_
          simp only [putAll, Act.put, List.setIfInBounds_toArray, List.set_cons_succ, List.set_cons_zero]
          clear u0 u5 u10 u11 u16 hbb
          obtain ⟨a4, c4, rfl, hat4⟩ := OwnC.at (l := twiceL l k ⟨row, col, ts, seq, del, val⟩) u17 HTO.out
          have HF4 := Lib.hid (HF3.out.trans hC (by simp))
          have HA4 := Lib.hid hat4
          clear hC hat4 u17
          obtain ⟨tn, htn⟩ : ∃ tn, (twiceL l k ⟨row, col, ts, seq, del, val⟩).length = tn := ⟨_, rfl⟩
          have htn2 : tn ≤ 9223372036854775807 := by have h1 := HTL.out; have h2 := HLE.out; rw [htn] at h1; omega
          have HBT := Lib.hid (build_any w4 a4 tn c4 _ (by rw [← htn]; exact HA4.out) htn2 (HM.out.fp HF4.out (by simp)))
          have HTW2 := Lib.hid HTW.out
          rw [htn] at HTW2
          obtain ⟨⟨tb, te⟩, ht⟩ : ∃ t, buildP (twiceL l k ⟨row, col, ts, seq, del, val⟩) = t := ⟨_, rfl⟩
          rw [ht] at HBT HTW2
          rw [htn]
          clear ht htn htn2
          go_wp2_with (fail)
          (with_reducible refine HBT.out.mono ?_)
          rintro e w5 ⟨rfl, hf5⟩
          have HF5 := Lib.hid (HF4.out.trans hf5 (by simp))
          clear hf5
          go_wp2_with (at_builtin; (refine wpList_append_cels rfl _ _ rfl w5.heap.size _ [] rfl (OwnC.made w5 _ (Nat.le_refl _)) _ len cap l rfl (HL.out.fp (HF5.out.alloc' _)) (by intro h; cases h) (by have := HLE.out; simp only [List.length_nil]; omega) (by simp) ?_); intro v6 w6 ho6 hb6; have HF6 := Lib.hid ((HF5.out.alloc' (.cells #[] 36)).belowTrans (hb6.mono (by have := HF5.out.size; simp; omega))); obtain ⟨g, cap6, cur, rfl, hg, hh, hlc, hcm6, hcs6, -⟩ := OwnC.open (l := l) ho6 (by omega); have HO6 := Lib.hid (show OwnC w6 w5.heap.size (.slice (some ⟨g, 0, none⟩) l.length cap6) l from ho6); have hz : w6.frozen? ⟨g, k * 6, none⟩ = false := frozen_of_block hh _; have hq : w6.cell? ⟨g, k * 6, none⟩ = some (cur[k * 6]'(by omega)) := by { rw [cell_of_block hh]; exact Array.getElem?_eq_getElem (by omega) }; clear ho6 hb6 hh)
          have hb7 := HO6.out.setRow ⟨#[]⟩ hkl2
          have hl7 : (badL l k).length = l.length := List.length_set
          have hat7 : CelsAt (w6.setCell ⟨g, k * 6, none⟩ (.string ⟨#[]⟩)) (some ⟨g, 0, none⟩) l.length (badL l k) := by
            obtain ⟨a7, c7, e7, h7⟩ := OwnC.at (l := badL l k) hb7 HBO3.out
            rw [hl7] at e7 h7
            cases e7
            exact h7
          have HF7 : Hid (Fp [] w (w6.setCell ⟨g, k * 6, none⟩ (.string ⟨#[]⟩))) := HF6.out.setCell' (Or.inr (by show w.heap.size ≤ g; have := HF5.out.size; omega)) _
          have HBB := Lib.hid (build_any _ (some ⟨g, 0, none⟩) l.length cap6 _ hat7 (by have := HLE.out; omega) (HM.out.fp HF7.out (by simp)))
          obtain ⟨⟨bb, bq⟩, hbb⟩ : ∃ t, buildP (badL l k) = t := ⟨_, rfl⟩
          have HBD2 := Lib.hid HBD.out
          rw [hbb] at HBB HBD2
          have hbq : bq = 1 := HBD2.out
          subst hbq
          clear hbb hb7 hl7 hat7
          (with_reducible refine HBB.out.mono ?_)
          rintro e w8 ⟨rfl, hf8⟩
          have HF8 := Lib.hid (HF7.out.trans hf8 (by simp))
          clear hf8 HBB HBD2
          rcases HTW2.out with rfl | ⟨h255, rfl⟩
          · go_wp2_with (fail)
            go_ret
            exact ⟨rfl, HF8.out⟩
          · have g255 : (255 : Int) < tn := by omega
            go_wp2_with (fail)
            go_ret
            exact ⟨rfl, HF8.out⟩
    · have g255 : (255 : Int) < len := by omega
      go_wp2_with (fail)
      go_ret
      exact ⟨rfl, HF3.out⟩
    · go_wp2_with (fail)
      go_ret
      exact ⟨rfl, HF3.out⟩
    · go_wp2_with (fail)
      go_ret
      exact ⟨rfl, HF3.out⟩
end Go.Proofs.YtepffknhkpppcaaDoor
