/-
  BlockOnce: the walk.
-/
import Derived.Test.YtepffknhkpppcaaDoorBlkL
namespace Go.Proofs.YtepffknhkpppcaaDoor
open Go.RowKit Go.Lib

theorem ents_tail : ∀ (l : List Cel) (i : Nat) (last y : List UInt8), l.all mayB = true → entsE l.length (bl last) ⟨bl (bodyL i last l ++ y), true⟩ = (l.map entOf, ⟨bl y, true⟩)
  | [], i, last, y, _ => rfl
  | c :: r, i, last, y, h => by
    rw [List.all_cons, Bool.and_eq_true] at h
    rw [List.length_cons]
    unfold entsE bodyL
    rw [List.append_assoc, step_built i last c _ h.1]
    have := ents_tail r (i + 1) (keyL c) y h.2
    show (entOf c :: (entsE r.length (bl (keyL c)) ⟨bl (bodyL (i + 1) (keyL c) r ++ y), true⟩).1, (entsE r.length (bl (keyL c)) ⟨bl (bodyL (i + 1) (keyL c) r ++ y), true⟩).2) = _
    rw [this]
    rfl
/-- of blocks no one is the beginning of another -/
theorem built_apart {l l' : List Cel} {y : List UInt8} (h : (buildP l).2 = 0) (h' : (buildP l').2 = 0) (e : UInt8.ofNat l.length :: bodyL 0 [] l = UInt8.ofNat l'.length :: bodyL 0 [] l' ++ y) : y = [] := by
  obtain ⟨g1, g2, _, _⟩ := build_ok h
  obtain ⟨k1, k2, _, _⟩ := build_ok h'
  rw [List.cons_append, List.cons.injEq] at e
  obtain ⟨e1, e2⟩ := e
  have hlen : l.length = l'.length := by
    have := congrArg UInt8.toNat e1
    rw [ofNat_small (by omega), ofNat_small (by omega)] at this
    exact this
  have a1 := ents_tail l 0 [] [] g2
  have a2 := ents_tail l' 0 [] y k2
  rw [List.append_nil, e2, hlen, a2] at a1
  have : (⟨bl y, true⟩ : Rb) = ⟨bl [], true⟩ := (Prod.mk.inj a1).2
  exact bl_inj (Rb.mk.inj this).1
theorem less_none {l : List Cel} (h : (buildP l).2 = 0) : parseP ((buildP l).1.extract 0 ((buildP l).1.size - 1)) = none := by
  cases hp : parseP ((buildP l).1.extract 0 ((buildP l).1.size - 1)) with
  | none => rfl
  | some l' =>
    exfalso
    obtain ⟨_, h2, h3⟩ := parse_is hp
    obtain ⟨_, _, _, h4⟩ := build_ok h
    obtain ⟨_, _, _, k4⟩ := build_ok h2
    rw [h4, k4, bl_extract, List.drop_zero, Nat.sub_zero, bl_size] at h3
    have e := bl_inj h3
    have := built_apart (y := (UInt8.ofNat l.length :: bodyL 0 [] l).drop ((UInt8.ofNat l.length :: bodyL 0 [] l).length - 1)) h h2 (by rw [e, List.take_append_drop])
    have hl := congrArg List.length this
    rw [List.length_drop, List.length_cons] at hl
    simp only [List.length_nil] at hl
    omega
theorem more_none {l : List Cel} (h : (buildP l).2 = 0) : parseP ((buildP l).1 ++ ⟨#[0]⟩) = none := by
  cases hp : parseP ((buildP l).1 ++ ⟨#[0]⟩) with
  | none => rfl
  | some l' =>
    exfalso
    obtain ⟨_, h2, h3⟩ := parse_is hp
    obtain ⟨_, _, _, h4⟩ := build_ok h
    obtain ⟨_, _, _, k4⟩ := build_ok h2
    rw [h4, k4, show (⟨#[0]⟩ : ByteArray) = bl [0] from rfl, bl_append] at h3
    have e := bl_inj h3
    have := built_apart (y := [0]) h2 h e
    cases this

set_option maxRecDepth 100000 in
set_option maxHeartbeats 4000000 in
theorem once_walk (w : World) (a : Option Addr) (len cap : Nat) (l : List Cel) (hl : CelsAt w a len l) (hn : len ≤ maxLen) (hm : MaxAt w) :
    Calls Tryd.prog 4 #[.slice a len cap] w fun e w' => e = .returned (.bool true) ∧ Fp [] w w' := by
  have hn2 : len ≤ 9223372036854775807 := by unfold maxLen at hn; omega
  have HM := Lib.hid hm
  have HL := Lib.hid hl
  have HSW := Lib.hid (fun w hm => shown4_any w hm)
  have HBO := Lib.hid (bounded4_any w a len cap l hl hn2)
  have HB1 := Lib.hid (fun w hl hm => build_any w a len cap l hl hn2 hm)
  have hbs := built_size (l := l)
  have hbe := built_empty (l := l)
  have hp1 := less_none (l := l)
  have hp2 := more_none (l := l)
  have hpos : (buildP l).2 = 0 → 0 < (buildP l).1.size := fun h => by rw [(build_ok h).2.2.2, bl_size, List.length_cons]; exact Nat.succ_pos _
  obtain ⟨⟨bs, be⟩, hb⟩ : ∃ t, buildP l = t := ⟨_, rfl⟩
  rw [hb] at HB1 hbs hbe hp1 hp2 hpos
  simp only at hbs hbe hp1 hp2 hpos
  have HBE := Lib.hid hbe
  clear hb hbe hm hl hn
  go_enter Tryd.func4, Tryd.ntmps4
  go_wp2_with (fail)
  (with_reducible refine HBO.out.mono ?_)
  rintro e w1 ⟨⟨b, rfl⟩, hf1⟩
  have HF1 := Lib.hid hf1
  clear hf1
  cases b
  · go_wp2_with (fail)
    (with_reducible refine (HSW.out _ (HM.out.fp HF1.out (by simp))).mono ?_)
    rintro e w2 ⟨rfl, hf⟩
    go_wp2_with (fail)
    go_ret
    exact ⟨rfl, HF1.out.trans hf (by simp)⟩
  · go_wp2_with (fail)
    (with_reducible refine (HSW.out _ (HM.out.fp HF1.out (by simp))).mono ?_)
    rintro e w2 ⟨rfl, hf2⟩
    have HF2 := Lib.hid (HF1.out.trans hf2 (by simp))
    clear hf2
    go_wp2_with (fail)
    (with_reducible refine (HB1.out _ (HL.out.fp HF2.out) (HM.out.fp HF2.out (by simp))).mono ?_)
    rintro e w3 ⟨rfl, hf3⟩
    have HF3 := Lib.hid (HF2.out.trans hf3 (by simp))
    clear hf3
    by_cases h0 : be = 0
    · subst h0
      have q1 := hp1 rfl
      have q2 := hp2 rfl
      have q3 := hpos rfl
      have e1 : ((bs.size : Int) - 1).toNat = bs.size - 1 := by omega
      have z1 : (0 : Int) ≤ (bs.size : Int) - 1 := by omega
      have z2 : (bs.size : Int) - 1 ≤ (bs.size : Int) := by omega
      obtain ⟨t1, ht1⟩ : ∃ t, bs.extract 0 (bs.size - 1) = t := ⟨_, rfl⟩
      obtain ⟨t2, ht2⟩ : ∃ t, bs ++ (⟨#[0]⟩ : ByteArray) = t := ⟨_, rfl⟩
      have s1 : t1.size ≤ 100000 := by rw [← ht1]; simp only [ByteArray.size_extract]; omega
      have s2 : t2.size ≤ 100000 := by rw [← ht2]; simp only [ByteArray.size_append]; show _ + 1 ≤ _; omega
      rw [ht1] at q1
      rw [ht2] at q2
      have P1 := Lib.hid (fun w hm => bparse_any w t1 s1 hm)
      have P2 := Lib.hid (fun w hm => bparse_any w t2 s2 hm)
      rw [code_none q1, q1] at P1
      rw [code_none q2, q2] at P2
      have zc : ¬ bs.size + 1 > 9223372036854775807 := by omega
      clear q1 q2 hp1 hp2 hpos HB1
      go_wp2_with (fail)
      (with_reducible refine (P1.out _ (HM.out.fp HF3.out (by simp))).mono ?_)
      rintro e w4 ⟨v4, rfl, ho4, hf4⟩
      have HF4 := Lib.hid (HF3.out.trans hf4 (by simp))
      clear hf4 ho4
      go_wp2_with (fail)
      (with_reducible refine (P2.out _ (HM.out.fp HF4.out (by simp))).mono ?_)
      rintro e w5 ⟨v5, rfl, ho5, hf5⟩
      have HF5 := Lib.hid (HF4.out.trans hf5 (by simp))
      clear hf5 ho5
      go_wp2_with (fail)
      go_ret
      exact ⟨rfl, HF5.out⟩
    · have z0 : ¬ (be : Int) = 0 := by omega
      obtain rfl := HBE.out h0
      clear hp1 hp2 hpos HB1
      go_wp2_with (fail)
      go_ret
      exact ⟨rfl, HF3.out⟩
end Go.Proofs.YtepffknhkpppcaaDoor
