/-
 The evaluator's operations are the model's: numbers and bytes that are not known. The evaluator's operations are the model's: places, parts, rows. The evaluator's operations are the model's: what is made anew. The evaluator's operations are the model's: composite values, slices, conversions.
-/
import Derived.Test.YtigajcabgaddgaaGreatDoorWEvL
import Derived.Laws.Closers25b
import Derived.Lib.ConvBytes
import Derived.Lib.UnsafeStr
import Derived.Deep.AppendSrc
import Derived.Laws.BytesString
set_option maxRecDepth 100000
set_option maxHeartbeats 8000000
namespace Go.Proofs.YtigajcabgaddgaaGreatDoor
section
set_option linter.unusedSectionVars false
open Go.RowKit
variable [Val] {P : Program} {w0 : World} {ρ : ERho}
theorem BsR.length : ∀ {s b : List Nat}, BsR s b → s.length = b.length
 |_, _, .nil => rfl
 |_, _, .cons _ _ _ _ _ hs => congrArg Nat.succ hs.length
theorem BsR.nth : ∀ {s b : List Nat}, BsR s b → ∀ {k c : Nat}, s[k]? = some c → ∃ x, b[k]? = some x ∧ ByR c x
 |_, _, .nil, k, c, h => by simp at h
 |_, _, .cons c x s b h hs, 0, d, e => by
  simp only [List.getElem?_cons_zero, Option.some.injEq] at e
  subst e
  exact ⟨x, rfl, h⟩
 |_, _, .cons c x s b h hs, k + 1, d, e => hs.nth (by simpa using e)
theorem BsR.append : ∀ {s b t d : List Nat}, BsR s b → BsR t d → BsR (s ++ t) (b ++ d)
 |_, _, _, _, .nil, h => h
 |_, _, _, _, .cons c x s b h hs, k => .cons c x _ _ h (hs.append k)
theorem BsR.drop : ∀ {s b : List Nat}, BsR s b → ∀ n, BsR (s.drop n) (b.drop n)
 |_, _, h, 0 => h
 |_, _, .nil, n + 1 => by simpa using BsR.nil
 |_, _, .cons _ _ _ _ _ hs, n + 1 => hs.drop n
theorem BsR.take : ∀ {s b : List Nat}, BsR s b → ∀ n, BsR (s.take n) (b.take n)
 |_, _, _, 0 => by simpa using BsR.nil
 |_, _, .nil, n + 1 => by simpa using BsR.nil
 |_, _, .cons c x _ _ h hs, n + 1 => .cons c x _ _ h (hs.take n)
theorem BsR.lt : ∀ {s b : List Nat}, BsR s b → ∀ x ∈ b, x < 256
 |_, _, .nil, x, h => by simp at h
 |_, _, .cons c y s b h hs, x, hx => by
  rcases List.mem_cons.1 hx with rfl | hx
  ·exact h.1
  ·exact hs.lt x hx
theorem ByR.conc {c : Nat} (h : c < 256) : ByR c c := ⟨h, fun _ => rfl, fun h2 => by omega⟩
theorem BsR.conc : ∀ {s : List Nat}, (∀ x ∈ s, x < 256) → BsR s s
 |[], _ => .nil
 |c :: s, h => .cons c c s s (.conc (h c (by simp))) (BsR.conc fun x hx => h x (by simp [hx]))
theorem BsR.same : ∀ {s b : List Nat}, BsR s b → all256 s = true → b = s ∧ ∀ x ∈ s, x < 256
 |_, _, .nil, _ => ⟨rfl, by simp⟩
 |_, _, .cons c x s b h hs, ha => by
  have ha' : iand (Nat.blt c 256) (all256 s) = true := ha
  rw [iand_eq, Bool.and_eq_true, nblt_iff] at ha'
  obtain ⟨h1, h2⟩ := hs.same ha'.2
  obtain rfl := h.2.1 ha'.1
  rw [h1]
  refine ⟨rfl, fun y hy => ?_⟩
  rcases List.mem_cons.1 hy with rfl | hy
  ·exact ha'.1
  ·exact h2 y hy
theorem mkS_vr {s b : List Nat} (h : BsR s b) : VR ρ (mkS s) (.string (bsA b)) := by
 unfold mkS
 cases ha : all256 s with
 |false => exact .ss s b h
 |true =>
  obtain ⟨rfl, h2⟩ := h.same ha
  exact .st _ h2
theorem cA_vr {c x : Nat} (h : ByR c x) (k : IntKind) : VR ρ (cA k c) (.int k (x : Int)) := by
 unfold cA
 by_cases hc : c < 256
 ·rw [nblt_iff.2 hc, h.2.1 hc]
  exact .it k c
 ·rw [show Nat.blt c 256 = false from by rw [Bool.eq_false_iff]; exact fun e => hc (nblt_iff.1 e)]
  obtain ⟨h1, h2, h3⟩ := h.2.2 (by omega)
  exact .iv k _ _ _ _ (by show ((cLo c : Nat) : Int) ≤ x; omega) (by show (x : Int) ≤ ((cHi c : Nat) : Int); omega) h3
theorem sOf_vr {v : AV} {x : Value} {s : List Nat} (hv : VR ρ v x) (h : sOf v = some s) : ∃ b, x = .string (bsA b) ∧ BsR s b := by
 cases hv with
 |st t ht => cases h; exact ⟨_, rfl, .conc ht⟩
 |ss t b hb => cases h; exact ⟨b, rfl, hb⟩
 |_ => cases h
theorem cBounds {c x : Nat} (h : ByR c x) : cDn c ≤ x ∧ x ≤ cUp c := by
 unfold cDn cUp
 by_cases hc : c < 256
 ·rw [nblt_iff.2 hc, h.2.1 hc]
  exact ⟨Nat.le_refl _, Nat.le_refl _⟩
 ·rw [show Nat.blt c 256 = false from by rw [Bool.eq_false_iff]; exact fun e => hc (nblt_iff.1 e)]
  obtain ⟨h1, h2, _⟩ := h.2.2 (by omega)
  exact ⟨h1, h2⟩
theorem ceq_ok {c d x y : Nat} (hx : ByR c x) (hy : ByR d y) {t : Bool} (h : ceq c d = some t) : t = (x == y) := by
 unfold ceq at h
 cases h1 : iand (Nat.blt c 256) (Nat.blt d 256) with
 |true =>
  rw [h1] at h
  rw [iand_eq, Bool.and_eq_true, nblt_iff, nblt_iff] at h1
  cases h
  rw [nbeq, hx.2.1 h1.1, hy.2.1 h1.2]
 |false =>
  rw [h1] at h
  cases h2 : ior (Nat.blt (cUp c) (cDn d)) (Nat.blt (cUp d) (cDn c)) with
  |true =>
   rw [h2] at h
   cases h
   rw [ior_eq, Bool.or_eq_true, nblt_iff, nblt_iff] at h2
   have b1 := cBounds hx
   have b2 := cBounds hy
   symm
   rw [beq_eq_false_iff_ne]
   omega
  |false =>
   rw [h2] at h
   cases h3 : iand (Nat.ble 256 c) (iand (Nat.blt 0 (cNm c)) (Nat.beq c d)) with
   |false => rw [h3] at h; cases h
   |true =>
    rw [h3] at h
    cases h
    rw [iand_eq, iand_eq, Bool.and_eq_true, Bool.and_eq_true, nble_iff, nblt_iff] at h3
    have e := nbeq_t h3.2.2
    subst e
    have n1 := (hx.2.2 h3.1).2.2 (by omega)
    have n2 := (hy.2.2 h3.1).2.2 (by omega)
    symm
    rw [beq_iff_eq]
    omega
theorem seq_ok : ∀ {a x b y : List Nat}, BsR a x → BsR b y → ∀ {t : Bool}, seq a b = some t → t = (x == y)
 |_, _, _, _, .nil, .nil, t, h => by cases h; rfl
 |_, _, _, _, .nil, .cons _ _ _ _ _ _, t, h => by cases h; rfl
 |_, _, _, _, .cons _ _ _ _ _ _, .nil, t, h => by cases h; rfl
 |_, _, _, _, .cons c x a xs hc ha, .cons d y b ys hd hb, t, h => by
  have h' : (Option.rec none (fun t => Bool.rec (some false) (seq a b) t) (ceq c d) : Option Bool) = some t := h
  cases e : ceq c d with
  |none => rw [e] at h'; cases h'
  |some u =>
   rw [e] at h'
   have h1 := ceq_ok hc hd e
   rw [List.cons_beq_cons, ← h1]
   cases u with
   |false => cases h'; rfl
   |true => exact seq_ok ha hb h'
theorem ev_ssbin {op : BinOp} {t : TypeId} {a b x y : List Nat} (ha : BsR a x) (hb : BsR b y) : EV P w0 ρ (ssbin op a b) (binOp op t (.string (bsA x)) (.string (bsA y))) := by
 have e1 : ((bsA x).toList == (bsA y).toList) = (x == y) := by rw [bsA_toList, bsA_toList, bsA_beq ha.lt hb.lt]
 cases op <;> try exact ev_fail
 case add =>
  refine ev_case fun h => ev_pure fun w => ⟨_, ?_, mkS_vr (by rw [lapp_eq]; exact ha.append hb)⟩
  rw [← bsA_append]
  have := nblt_iff.1 h
  rw [llen_eq, llen_eq] at this
  unfold binOp Op.stringOp
  simp only
  rw [if_neg (by rw [bsA_size, bsA_size, ← ha.length, ← hb.length]; show ¬ ((a.length + b.length : Nat) : Int) > 9223372036854775807; have : a.length + b.length < 1000000000 := this; omega)]
  rfl
 case eql =>
  refine ev_opt fun u hu => ev_pure fun w => ⟨_, ?_, .bo _⟩
  rw [seq_ok ha hb hu]
  simp only [binOp, Op.stringOp, e1]
  rfl
 case neq =>
  refine ev_opt fun u hu => ev_pure fun w => ⟨_, ?_, .bo _⟩
  rw [seq_ok ha hb hu]
  simp only [binOp, Op.stringOp, e1]
  rfl
theorem wrap_in {k : IntKind} {n : Int} (h1 : k.min ≤ n) (h2 : n ≤ k.max) : k.wrap n = n := by
 cases k <;> simp only [IntKind.wrap, IntKind.min, IntKind.max, IntKind.bits, IntKind.signed] at * <;> simp at * <;> (try split) <;> omega
def IvR (a : Nat) (lo hi n : Int) : Prop := lo ≤ n ∧ n ≤ hi ∧ (a ≠ 0 → n = Val.nu a)
theorem IvR.vr {k : IntKind} {a : Nat} {lo hi n : Int} (h : IvR a lo hi n) : VR ρ (.iv k a lo hi) (.int k n) := .iv k a lo hi n h.1 h.2.1 h.2.2
theorem IvR.one (n : Int) : IvR 0 n n n := ⟨Int.le_refl _, Int.le_refl _, fun h => absurd rfl h⟩
theorem full_vr {k : IntKind} {n : Int} (h1 : k.min ≤ n) (h2 : n ≤ k.max) : VR ρ (ivfull k) (.int k n) := .iv k 0 _ _ n h1 h2 fun h => absurd rfl h
theorem ivin_ok {k : IntKind} {lo hi : Int} (h : ivin k lo hi = true) : k.min ≤ lo ∧ hi ≤ k.max := by
 unfold ivin at h
 rw [iand_eq, Bool.and_eq_true, ile_eq, ile_eq, decide_eq_true_eq, decide_eq_true_eq] at h
 exact h
theorem ivmk_vr {k : IntKind} {a : Nat} {lo hi n : Int} (h : IvR a lo hi n) : VR ρ (ivmk k a lo hi) (.int k n) := by
 unfold ivmk
 cases he : ieq lo hi with
 |false => exact h.vr
 |true =>
  rw [ieq_eq, beq_iff_eq] at he
  subst he
  obtain rfl : lo = n := Int.le_antisymm h.1 h.2.1
  exact .it k lo
theorem ivok_vr {k : IntKind} {lo hi n : Int} (h1 : lo ≤ n) (h2 : n ≤ hi) : VR ρ (ivok k lo hi) (.int k (k.wrap n)) := by
 unfold ivok
 cases he : ivin k lo hi with
 |false => exact full_vr (wrap_within k n).1 (wrap_within k n).2
 |true =>
  obtain ⟨h3, h4⟩ := ivin_ok he
  rw [wrap_in (by omega) (by omega)]
  exact ivmk_vr ⟨h1, h2, fun h => absurd rfl h⟩
theorem ivconv_vr {k : IntKind} {a : Nat} {lo hi n : Int} (h : IvR a lo hi n) : VR ρ (ivconv k a lo hi) (.int k (k.wrap n)) := by
 unfold ivconv
 cases he : ivin k lo hi with
 |false => exact full_vr (wrap_within k n).1 (wrap_within k n).2
 |true =>
  obtain ⟨h3, h4⟩ := ivin_ok he
  have := h.1
  have := h.2.1
  rw [wrap_in (by omega) (by omega)]
  exact h.vr
theorem ivcmp_ok {op : BinOp} {a b : Nat} {lo hi lo2 hi2 n m : Int} (h1 : IvR a lo hi n) (h2 : IvR b lo2 hi2 m) {t : Bool} (h : ivcmp op a lo hi b lo2 hi2 = some t) :
  (op = .eql ∧ t = (n == m)) ∨ (op = .neq ∧ t = !(n == m)) ∨ (op = .lss ∧ t = decide (n < m)) ∨ (op = .geq ∧ t = decide (m ≤ n)) ∨ (op = .gtr ∧ t = decide (m < n)) ∨ (op = .leq ∧ t = decide (n ≤ m)) := by
 obtain ⟨a1, a2, a3⟩ := h1
 obtain ⟨b1, b2, b3⟩ := h2
 have key : ∀ {u : Bool}, (Bool.rec (Bool.rec none (some u) (iand (Nat.blt 0 a) (Nat.beq a b))) (some (!u)) (ior (ilt hi lo2) (ilt hi2 lo)) : Option Bool) = some t → t = (if u = true then (n == m) else !(n == m)) := fun {u} h => by
  cases e1 : ior (ilt hi lo2) (ilt hi2 lo) with
  |true =>
   rw [e1] at h
   cases h
   rw [ior_eq, Bool.or_eq_true, ilt_eq, ilt_eq, decide_eq_true_eq, decide_eq_true_eq] at e1
   have : (n == m) = false := by rw [beq_eq_false_iff_ne]; omega
   rw [this]
   cases u <;> rfl
  |false =>
   rw [e1] at h
   cases e2 : iand (Nat.blt 0 a) (Nat.beq a b) with
   |false => rw [e2] at h; cases h
   |true =>
    rw [e2] at h
    cases h
    rw [iand_eq, Bool.and_eq_true, nblt_iff] at e2
    have e3 := nbeq_t e2.2
    subst e3
    have : (n == m) = true := by rw [beq_iff_eq, a3 (by omega), b3 (by omega)]
    rw [this]
    cases t <;> rfl
 have cmp : ∀ {p q r s : Int} {u : Bool}, (Bool.rec (Bool.rec none (some (!u)) (ile p q)) (some u) (ilt r s) : Option Bool) = some t → (r < s → decide (r < s) = true) → (t = u ∧ r < s) ∨ (t = (!u) ∧ p ≤ q) := fun {p q r s u} h _ => by
  cases e1 : ilt r s with
  |true =>
   rw [e1] at h
   cases h
   rw [ilt_eq, decide_eq_true_eq] at e1
   exact Or.inl ⟨rfl, e1⟩
  |false =>
   rw [e1] at h
   cases e2 : ile p q with
   |false => rw [e2] at h; cases h
   |true =>
    rw [e2] at h
    cases h
    rw [ile_eq, decide_eq_true_eq] at e2
    exact Or.inr ⟨rfl, e2⟩
 cases op <;> try (cases h; done)
 case eql => exact Or.inl ⟨rfl, by simpa using key (u := true) h⟩
 case neq => exact Or.inr (Or.inl ⟨rfl, by simpa using key (u := false) h⟩)
 case lss =>
  refine Or.inr (Or.inr (Or.inl ⟨rfl, ?_⟩))
  rcases cmp (u := true) h (fun _ => by simpa) with ⟨rfl, h⟩ | ⟨rfl, h⟩
  ·symm; rw [decide_eq_true_eq]; omega
  ·symm; simp only [Bool.not_true, decide_eq_false_iff_not]; omega
 case geq =>
  refine Or.inr (Or.inr (Or.inr (Or.inl ⟨rfl, ?_⟩)))
  rcases cmp (u := false) h (fun _ => by simpa) with ⟨rfl, h⟩ | ⟨rfl, h⟩
  ·symm; rw [decide_eq_false_iff_not]; omega
  ·symm; simp only [Bool.not_false, decide_eq_true_eq]; omega
 case gtr =>
  refine Or.inr (Or.inr (Or.inr (Or.inr (Or.inl ⟨rfl, ?_⟩))))
  rcases cmp (u := true) h (fun _ => by simpa) with ⟨rfl, h⟩ | ⟨rfl, h⟩
  ·symm; rw [decide_eq_true_eq]; omega
  ·symm; simp only [Bool.not_true, decide_eq_false_iff_not]; omega
 case leq =>
  refine Or.inr (Or.inr (Or.inr (Or.inr (Or.inr ⟨rfl, ?_⟩))))
  rcases cmp (u := false) h (fun _ => by simpa) with ⟨rfl, h⟩ | ⟨rfl, h⟩
  ·symm; rw [decide_eq_false_iff_not]; omega
  ·symm; simp only [Bool.not_false, decide_eq_true_eq]; omega
theorem or_zero {k : IntKind} {n : Int} (h0 : 0 ≤ n) (h1 : n ≤ k.max) : k.wrap ((BitVec.ofInt k.bits n).toNat : Int) = n := by
 have h2 : n < (2 : Int) ^ k.bits := by
  cases k <;> simp only [IntKind.max, IntKind.bits, IntKind.signed] at * <;> simp at * <;> omega
 have hmin : k.min ≤ 0 := by cases k <;> simp [IntKind.min, IntKind.bits, IntKind.signed]
 obtain ⟨m, rfl⟩ : ∃ m : Nat, n = m := ⟨n.toNat, by omega⟩
 rw [BitVec.ofInt_natCast, BitVec.toNat_ofNat, Nat.mod_eq_of_lt (by have : ((m : Nat) : Int) < ((2 ^ k.bits : Nat) : Int) := by rw [Int.natCast_pow]; exact h2
                                                                    omega)]
 exact wrap_in (by omega) h1
theorem ev_ivbin {op : BinOp} {t : TypeId} {k : IntKind} {a b : Nat} {lo hi lo2 hi2 n m : Int} (h1 : IvR a lo hi n) (h2 : IvR b lo2 hi2 m) : EV P w0 ρ (ivbin op k a lo hi b lo2 hi2) (binOp op t (.int k n) (.int k m)) := by
 have cmp : EV P w0 ρ (ebind (eopt [35] (ivcmp op a lo hi b lo2 hi2)) fun t => epure (.bo t)) (binOp op t (.int k n) (.int k m)) := by
  refine ev_opt fun u hu => ev_pure fun w => ⟨_, ?_, .bo _⟩
  rcases ivcmp_ok h1 h2 hu with ⟨rfl, rfl⟩ | ⟨rfl, rfl⟩ | ⟨rfl, rfl⟩ | ⟨rfl, rfl⟩ | ⟨rfl, rfl⟩ | ⟨rfl, rfl⟩ <;> (simp only [binOp, Op.intCmp]; rw [if_neg (by simp)]; rfl)
 have p1 := h1.1
 have p2 := h1.2.1
 have q1 := h2.1
 have q2 := h2.2.1
 unfold ivbin
 split
 ·refine ev_pure fun w => ⟨_, by simp [binOp, Op.intArith]; rfl, ivok_vr ?_ ?_⟩
  ·show lo + lo2 ≤ _; omega
  ·show _ ≤ hi + hi2; omega
 ·refine ev_pure fun w => ⟨_, by simp [binOp, Op.intArith]; rfl, ivok_vr ?_ ?_⟩
  ·show lo - hi2 ≤ _; omega
  ·show _ ≤ hi - lo2; omega
 ·exact ev_pure fun w => ⟨_, by simp [binOp, Op.intArith]; rfl, full_vr (wrap_within _ _).1 (wrap_within _ _).2⟩
 ·exact ev_pure fun w => ⟨_, by simp only [binOp, Op.intBits]; rw [if_neg (by simp)]; rfl, full_vr (wrap_within _ _).1 (wrap_within _ _).2⟩
 ·have zz : ∀ {x y : Int}, iand (ieq x 0) (ieq y 0) = true → x = 0 ∧ y = 0 := fun {x y} h => by
   rw [iand_eq, Bool.and_eq_true, ieq_eq, ieq_eq, beq_iff_eq, beq_iff_eq] at h
   exact h
  cases e1 : iand (ieq lo2 0) (ieq hi2 0) with
  |true =>
   obtain ⟨r1, r2⟩ := zz e1
   obtain rfl : m = 0 := by omega
   refine ev_case fun h => ev_pure fun w => ⟨.int k n, ?_, h1.vr⟩
   rw [iand_eq, Bool.and_eq_true, ile_eq, decide_eq_true_eq] at h
   have h3 := ivin_ok h.2
   simp only [binOp, Op.intBits]
   rw [if_neg (by simp)]
   show (pure (Value.int k (k.wrap ((BitVec.ofInt k.bits n ||| BitVec.ofInt k.bits 0).toNat : Int))) : Sem Value).run P w = _
   rw [show BitVec.ofInt k.bits 0 = 0#k.bits from BitVec.ofInt_natCast k.bits 0, BitVec.or_zero, or_zero (by omega) (by omega)]
   rfl
  |false =>
   cases e2 : iand (ieq lo 0) (ieq hi 0) with
   |true =>
    obtain ⟨r1, r2⟩ := zz e2
    obtain rfl : n = 0 := by omega
    refine ev_case fun h => ev_pure fun w => ⟨.int k m, ?_, h2.vr⟩
    rw [iand_eq, Bool.and_eq_true, ile_eq, decide_eq_true_eq] at h
    have h3 := ivin_ok h.2
    simp only [binOp, Op.intBits]
    rw [if_neg (by simp)]
    show (pure (Value.int k (k.wrap ((BitVec.ofInt k.bits 0 ||| BitVec.ofInt k.bits m).toNat : Int))) : Sem Value).run P w = _
    rw [show BitVec.ofInt k.bits 0 = 0#k.bits from BitVec.ofInt_natCast k.bits 0, BitVec.zero_or, or_zero (by omega) (by omega)]
    rfl
   |false => exact ev_pure fun w => ⟨_, by simp only [binOp, Op.intBits]; rw [if_neg (by simp)]; rfl, full_vr (wrap_within _ _).1 (wrap_within _ _).2⟩
 ·exact ev_pure fun w => ⟨_, by simp only [binOp, Op.intBits]; rw [if_neg (by simp)]; rfl, full_vr (wrap_within _ _).1 (wrap_within _ _).2⟩
 ·exact cmp
theorem ev_ivshift {op : BinOp} {t : TypeId} {k j : IntKind} {a : Nat} {lo hi n b : Int} (h1 : IvR a lo hi n) : EV P w0 ρ (ivshift op k a lo hi b) (binOp op t (.int k n) (.int j b)) := by
 have p1 := h1.1
 have p2 := h1.2.1
 unfold ivshift
 split
 ·rename_i y
  cases e : Nat.beq y 0 with
  |true =>
   have := nbeq_t e
   subst this
   refine ev_pure fun w => ⟨.int k (k.wrap n), ?_, ivconv_vr h1⟩
   simp only [binOp, Op.shift]
   rw [if_neg (by rw [Int.ofNat_eq_natCast]; omega)]
   simp
  |false =>
   refine ev_pure fun w => ⟨.int k (k.wrap (n * 2 ^ (min y k.bits))), ?_, ?_⟩
   ·simp only [binOp, Op.shift]
    rw [if_neg (by rw [Int.ofNat_eq_natCast]; omega)]
    simp only [Int.ofNat_eq_natCast, Int.toNat_natCast]
    rfl
   ·have hp : (0 : Int) < 2 ^ (min y k.bits) := Int.pow_pos (by decide)
    have hc : Int.ofNat (Nat.pow 2 (Nat.min y k.bits)) = (2 : Int) ^ (min y k.bits) := Int.natCast_pow 2 _
    rw [hc]
    exact ivok_vr (Int.mul_le_mul_of_nonneg_right p1 (Int.le_of_lt hp)) (Int.mul_le_mul_of_nonneg_right p2 (Int.le_of_lt hp))
 ·rename_i y
  split
  ·rename_i x z
   obtain ⟨m, rfl⟩ : ∃ m : Nat, n = m := ⟨n.toNat, by rw [Int.ofNat_eq_natCast] at p1; omega⟩
   have r1 : x ≤ m := by rw [Int.ofNat_eq_natCast] at p1; omega
   have r2 : m ≤ z := by rw [Int.ofNat_eq_natCast] at p2; omega
   cases e : Nat.beq y 0 with
   |true =>
    have := nbeq_t e
    subst this
    refine ev_pure fun w => ⟨.int k m, ?_, h1.vr⟩
    simp only [binOp, Op.shift]
    rw [if_neg (by rw [Int.ofNat_eq_natCast]; omega)]
    simp
   |false =>
    refine ev_pure fun w => ⟨.int k ((m >>> (min y k.bits) : Nat) : Int), ?_, ivmk_vr ⟨?_, ?_, fun h => absurd rfl h⟩⟩
    ·simp only [binOp, Op.shift]
     rw [if_neg (by rw [Int.ofNat_eq_natCast]; omega)]
     simp only [Int.ofNat_eq_natCast, Int.toNat_natCast]
     rw [Int.fdiv_eq_ediv_of_nonneg _ (by apply Int.pow_nonneg; decide)]
     rw [show (2 : Int) ^ (min y k.bits) = ((2 ^ (min y k.bits) : Nat) : Int) from (Int.natCast_pow 2 _).symm, ← Int.natCast_ediv, ← Nat.shiftRight_eq_div_pow]
     rfl
    ·show ((x >>> (min y k.bits) : Nat) : Int) ≤ _
     rw [Nat.shiftRight_eq_div_pow, Nat.shiftRight_eq_div_pow]
     have := Nat.div_le_div_right (c := 2 ^ (min y k.bits)) r1
     omega
    ·show _ ≤ ((z >>> (min y k.bits) : Nat) : Int)
     rw [Nat.shiftRight_eq_div_pow, Nat.shiftRight_eq_div_pow]
     have := Nat.div_le_div_right (c := 2 ^ (min y k.bits)) r2
     omega
  ·exact ev_fail
 ·exact ev_fail
end
section
set_option linter.unusedSectionVars false
open Go.RowKit
variable [Val]
variable {P : Program} {w0 : World} {ρ : ERho}
theorem idx_ok {v : AV} {k : Nat} (h : idx v = some k) {x : Value} (hv : VR ρ v x) : ∃ j, x = .int j (k : Int) := by
 cases hv with
 |it j n =>
  have h1 : inat n = some k := h
  cases n with
  |negSucc _ => cases h1
  |ofNat n => cases h1; exact ⟨j, rfl⟩
 |_ => cases h
theorem eidx_ok {v : AV} {k : Nat} {s s' : ESt} (h : eidx v s = .ok k s') {x : Value} (hv : VR ρ v x) : s' = s ∧ ∃ j, x = .int j (k : Int) := by
 obtain ⟨h1, rfl⟩ := eopt_ok h
 exact ⟨rfl, idx_ok h1 hv⟩
theorem efield_ok {s : TypeId} {f : Nat} {x : Field} {t t' : ESt} (h : efield P s f t = .ok x t') : t' = t ∧ ∃ fs, P.underlying s = some (.struct fs) ∧ fs[f]? = some x := by
 unfold efield at h
 cases hu : P.underlying s with
 |none => rw [hu] at h; exact (efail_ok h).elim
 |some d =>
  rw [hu] at h
  cases d with
  |struct fs =>
   obtain ⟨h1, rfl⟩ := eopt_ok h
   rw [lnth_eq] at h1
   exact ⟨rfl, fs, rfl, by rw [← Array.getElem?_toList]; exact h1⟩
  |_ => exact (efail_ok (e := [10]) (s := t) h).elim
theorem eaddr_run {a : AV} {n : Nat} {v : AV} {s s' : ESt} (h : eaddr a n s = .ok v s') {x : Value} (ha : VR ρ a x) : s' = s ∧ ∃ b o, x = .pointer (some ⟨b, o, none⟩) ∧ VR ρ v (.pointer (some ⟨b, o + n, none⟩)) := by
 cases ha with
 |pt i o r hr =>
  obtain ⟨rfl, rfl⟩ := epure_ok h
  exact ⟨rfl, _, _, rfl, by rw [Nat.add_assoc]; exact .pt i (o + n) r hr⟩
 |gp g o =>
  obtain ⟨rfl, rfl⟩ := epure_ok h
  exact ⟨rfl, _, _, rfl, .gp g (o + n)⟩
 |_ => exact (efail_ok (e := [11]) (s := s) h).elim
theorem ev_fieldAddr {s : TypeId} {f : Nat} {a : AV} {x : Value} (ha : VR ρ a x) :
  EV P w0 ρ (ebind (efield P s f) fun y => ebind (esz P y.type) fun z => ecase [85] (Bool.not (Nat.beq z 0)) (eaddr a y.offset)) (Instr.fieldAt s x f) := ev_calm fun t v t' hm => by
 obtain ⟨y, s1, h1, h2⟩ := ebind_ok hm
 obtain ⟨rfl, fs, hu, hf⟩ := efield_ok h1
 obtain ⟨z, s2, h3, h4⟩ := ebind_ok h2
 obtain ⟨hz, rfl⟩ := esz_ok h3
 obtain ⟨h5, h6⟩ := ecase_ok h4
 obtain ⟨rfl, b, o, rfl, hv⟩ := eaddr_run h6 ha
 refine ⟨rfl, rfl, fun w _ => ⟨_, ?_, hv⟩⟩
 have hz0 : ¬ z = 0 := fun e => by subst e; cases h5
 simp [Instr.fieldAt, run_un hu, hf, Instr.sureAddr, fieldPlace, run_sz hz, hz0, add_none]
theorem ev_indexAddr {t : TypeId} {a ix : AV} {x y : Value} (ha : VR ρ a x) (hi : VR ρ ix y) : EV P w0 ρ (eindexAddr P t a ix) (Instr.indexAt t x y) := by
 unfold eindexAddr
 split
 ·rename_i e hu
  cases ha with
  |sl i o n c c' r hr hc =>
   refine ev_calm fun s v s' hm => ?_
   obtain ⟨k, s1, h1, h2⟩ := ebind_ok hm
   obtain ⟨rfl, j, rfl⟩ := eidx_ok h1 hi
   obtain ⟨z, s2, h3, h4⟩ := ebind_ok h2
   obtain ⟨hz, rfl⟩ := esz_ok h3
   obtain ⟨h5, h6⟩ := ecase_ok h4
   obtain ⟨rfl, rfl⟩ := epure_ok h6
   refine ⟨rfl, rfl, fun w _ => ⟨.pointer (some ⟨r.b, r.d + (o + k * z), none⟩), ?_, .pt i _ r hr⟩⟩
   have := nblt_iff.1 h5
   have hlt : (k : Int) < (n : Int) := by omega
   simp [Instr.indexAt, asIntOf, run_un hu, run_sz hz, add_none, Nat.add_assoc]
   intro hh; omega
  |sz i o r hr a =>
   refine ev_calm fun s v s' hm => ?_
   obtain ⟨k, s1, h1, h2⟩ := ebind_ok hm
   obtain ⟨z, s2, h3, h4⟩ := ebind_ok h2
   obtain ⟨h5, h6⟩ := ecase_ok h4
   have := nblt_iff.1 h5
   omega
  |_ => exact ev_fail
 ·rename_i n e hu
  refine ev_calm fun s v s' hm => ?_
  obtain ⟨k, s1, h1, h2⟩ := ebind_ok hm
  obtain ⟨rfl, j, rfl⟩ := eidx_ok h1 hi
  obtain ⟨z, s2, h3, h4⟩ := ebind_ok h2
  obtain ⟨hz, rfl⟩ := esz_ok h3
  obtain ⟨h5, h6⟩ := ecase_ok h4
  obtain ⟨rfl, b, o, rfl, hv⟩ := eaddr_run h6 ha
  refine ⟨rfl, rfl, fun w _ => ⟨_, ?_, hv⟩⟩
  have := nblt_iff.1 h5
  have hlt : (k : Int) < (n : Int) := by omega
  simp [Instr.indexAt, asIntOf, run_un hu, Instr.sureAddr, run_sz hz, add_none]
  intro hh; omega
 ·exact ev_fail
theorem part_run {t : TypeId} {cs : List AV} {o : Nat} {v : AV} {s s' : ESt} (h : vpart P t cs o s = .ok v s') {xs : List Value} (hx : VRs ρ cs xs) (w : World) : ∃ x, (part t xs.toArray o).run P w = .ok x w ∧ VR ρ v x := by
 obtain ⟨-, (⟨hg, hv⟩ | ⟨hg, z, hz, hle, rfl⟩)⟩ := vpart_ok h
 ·obtain ⟨x, h1, h2⟩ := hx.nth hv
  refine ⟨x, ?_, h2⟩
  unfold part
  rw [Sem.run_bind, run_ag hg]
  simp [h1]
 ·refine ⟨_, ?_, .ag _ _ ((hx.drop o).take z)⟩
  unfold part
  rw [Sem.run_bind, run_ag hg]
  simp only [Result.andThen_ok, if_true, Sem.run_bind, run_sz hz, Sem.run_pure]
  congr 2
  rw [List.extract_toArray, List.extract_eq_take_drop]
  congr 2
  omega
theorem ev_index {t : TypeId} {a ix : AV} {x y : Value} (ha : VR ρ a x) (hi : VR ρ ix y) : EV P w0 ρ (eindex P t a ix) (Instr.index t x y) := by
 unfold eindex
 split
 ·rename_i hu
  cases ha with
  |st s hs =>
   refine ev_calm fun s v s' hm => ?_
   obtain ⟨k, s1, h1, h2⟩ := ebind_ok hm
   obtain ⟨rfl, j, rfl⟩ := eidx_ok h1 hi
   obtain ⟨c, s2, h3, h4⟩ := ebind_ok h2
   obtain ⟨h5, rfl⟩ := eopt_ok h3
   obtain ⟨rfl, rfl⟩ := epure_ok h4
   rw [lnth_eq] at h5
   have hc := hs c (List.mem_of_getElem? h5)
   refine ⟨rfl, rfl, fun w _ => ⟨_, ?_, .it _ _⟩⟩
   have h6 := bsA_get h5 hc
   simp only [Instr.index, asIntOf, Sem.run_bind, Sem.run_pure, Result.andThen_ok, run_un hu, Int.toNat_natCast]
   rw [if_pos (by omega), h6]
   simp only [Sem.run_pure, UInt8.toNat_ofNat']
   rw [Nat.mod_eq_of_lt hc]
   rfl
  |ss s b hs =>
   refine ev_calm fun s0 v s' hm => ?_
   obtain ⟨k, s1, h1, h2⟩ := ebind_ok hm
   obtain ⟨rfl, j, rfl⟩ := eidx_ok h1 hi
   obtain ⟨c, s2, h3, h4⟩ := ebind_ok h2
   obtain ⟨h5, rfl⟩ := eopt_ok h3
   obtain ⟨rfl, rfl⟩ := epure_ok h4
   rw [lnth_eq] at h5
   obtain ⟨x, h7, hc⟩ := hs.nth h5
   refine ⟨rfl, rfl, fun w _ => ⟨_, ?_, cA_vr hc .u8⟩⟩
   have h6 := bsA_get h7 hc.1
   simp only [Instr.index, asIntOf, Sem.run_bind, Sem.run_pure, Result.andThen_ok, run_un hu, Int.toNat_natCast]
   rw [if_pos (by omega), h6]
   simp only [Sem.run_pure, UInt8.toNat_ofNat']
   rw [Nat.mod_eq_of_lt hc.1]
  |_ => exact ev_fail
 ·rename_i n e hu
  cases ha with
  |ag l xs hx =>
   refine ev_calm fun s v s' hm => ?_
   obtain ⟨k, s1, h1, h2⟩ := ebind_ok hm
   obtain ⟨rfl, j, rfl⟩ := eidx_ok h1 hi
   obtain ⟨z, s2, h3, h4⟩ := ebind_ok h2
   obtain ⟨hz, rfl⟩ := esz_ok h3
   obtain ⟨h5, h6⟩ := ecase_ok h4
   obtain ⟨rfl, -⟩ := vpart_ok h6
   refine ⟨rfl, rfl, fun w _ => ?_⟩
   obtain ⟨u, hu2, hv⟩ := part_run h6 hx w
   refine ⟨u, ?_, hv⟩
   have := nblt_iff.1 h5
   have hlt : (k : Int) < (n : Int) := by omega
   simp only [Instr.index, asIntOf, Sem.run_bind, Sem.run_pure, Result.andThen_ok, run_un hu, Int.toNat_natCast]
   rw [if_pos ⟨by omega, hlt⟩, Sem.run_bind, run_sz hz]
   exact hu2
  |_ => exact ev_fail
 ·exact ev_fail
theorem ev_field {s : TypeId} {f : Nat} {a : AV} {x : Value} (ha : VR ρ a x) :
  EV P w0 ρ (ebind (efield P s f) fun y => match a with
   |.ag cs => vpart P y.type cs y.offset
   |_ => efail [85]) (Instr.field s x f) := ev_calm fun t v t' hm => by
 obtain ⟨y, s1, h1, h2⟩ := ebind_ok hm
 obtain ⟨rfl, fs, hu, hf⟩ := efield_ok h1
 cases ha with
 |ag l xs hx =>
  obtain ⟨rfl, -⟩ := vpart_ok h2
  refine ⟨rfl, rfl, fun w _ => ?_⟩
  obtain ⟨u, hu2, hv⟩ := part_run h2 hx w
  refine ⟨u, ?_, hv⟩
  simp [Instr.field, run_un hu, hf, asAgg, hu2]
 |_ => exact (efail_ok (e := [85]) (s := s1) h2).elim
theorem ev_extract {a : AV} {i : Nat} {x : Value} (ha : VR ρ a x) : EV P w0 ρ (match a with
  |.tu l => eopt [86] (lnth l i)
  |_ => efail [86]) (Instr.extract x i) := by
 cases ha with
 |tu l xs hx =>
  refine ev_optv fun v hv w => ?_
  rw [lnth_eq] at hv
  obtain ⟨u, h1, h2⟩ := hx.nth hv
  exact ⟨u, by simp [Instr.extract, h1], h2⟩
 |_ => exact ev_fail
end
section
set_option linter.unusedSectionVars false
open Go.RowKit
variable [Val]
variable {P : Program} {w0 : World} {ρ : ERho}
theorem ofV1_vr {v : Value} {a : AV} (h : ofV1 v = some a) (ρ : ERho) : VR ρ a v := by
 unfold ofV1 at h
 split at h <;> first | cases h
 ·exact .bo _
 ·exact .it _ _
 ·rename_i s
  have e : (s : ByteArray) = bsA (lmap UInt8.toNat s.data.toList) := by
   apply ByteArray.ext
   rw [lmap_eq]
   show s.data = ((s.data.toList.map UInt8.toNat).map UInt8.ofNat).toArray
   rw [List.map_map, show (UInt8.ofNat ∘ UInt8.toNat) = id from by funext x; simp, List.map_id]
  have := VR.st (ρ := ρ) (lmap UInt8.toNat s.data.toList) (fun x hx => by
   rw [lmap_eq] at hx
   obtain ⟨b, _, rfl⟩ := List.mem_map.1 hx
   exact b.toNat_lt)
  rw [← e] at this
  exact this
 ·exact .pn
 ·exact .sn
 ·exact .mn
 ·exact .nf
 ·exact .ni
 ·exact .un
theorem ofV1s_vr {l : List Value} {m : List AV} (h : omap ofV1 l = some m) (ρ : ERho) : VRs ρ m l := by
 obtain ⟨h1, h2⟩ := omap_some h
 refine VRs.mk h1.symm fun i v x hv hx => ?_
 obtain ⟨y, h3, h4⟩ := h2 i x hx
 rw [hv] at h4
 cases h4
 exact ofV1_vr h3 ρ
theorem ofV_vr {v : Value} {a : AV} (h : ofV v = some a) (ρ : ERho) : VR ρ a v := by
 unfold ofV at h
 split at h
 ·rename_i cs
  cases ho : omap ofV1 cs.toList with
  |none => rw [ho] at h; cases h
  |some l =>
   rw [ho] at h
   cases h
   have := VR.ag (ρ := ρ) l cs.toList (ofV1s_vr ho ρ)
   exact this
 ·rename_i t v
  cases ho : ofV1 v with
  |none => rw [ho] at h; cases h
  |some l =>
   rw [ho] at h
   cases h
   exact .ic _ _ _ (ofV1_vr ho ρ)
 ·exact ofV1_vr h ρ
theorem evO_vr {tm : ET AV} {a : Act} (h : TR ρ tm a.tmps) (x : Operand) : VR ρ (evO tm x) (a.eval x) := by
 cases x with
 |tmp t => exact h t
 |const v =>
  show VR ρ (Option.rec .bad (fun v => v) (ofV v)) v
  cases ho : ofV v with
  |none => exact .bad _
  |some l => exact ofV_vr ho ρ
 |global g => exact .gp g 0
 |func f => exact .fn f [] [] [] [] .nil .nil
theorem tyZero_ok {t : TypeId} {z : List AV} (h : tyZero P t = some z) : ∃ i v, P.info? t = some i ∧ i.zero = some v ∧ ∀ ρ, VRs ρ z v.cells.toList := by
 unfold tyZero at h
 cases hi : P.info? t with
 |none => rw [hi] at h; cases h
 |some i =>
  rw [hi] at h
  have h' : (Option.rec none (fun v => omap ofV1 v.cells.toList) i.zero : Option (List AV)) = some z := h
  cases hz : i.zero with
  |none => rw [hz] at h'; cases h'
  |some v =>
   rw [hz] at h'
   exact ⟨i, v, rfl, hz, fun ρ => ofV1s_vr h' ρ⟩
theorem ezero_ok {t : TypeId} {z : List AV} {s s' : ESt} (h : ezero P t s = .ok z s') : s' = s ∧ tyZero P t = some z := by
 obtain ⟨h1, rfl⟩ := eopt_ok h
 exact ⟨rfl, h1⟩
theorem new_cells {s s' : ESt} {i : Nat} {e : TypeId} {l : List AV} {w : World} (h : enew (.cs e l 0) s = .ok i s') (hw : ERel P w0 ρ s.hp w) (hf : ρ s.nx = none) {z : Nat} (hz : tySz P e = some z) {c : Array Value} {k : Nat}
  (hk : l.length + k * z ≤ c.size) (hc : ∀ (j : Nat) (v : AV), l[j]? = some v → ∃ x, c[j]? = some x ∧ VR ρ v x) :
  i = s.nx ∧ s'.nx = s.nx + 1 ∧ ERel P w0 (eup ρ s.nx ⟨w.heap.size, 0, k⟩) s'.hp (w.alloc (.cells c e)) ∧ EExt ρ (eup ρ s.nx ⟨w.heap.size, 0, k⟩) s.nx s'.nx := by
 obtain ⟨rfl, rfl⟩ := enew_ok h
 refine ⟨rfl, rfl, hw.alloc hf ⟨c, (0, 0), z, rfl, hz, rfl, ⟨by simpa using hk, fun k _ _ => by simp, fun _ => Or.inl rfl⟩, fun j v hv => ?_⟩, EExt.one hf⟩
 obtain ⟨x, h1, h2⟩ := hc j v hv
 exact ⟨x, by simpa using h1, h2.up (eup_le hf)⟩
theorem vrs_cells {l : List AV} {xs : List Value} (h : VRs ρ l xs) : ∀ (j : Nat) (v : AV), l[j]? = some v → ∃ x, xs.toArray[j]? = some x ∧ VR ρ v x := fun j v hv => by
 obtain ⟨x, h1, h2⟩ := h.nth hv
 exact ⟨x, by simpa using h1, h2⟩
theorem pt_new {n b k : Nat} : VR (eup ρ n ⟨b, 0, k⟩) (.pt n 0) (.pointer (some ⟨b, 0, none⟩)) := VR.pt (ρ := eup ρ n ⟨b, 0, k⟩) n 0 ⟨b, 0, k⟩ (eup_same _ _ _)
theorem sl_new {n b k m c c' : Nat} (hc : c' = c ∨ c' = c + k) : VR (eup ρ n ⟨b, 0, k⟩) (.sl n 0 m c) (.slice (some ⟨b, 0, none⟩) m c') := VR.sl (ρ := eup ρ n ⟨b, 0, k⟩) n 0 m c c' ⟨b, 0, k⟩ (eup_same _ _ _) hc
theorem ev_alloc {e : TypeId} : EV P w0 ρ (ebind (esz P e) fun _ => ebind (ezero P e) fun z => ebind (enew (.cs e z 0)) fun i => epure (.pt i 0)) (Instr.alloc e true (.tuple #[])) := by
 intro s v s' hm w hw hf
 obtain ⟨k, s1, h1, h2⟩ := ebind_ok hm
 obtain ⟨hk, rfl⟩ := esz_ok h1
 obtain ⟨z, s2, h3, h4⟩ := ebind_ok h2
 obtain ⟨rfl, hz⟩ := ezero_ok h3
 obtain ⟨i, s3, h5, h6⟩ := ebind_ok h4
 obtain ⟨rfl, rfl⟩ := epure_ok h6
 obtain ⟨ti, u, hi, hu, hvs⟩ := tyZero_ok hz
 obtain ⟨rfl, h7⟩ := enew_ok h5
 have hn : ρ s2.nx = none := hf _ (Nat.le_refl _) (by rw [h7]; exact Nat.lt_succ_self _)
 obtain ⟨-, h8, h9, h10⟩ := new_cells (c := u.cells) (k := 0) h5 hw hn hk (by rw [(hvs ρ).length]; simp) (vrs_cells (hvs ρ))
 refine ⟨_, _, _, ?_, pt_new, h9, h10⟩
 simp [Instr.alloc, zeroValue, typeInfo, hi, hu, newVar, newRow]
theorem ev_box {e : TypeId} {a : AV} {x : Value} (ha : VR ρ a x) : EV P w0 ρ (ebind (esz P e) fun _ => ebind (evc a) fun c => ebind (enew (.cs e c 0)) fun i => epure (.pt i 0)) (Instr.box e x) := by
 intro s v s' hm w hw hf
 obtain ⟨k, s1, h1, h2⟩ := ebind_ok hm
 obtain ⟨hk, rfl⟩ := esz_ok h1
 obtain ⟨c, s2, h3, h4⟩ := ebind_ok h2
 obtain ⟨rfl, rfl, hbad⟩ := evc_ok h3
 obtain ⟨i, s3, h5, h6⟩ := ebind_ok h4
 obtain ⟨rfl, rfl⟩ := epure_ok h6
 obtain ⟨rfl, h7⟩ := enew_ok h5
 have hn : ρ s2.nx = none := hf _ (Nat.le_refl _) (by rw [h7]; exact Nat.lt_succ_self _)
 have hcs := ha.cells hbad
 obtain ⟨-, h8, h9, h10⟩ := new_cells (c := x.cells) (k := 0) h5 hw hn hk (by rw [hcs.length]; simp) (vrs_cells hcs)
 refine ⟨_, _, _, ?_, pt_new, h9, h10⟩
 simp [Instr.box, newVar, newRow]
theorem zip_put : ∀ (v : List Value) (k off : Nat) (a : Array Value) (j : Nat), ((v.zipIdx k).foldl (fun (cs : Array Value) (x : Value × Nat) => cs.setIfInBounds (off + x.2) x.1) a)[j]? = if off + k ≤ j ∧ j < off + k + v.length ∧ j < a.size then v[j - (off + k)]? else a[j]?
 |[], k, off, a, j => by rw [if_neg (by simp only [List.length_nil]; omega)]; rfl
 |x :: v, k, off, a, j => by
  rw [List.zipIdx_cons, List.foldl_cons, zip_put v (k + 1) off _ j, Array.size_setIfInBounds]
  by_cases e : j = off + k
  ·subst e
   rw [if_neg (by omega), Array.getElem?_setIfInBounds]
   by_cases h : off + k < a.size
   ·rw [if_pos rfl, if_pos h, if_pos (by simp only [List.length_cons]; omega), Nat.sub_self]; rfl
   ·rw [if_pos rfl, if_neg h, if_neg (by omega), Array.getElem?_eq_none (by omega)]
  ·rw [Array.getElem?_setIfInBounds_ne (Ne.symm e)]
   by_cases h : off + (k + 1) ≤ j ∧ j < off + (k + 1) + v.length ∧ j < a.size
   ·rw [if_pos h, if_pos (by simp only [List.length_cons]; omega), show j - (off + k) = (j - (off + (k + 1))) + 1 by omega, List.getElem?_cons_succ]
   ·rw [if_neg h, if_neg (by simp only [List.length_cons]; omega)]
theorem zip_put_size : ∀ (v : List Value) (k off : Nat) (a : Array Value), ((v.zipIdx k).foldl (fun (cs : Array Value) (x : Value × Nat) => cs.setIfInBounds (off + x.2) x.1) a).size = a.size
 |[], _, _, _ => rfl
 |x :: v, k, off, a => by rw [List.zipIdx_cons, List.foldl_cons, zip_put_size v (k + 1) off]; simp
theorem fill_run {place : Nat → Option (Nat × Nat)} : ∀ {ps : List (Nat × AV)} {qs : List (Nat × Value)} {c c' : List AV} {cs : Array Value} {s s' : ESt}, efill place ps c s = .ok c' s' → ps.length = qs.length → (∀ (i : Nat) p q, ps[i]? = some p → qs[i]? = some q → p.1 = q.1 ∧ VR ρ p.2 q.2) → VRs ρ c cs.toList →
  s' = s ∧ ∃ cs', Instr.fill place cs qs = some cs' ∧ VRs ρ c' cs'.toList
 |[], [], c, c', cs, s, s', h, _, _, hc => by
  obtain ⟨rfl, rfl⟩ := epure_ok h
  exact ⟨rfl, cs, rfl, hc⟩
 |[], _ :: _, _, _, _, _, _, _, h, _, _ => by simp at h
 |_ :: _, [], _, _, _, _, _, _, h, _, _ => by simp at h
 |p :: ps, q :: qs, c, c', cs, s, s', h, hl, hp, hc => by
  have h' : ebind (eopt [15] (place p.1)) (fun q => ebind (evc p.2) fun d => ecase [15] (iand (Nat.beq (llen d) q.2) (Nat.ble (Nat.add q.1 q.2) (llen c))) (efill place ps (lput c q.1 d))) s = .ok c' s' := h
  obtain ⟨pl, s1, h1, h2⟩ := ebind_ok h'
  obtain ⟨h3, rfl⟩ := eopt_ok h1
  obtain ⟨d, s2, h4, h5⟩ := ebind_ok h2
  obtain ⟨rfl, rfl, hbad⟩ := evc_ok h4
  obtain ⟨h6, h7⟩ := ecase_ok h5
  rw [iand_eq, Bool.and_eq_true] at h6
  have h8 := nbeq_t h6.1
  have h9 : pl.1 + pl.2 ≤ llen c := nble_iff.1 h6.2
  rw [llen_eq] at h8 h9
  obtain ⟨e1, e2⟩ := hp 0 p q rfl rfl
  have hcs := e2.cells hbad
  have hlen : (vcells p.2).length = q.2.cells.size := hcs.length.trans Array.length_toList
  have hcl : c.length = cs.size := hc.length.trans Array.length_toList
  obtain ⟨f, hf⟩ : ∃ f, (q.2.cells.zipIdx.foldl (fun (cs : Array Value) (x : Value × Nat) => cs.setIfInBounds (pl.1 + x.2) x.1) cs) = f := ⟨_, rfl⟩
  have hfl : f = ((q.2.cells.toList.zipIdx 0).foldl (fun (cs : Array Value) (x : Value × Nat) => cs.setIfInBounds (pl.1 + x.2) x.1) cs) := by
   rw [← hf, ← Array.foldl_toList, Array.toList_zipIdx]
  have hle : pl.1 + (vcells p.2).length ≤ c.length := by omega
  have hput : VRs ρ (lput c pl.1 (vcells p.2)) f.toList := by
   refine VRs.mk ?_ fun i v x hv hx => ?_
   ·have hs : f.size = cs.size := by rw [hfl]; exact zip_put_size _ _ _ _
    rw [lput_length hle, show f.toList.length = f.size from Array.length_toList, hs, hcl]
   ·rw [lput_get hle] at hv
    rw [Array.getElem?_toList, hfl, zip_put] at hx
    by_cases e : pl.1 ≤ i ∧ i < pl.1 + (vcells p.2).length
    ·rw [if_pos e] at hv
     rw [if_pos (by rw [show q.2.cells.toList.length = q.2.cells.size from Array.length_toList]; omega)] at hx
     obtain ⟨y, h10, h11⟩ := hcs.nth hv
     rw [show i - (pl.1 + 0) = i - pl.1 by omega, h10] at hx
     cases hx
     exact h11
    ·rw [if_neg e] at hv
     rw [if_neg (by rw [show q.2.cells.toList.length = q.2.cells.size from Array.length_toList]; omega)] at hx
     obtain ⟨y, h10, h11⟩ := hc.nth hv
     rw [Array.getElem?_toList, hx] at h10
     cases h10
     exact h11
  obtain ⟨rfl, cs', h12, h13⟩ := fill_run h7 (by simpa using hl) (fun i p' q' hp' hq' => hp (i + 1) p' q' (by simpa using hp') (by simpa using hq')) hput
  refine ⟨rfl, cs', ?_, h13⟩
  obtain ⟨q1, q2⟩ := q
  simp only at e1 hlen hf
  unfold Instr.fill
  rw [← e1, h3]
  simp only
  rw [if_neg (by simp only [Bool.or_eq_true, decide_eq_true_eq, not_or]; omega), hf]
  exact h12
end
section
set_option linter.unusedSectionVars false
open Go.RowKit
variable [Val]
variable {P : Program} {w0 : World} {ρ : ERho}
theorem eplaces_ok : ∀ {fs : List Field} {pl : List (Nat × Nat)} {s s' : ESt}, eplaces P fs s = .ok pl s' → s' = s ∧ fs.mapM (fun f => (P.info? f.type).map fun i => (f.offset, i.size)) = some pl
 |[], pl, s, s', h => by
  obtain ⟨rfl, rfl⟩ := epure_ok h
  exact ⟨rfl, rfl⟩
 |f :: fs, pl, s, s', h => by
  have h' : ebind (esz P f.type) (fun z => ebind (eplaces P fs) fun l => epure ((f.offset, z) :: l)) s = .ok pl s' := h
  obtain ⟨z, s1, h1, h2⟩ := ebind_ok h'
  obtain ⟨hz, rfl⟩ := esz_ok h1
  obtain ⟨l, s2, h3, h4⟩ := ebind_ok h2
  obtain ⟨rfl, h5⟩ := eplaces_ok h3
  obtain ⟨rfl, rfl⟩ := epure_ok h4
  obtain ⟨i, hi, rfl⟩ := tySz_info hz
  refine ⟨rfl, ?_⟩
  simp [List.mapM_cons, hi, h5]
def PartsR (ρ : ERho) (ps : List (Nat × AV)) (qs : List (Nat × Value)) : Prop := ps.length = qs.length ∧ ∀ (i : Nat) p q, ps[i]? = some p → qs[i]? = some q → p.1 = q.1 ∧ VR ρ p.2 q.2
theorem ev_build {t : TypeId} {ps : List (Nat × AV)} {qs : Array (Nat × Value)} (hp : PartsR ρ ps qs.toList) : EV P w0 ρ (ebuild P t ps) (Instr.build t qs) := by
 unfold ebuild
 split
 ·rename_i fs hu
  refine ev_calm fun s v s' hm => ?_
  obtain ⟨z, s1, h1, h2⟩ := ebind_ok hm
  obtain ⟨rfl, hz⟩ := ezero_ok h1
  obtain ⟨pl, s2, h3, h4⟩ := ebind_ok h2
  obtain ⟨rfl, hpl⟩ := eplaces_ok h3
  obtain ⟨c, s3, h5, h6⟩ := ebind_ok h4
  obtain ⟨i, u, hi, hu2, hvs⟩ := tyZero_ok hz
  obtain ⟨rfl, cs', h7, h8⟩ := fill_run h5 hp.1 hp.2 (hvs ρ)
  obtain ⟨rfl, rfl⟩ := epure_ok h6
  refine ⟨rfl, rfl, fun w _ => ⟨.agg cs', run_build w t qs cs' ?_, .ag _ _ h8⟩⟩
  unfold Program.built
  simp only [hi, hu, hu2, hpl]
  rw [← h7]
  congr 1
  funext i
  rw [lnth_eq]; simp
 ·rename_i n e hu
  refine ev_calm fun s v s' hm => ?_
  obtain ⟨z, s1, h1, h2⟩ := ebind_ok hm
  obtain ⟨rfl, hz⟩ := ezero_ok h1
  obtain ⟨k, s2, h3, h4⟩ := ebind_ok h2
  obtain ⟨hk, rfl⟩ := esz_ok h3
  obtain ⟨c, s3, h5, h6⟩ := ebind_ok h4
  obtain ⟨i, u, hi, hu2, hvs⟩ := tyZero_ok hz
  obtain ⟨rfl, cs', h7, h8⟩ := fill_run h5 hp.1 hp.2 (hvs ρ)
  obtain ⟨rfl, rfl⟩ := epure_ok h6
  obtain ⟨ie, hie, rfl⟩ := tySz_info hk
  refine ⟨rfl, rfl, fun w _ => ⟨.agg cs', run_build w t qs cs' ?_, .ag _ _ h8⟩⟩
  unfold Program.built
  simp only [hi, hu, hu2, hie]
  exact h7
 ·exact ev_fail
theorem rep_vrs {z : List AV} {u : Value} (h : VRs ρ z u.cells.toList) {k : Nat} (hk : z.length = k) (n : Nat) : VRs ρ (lcat z n) ((Array.range (n * k)).map (u.cells[· % u.cells.size]!)).toList := by
 have hl : z.length = u.cells.size := h.length.trans Array.length_toList
 refine VRs.mk (by rw [lcat_length, hk]; simp) fun i v x hv hx => ?_
 have hi : i < n * z.length := by
  have := (List.getElem?_eq_some_iff.1 hv).1
  rwa [lcat_length] at this
 rw [lcat_get _ _ _ hi] at hv
 have hi2 : i < n * k := by rw [← hk]; exact hi
 rw [Array.getElem?_toList, Array.getElem?_map, Array.getElem?_range, if_pos hi2] at hx
 simp only [Option.map_some, Option.some.injEq] at hx
 obtain ⟨y, h1, h2⟩ := h.nth hv
 rw [hl, Array.getElem?_toList] at h1
 rw [← hx, getElem!_def, h1]
 exact h2
theorem ev_buildSlice {t : TypeId} {n : Nat} {ps : List (Nat × AV)} {qs : Array (Nat × Value)} (hp : PartsR ρ ps qs.toList) : EV P w0 ρ (ebuildSlice P t n ps) (Instr.buildSlice t n qs) := by
 unfold ebuildSlice
 split
 ·rename_i e hu
  intro s v s' hm w hw hf
  obtain ⟨z, s1, h1, h2⟩ := ebind_ok hm
  obtain ⟨rfl, hz⟩ := ezero_ok h1
  obtain ⟨k, s2, h3, h4⟩ := ebind_ok h2
  obtain ⟨hk, rfl⟩ := esz_ok h3
  obtain ⟨c, s3, h5, h6⟩ := ebind_ok h4
  obtain ⟨h7, h8⟩ := ecase_ok h6
  rw [iand_eq, Bool.and_eq_true] at h7
  have h9 : n * k ≤ 16777216 := nble_iff.1 h7.1
  have h10 := nbeq_t h7.2
  rw [llen_eq] at h10
  obtain ⟨ti, u, hi, hu2, hvs⟩ := tyZero_ok hz
  have hrep := rep_vrs (hvs ρ) h10 n
  obtain ⟨rfl, cs', h11, h12⟩ := fill_run h5 hp.1 hp.2 hrep
  obtain ⟨i, s4, h13, h14⟩ := ebind_ok h8
  obtain ⟨rfl, rfl⟩ := epure_ok h14
  obtain ⟨rfl, h15⟩ := enew_ok h13
  have hn : ρ s3.nx = none := hf _ (Nat.le_refl _) (by rw [h15]; exact Nat.lt_succ_self _)
  obtain ⟨-, h16, h17, h18⟩ := new_cells (c := cs') (k := 0) h13 hw hn hk (by rw [h12.length]; simp) (vrs_cells h12)
  refine ⟨_, _, _, ?_, sl_new (Or.inl rfl), h17, h18⟩
  have h20 : Instr.fill (fun i => some (i * k, k)) ((Array.range (n * k)).map (u.cells[· % u.cells.size]!)) qs.toList = some cs' := h11
  have h21 : ¬ n * k > 16777216 := by omega
  by_cases h0 : n * k = 0
  ·rw [h0] at h20
   have h22 : Instr.fill (fun i => some (i * k, k)) #[] qs.toList = some cs' := by rw [← h20]; congr 1; simp
   simp [Instr.buildSlice, run_un hu, run_sz hk, h0, h22, newRow, show Array.range 0 = #[] from rfl]
  ·simp [Instr.buildSlice, run_un hu, run_sz hk, h21, h0, zeroValue, typeInfo, hi, hu2, h20, newRow]
 ·exact ev_fail
theorem esmall_all {e : TypeId} {n : Nat} (h : esmall P e n = true) : n < 1000000 ∧ ∃ i u, P.info? e = some i ∧ 1 ≤ i.bytes ∧ i.bytes ≤ 1000 ∧ i.zero = some u ∧ u.cells.size = i.size := by
 unfold esmall at h
 rw [iand_eq, Bool.and_eq_true] at h
 refine ⟨nblt_iff.1 h.1, ?_⟩
 cases hi : P.info? e with
 |none => rw [hi] at h; cases h.2
 |some i =>
  rw [hi] at h
  have h2 : iand (Nat.ble 1 i.bytes) (iand (Nat.ble i.bytes 1000) (Option.rec false (fun v => Nat.beq v.cells.size i.size) i.zero)) = true := h.2
  rw [iand_eq, iand_eq, Bool.and_eq_true, Bool.and_eq_true] at h2
  cases hz : i.zero with
  |none => rw [hz] at h2; cases h2.2.2
  |some u =>
   rw [hz] at h2
   exact ⟨i, u, rfl, nble_iff.1 h2.1, nble_iff.1 h2.2.1, hz, nbeq_t h2.2.2⟩
theorem esmall_ok {e : TypeId} {n : Nat} (h : esmall P e n = true) : n < 1000000 ∧ ∃ i, P.info? e = some i ∧ 1 ≤ i.bytes ∧ i.bytes ≤ 1000 :=
 let ⟨h1, i, _, h2, h3, h4, _⟩ := esmall_all h
 ⟨h1, i, h2, h3, h4⟩
theorem wrap_small {n : Nat} (h : n < 1000000) : IntKind.i64.wrap (n : Int) = n := by rw [IntKind.wrap_i64]; omega
theorem ev_makeSlice {t : TypeId} {n c : AV} {x y : Value} (hn : VR ρ n x) (hc : VR ρ c y) : EV P w0 ρ (emakeSlice P t n c) (Instr.makeSlice t x y) := by
 unfold emakeSlice
 split
 ·rename_i e hu
  intro s v s' hm w hw hf
  obtain ⟨z, s1, h1, h2⟩ := ebind_ok hm
  obtain ⟨rfl, hz⟩ := ezero_ok h1
  obtain ⟨k, s2, h3, h4⟩ := ebind_ok h2
  obtain ⟨hk, rfl⟩ := esz_ok h3
  obtain ⟨a, s3, h5, h6⟩ := ebind_ok h4
  obtain ⟨rfl, j, rfl⟩ := eidx_ok h5 hn
  obtain ⟨b, s4, h7, h8⟩ := ebind_ok h6
  obtain ⟨rfl, j2, rfl⟩ := eidx_ok h7 hc
  obtain ⟨h9, h10⟩ := ecase_ok h8
  rw [iand_eq, iand_eq, Bool.and_eq_true, Bool.and_eq_true] at h9
  have h11 := nble_iff.1 h9.1
  obtain ⟨h12, ti, hi, hb1, hb2⟩ := esmall_ok h9.2.1
  have h13 := nbeq_t h9.2.2
  rw [llen_eq] at h13
  obtain ⟨ti2, u, hi2, hu2, hvs⟩ := tyZero_ok hz
  rw [hi] at hi2
  cases hi2
  have hrep := rep_vrs (hvs ρ) h13 b
  obtain ⟨i, s5, h14, h15⟩ := ebind_ok h10
  obtain ⟨rfl, rfl⟩ := epure_ok h15
  obtain ⟨rfl, h16⟩ := enew_ok h14
  have hn : ρ s4.nx = none := hf _ (Nat.le_refl _) (by rw [h16]; exact Nat.lt_succ_self _)
  obtain ⟨-, h17, h18, h19⟩ := new_cells (c := (Array.range (b * k)).map (u.cells[· % u.cells.size]!)) (k := 0) h14 hw hn hk (by rw [hrep.length]; simp) (vrs_cells hrep)
  refine ⟨_, _, _, ?_, sl_new (Or.inl rfl), h18, h19⟩
  have hbc : ti.bytes * (b : Int) ≤ 281474976710656 := by
   have : ti.bytes * b ≤ 1000 * 1000000 := Nat.mul_le_mul hb2 (by omega)
   have h2 : ((ti.bytes * b : Nat) : Int) ≤ 1000000000 := by omega
   rw [Int.natCast_mul] at h2
   omega
  have h20 : ¬ (b : Int) < a := by omega
  have h21 : ¬ (b : Int) < 0 := by omega
  have h22 : ¬ (a : Int) < 0 := by omega
  have h23 : ¬ 281474976710656 < ti.bytes * (b : Int) := by omega
  by_cases h0 : b * k = 0
  ·have h24 : (Array.range (b * k)).map (u.cells[· % u.cells.size]!) = #[] := by rw [h0]; simp
   rw [h24]
   simp [Instr.makeSlice, run_un hu, asInt, asIntOf, typeInfo, hi, wrap_small (show a < 1000000 by omega), wrap_small h12, run_sz hk, h0, h20, h21, h22, h23, newRow, show Array.range 0 = #[] from rfl]
  ·simp [Instr.makeSlice, run_un hu, asInt, asIntOf, typeInfo, hi, wrap_small (show a < 1000000 by omega), wrap_small h12, run_sz hk, h0, h20, h21, h22, h23, newRow, zeroValue, hu2]
 ·exact ev_fail
end
end Go.Proofs.YtigajcabgaddgaaGreatDoor
