/-
 A region that draws its order; some of its operations turn the world, in an order that is forced: the class knows which are done. Over any program.
-/
import Derived.Test.YtigajcabgaddgaaGreatDoorWRegionG
set_option maxRecDepth 100000
set_option maxHeartbeats 8000000
namespace Go.Proofs.YtigajcabgaddgaaGreatDoor
open Go.RowKit
section
variable {P : Program} {l : List Oper}
def upd (b : Nat → Bool) (i : Nat) : Nat → Bool := fun k => if k = i then true else b k
def bitsOf (listed : Array Bool) : Nat → Bool := fun k => listed.getD k false
theorem bits_none (n : Nat) : bitsOf (Array.replicate n false) = fun _ => false := by
 funext k
 unfold bitsOf
 rcases Nat.lt_or_ge k n with h | h
 ·simp [h]
 ·simp [h]
def RelOpN (P : Program) (l : List Oper) (Ss : List (World → Value → Prop)) (C : (Nat → Bool) → World → Prop) (R : World → World → Prop) (a0 : Act) (i : Nat) : Prop :=
 ∀ o S, l[i]? = some o → Ss[i]? = some S → ∀ (b : Nat → Bool) (a : Act) (w : World), C b w → b i = false → (∀ e ∈ o.after, Region.binds .any e = true → b e.on = true) →
  (∀ j oj, l[j]? = some oj → b j = true → ∀ e ∈ oj.after, Region.binds .any e = true → b e.on = true) → a.tmps.size = a0.tmps.size →
  (∀ t, (∀ j oj, l[j]? = some oj → oj.dst = some t → b j = false) → a.tmps.getD t undef = a0.tmps.getD t undef) →
  (∀ e ∈ o.after, Region.binds .any e = true → ∀ oe Se, l[e.on]? = some oe → Ss[e.on]? = some Se → Se w (valOf oe a)) →
  if Region.wanted o (yielded l.toArray a.tmps) = true then o.wp P a w (fun a2 w2 => ∃ v, a2 = a.put o.dst v ∧ C (upd b i) w2 ∧ R w w2 ∧ S w2 (match o.dst with | some _ => v | none => undef)) (fun _ _ _ => False)
  else S w undef ∧ C (upd b i) w
structure RelInvN (l : List Oper) (Ss : List (World → Value → Prop)) (C : (Nat → Bool) → World → Prop) (a0 : Act) (listed : Array Bool) (a : Act) (w : World) : Prop where
 size : listed.size = l.length
 defers : a.defers = a0.defers
 tmps : a.tmps.size = a0.tmps.size
 done : ∀ j o S, l[j]? = some o → Ss[j]? = some S → listed.getD j false = true → S w (valOf o a)
 same : ∀ t, (∀ j oj, l[j]? = some oj → oj.dst = some t → bitsOf listed j = false) → a.tmps.getD t undef = a0.tmps.getD t undef
 closed : ∀ j oj, l[j]? = some oj → bitsOf listed j = true → ∀ e ∈ oj.after, Region.binds .any e = true → bitsOf listed e.on = true
 cls : C (bitsOf listed) w
theorem rel_anyN {Ss : List (World → Value → Prop)} {C : (Nat → Bool) → World → Prop} {R : World → World → Prop} {a0 : Act} {Qn : Act → World → Prop} (hl : Ss.length = l.length) (hform : relForm l a0.tmps.size = true)
  (stab : ∀ S ∈ Ss, ∀ w w' v, R w w' → S w v → S w' v) (rel : ∀ i, i < l.length → RelOpN P l Ss C R a0 i)
  (fin : ∀ a w listed, RelInvN l Ss C a0 listed a w → (∀ j, j < l.length → listed.getD j false = true) → Qn a w) :
  ∀ (fuel : Nat) (listed : Array Bool) (a : Act) (w : World), unlisted listed = fuel → RelInvN l Ss C a0 listed a w → wpAnyG P l Qn fuel listed a w := by
 intro fuel
 induction fuel with
 |zero =>
  intro listed a w hu inv
  have hall := unlisted_zero hu
  rw [inv.size] at hall
  refine ⟨?_, fin a w listed inv hall⟩
  apply List.eq_nil_iff_forall_not_mem.2
  intro j hj
  obtain ⟨h1, o, ho, _⟩ := mem_ready.1 hj
  have hlt : j < l.length := by simpa using (Array.getElem?_eq_some_iff.1 ho).1
  have h2 := hall j hlt
  have hls : j < listed.size := by rw [inv.size]; exact hlt
  simp [hls] at h1 h2
  rw [h1] at h2
  cases h2
 |succ fuel ih =>
  intro listed a w hu inv
  refine ⟨fun hr => ?_, fun i hi => ?_⟩
  ·-- something is ready as long as not all is listed
   exfalso
   have hex : ∃ j, j < l.length ∧ listed.getD j false = false := by
    by_cases hex : ∃ j, j < l.length ∧ listed.getD j false = false
    ·exact hex
    ·exfalso
     have hall : ∀ j, j < l.length → listed.getD j false = true := fun j hj => by
      cases h : listed.getD j false
      ·exact absurd ⟨j, hj, h⟩ hex
      ·rfl
     have : unlisted listed = 0 := by
      unfold unlisted
      rw [List.length_eq_zero_iff, List.filter_eq_nil_iff]
      intro b hb
      obtain ⟨j, hj, rfl⟩ := List.getElem_of_mem hb
      have hj' : j < listed.size := by simpa using hj
      have := hall j (by rw [← inv.size]; exact hj')
      simp [hj'] at this ⊢
      exact this
     omega
   obtain ⟨j, hj, hleast⟩ : ∃ j, (j < l.length ∧ listed.getD j false = false) ∧ ∀ k, k < j → ¬ (k < l.length ∧ listed.getD k false = false) := by
    obtain ⟨j0, h0⟩ := hex
    induction j0 using Nat.strongRecOn with
    |_ n ih2 =>
     by_cases hk : ∃ k, k < n ∧ (k < l.length ∧ listed.getD k false = false)
     ·obtain ⟨k, hk1, hk2⟩ := hk
      exact ih2 k hk1 hk2
     ·exact ⟨n, h0, fun k hk1 hk2 => hk ⟨k, hk1, hk2⟩⟩
   have hjs : j < listed.size := by rw [inv.size]; exact hj.1
   have : j ∈ Region.ready .any l.toArray listed := by
    refine mem_ready.2 ⟨by have := hj.2; simp [hjs] at this ⊢; exact this, l[j], by simp [hj.1], fun e he hb => ?_⟩
    have hlt := relForm_edge hform (List.getElem?_eq_getElem hj.1) e he hb
    cases h : listed.getD e.on false
    ·exact absurd ⟨by omega, h⟩ (hleast e.on hlt)
    ·rfl
   rw [hr] at this
   cases this
  ·obtain ⟨h1, o, ho, hpre⟩ := mem_ready.1 hi
   have ho' : l[i]? = some o := by simpa using ho
   have hlt : i < l.length := (List.getElem?_eq_some_iff.1 ho').1
   have hls : i < listed.size := by rw [inv.size]; exact hlt
   obtain ⟨S, hS⟩ : ∃ S, Ss[i]? = some S := ⟨Ss[i]'(by omega), List.getElem?_eq_getElem (by omega)⟩
   have h1' : bitsOf listed i = false := by unfold bitsOf; simp [hls] at h1 ⊢; exact h1
   have hr := rel i hlt o S ho' hS (bitsOf listed) a w inv.cls h1' (fun e he hb => hpre e he hb) inv.closed inv.tmps inv.same (fun e he hb oe Se hoe hSe => inv.done e.on oe Se hoe hSe (hpre e he hb))
   have hbit : bitsOf (listed.setIfInBounds i true) = upd (bitsOf listed) i := by
    funext k
    unfold bitsOf upd
    by_cases e : k = i
    ·subst e; rw [if_pos rfl]; simp [hls]
    ·rw [if_neg e, getD_set_ne false (Ne.symm e)]
   have hnext : ∀ v w2, C (upd (bitsOf listed) i) w2 → (∀ S' ∈ Ss, ∀ v, S' w v → S' w2 v) → S w2 (match o.dst with | some _ => v | none => undef) → wpAnyG P l Qn fuel (listed.setIfInBounds i true) (a.put o.dst v) w2 := by
    intro v w2 hC hst hv
    refine ih _ _ _ (by have := unlisted_set hls h1; omega) ⟨by simp [inv.size], by rw [put_defers]; exact inv.defers, by rw [put_size]; exact inv.tmps, ?_, ?_, ?_, by rw [hbit]; exact hC⟩
    ·intro j oj Sj hj hSj hlj
     by_cases hij : i = j
     ·subst hij
      rw [ho'] at hj; cases hj
      rw [hS] at hSj; cases hSj
      unfold valOf
      cases hd : o.dst with
      |none => rw [hd] at hv; exact hv
      |some d =>
       rw [hd] at hv
       simp only
       rw [put_getD_same (by rw [inv.tmps]; exact (relForm_dst hform ho' hd).1)]
       exact hv
     ·rw [getD_set_ne false hij] at hlj
      have h2 := hst Sj (List.mem_of_getElem? hSj) _ (inv.done j oj Sj hj hSj hlj)
      have : valOf oj (a.put o.dst v) = valOf oj a := by
       unfold valOf
       cases hdj : oj.dst with
       |none => rfl
       |some d =>
        simp only
        refine put_getD_other fun hd => ?_
        exact (relForm_dst hform ho' hd).2 j oj hj (Ne.symm hij) hdj
      rw [this]
      exact h2
    ·intro t ht
     have hne : o.dst ≠ some t := fun hd => by
      have := ht i o ho' hd
      rw [hbit] at this
      unfold upd at this
      rw [if_pos rfl] at this
      cases this
     rw [put_getD_other hne]
     refine inv.same t fun j oj hj hd => ?_
     have := ht j oj hj hd
     rw [hbit] at this
     unfold upd at this
     by_cases e : j = i
     ·rw [if_pos e] at this; cases this
     ·rw [if_neg e] at this; exact this
    ·intro j oj hj hlj e he hb
     rw [hbit] at hlj ⊢
     have up : ∀ k, bitsOf listed k = true → upd (bitsOf listed) i k = true := fun k hk => by
      unfold upd
      by_cases e : k = i
      ·rw [if_pos e]
      ·rw [if_neg e]; exact hk
     by_cases ej : j = i
     ·subst ej
      rw [ho'] at hj; cases hj
      exact up _ (hpre e he hb)
     ·unfold upd at hlj
      rw [if_neg ej] at hlj
      exact up _ (inv.closed j oj hj hlj e he hb)
   refine ⟨o, ho', ?_⟩
   split
   ·rename_i hw
    rw [if_pos hw] at hr
    refine (wp_mono_both (fun a2 w2 h => ?_) (fun _ _ _ h => h.elim) hr)
    obtain ⟨v, rfl, hC, hR, hv⟩ := h
    exact hnext v w2 hC (fun S' hS' v hv => stab S' hS' w w2 v hR hv) hv
   ·rename_i hw
    rw [if_neg hw] at hr
    refine hnext undef w hr.2 (fun _ _ _ h => h) ?_
    cases o.dst <;> exact hr.1
theorem region_relN {Qn : Act → World → Prop} {a0 : Act} {w0 : World} (Ss : List (World → Value → Prop)) (C : (Nat → Bool) → World → Prop) (R : World → World → Prop)
  (hl : Ss.length = l.length) (hform : relForm l a0.tmps.size = true) (hC : C (fun _ => false) { w0 with drawn := w0.drawn + 1 })
  (stab : ∀ S ∈ Ss, ∀ w w' v, R w w' → S w v → S w' v) (rel : ∀ i, i < l.length → RelOpN P l Ss C R a0 i)
  (fin : ∀ vs w b, C b w → (∀ j, j < l.length → b j = true) → relAll w Ss vs → Qn (putAll l vs a0) w) : wpAnyG P l Qn l.toArray.size (Array.replicate l.toArray.size false) a0 { w0 with drawn := w0.drawn + 1 } := by
 refine (rel_anyN hl hform stab rel ?_ _ _ _ _ (by simp [unlisted]) ⟨by simp, rfl, rfl, ?_, fun _ _ => rfl, ?_, by rw [bits_none]; exact hC⟩)
 ·intro a w listed inv hall
  have hvs := fin (l.map (fun o => valOf o a)) w (bitsOf listed) inv.cls hall (relAll_of (by simp [hl]) (fun i S v h1 h2 => by
   rw [List.getElem?_map] at h2
   cases ho : l[i]? with
   |none => rw [ho] at h2; cases h2
   |some o =>
    rw [ho] at h2
    simp only [Option.map_some, Option.some.injEq] at h2
    rw [← h2]
    exact inv.done i o S ho h1 (hall i (List.getElem?_eq_some_iff.1 ho).1)))
  have : putAll l (l.map (fun o => valOf o a)) a0 = a := by
   have hdef : (putAll l (l.map (fun o => valOf o a)) a0).defers = a.defers := by rw [putAll_defers, inv.defers]
   have htm : (putAll l (l.map (fun o => valOf o a)) a0).tmps = a.tmps := by
    have hsz : (putAll l (l.map (fun o => valOf o a)) a0).tmps.size = a.tmps.size := by rw [putAll_size, inv.tmps]
    refine Array.ext hsz fun t h1 h2 => ?_
    have hg : (putAll l (l.map (fun o => valOf o a)) a0).tmps.getD t undef = a.tmps.getD t undef := by
     by_cases hex : ∃ o ∈ l, o.dst = some t
     ·obtain ⟨o, ho, hd⟩ := hex
      obtain ⟨i, hi, hio⟩ := List.getElem_of_mem ho
      have hio' : l[i]? = some o := by rw [List.getElem?_eq_getElem hi, hio]
      rw [putAll_at l _ a0 (by simp) (fun i j oi oj d hi hj h1 h2 => by
       by_cases hij : i = j
       ·exact hij
       ·exact absurd h2 ((relForm_dst hform hi h1).2 j oj hj (Ne.symm hij))) (fun o' ho' d hd' => by
       obtain ⟨k, hk, hko⟩ := List.getElem_of_mem ho'
       exact (relForm_dst hform (by rw [List.getElem?_eq_getElem hk, hko]) hd').1) i o (valOf o a) t hio' (by rw [List.getElem?_map, hio']; rfl) hd]
      unfold valOf
      rw [hd]
     ·have hex' : ∀ o ∈ l, o.dst ≠ some t := fun o ho hd => hex ⟨o, ho, hd⟩
      rw [putAll_other l _ a0 t hex', inv.same t (fun j oj hj hd => absurd hd (hex' oj (List.mem_of_getElem? hj)))]
    simpa [h1, h2] using hg
   cases a
   cases h : putAll l (l.map (fun o => valOf o _)) a0
   rw [h] at hdef htm
   simp only at hdef htm
   rw [hdef, htm]
  rw [this] at hvs
  exact hvs
 ·intro j o S _ _ h
  exfalso
  rcases Nat.lt_or_ge j l.length with h' | h'
  ·simp [h'] at h
  ·simp [h'] at h
 ·intro j o _ h
  exfalso
  unfold bitsOf at h
  rcases Nat.lt_or_ge j l.length with h' | h'
  ·simp [h'] at h
  ·simp [h'] at h
def freeN (l : List Oper) (i t : Nat) : Bool := (List.range l.length).all fun j => match l[j]? with
 |some o => o.dst != some t || (j == i || o.after.any fun e => Region.binds .any e && e.on == i)
 |none => true
def preN (l : List Oper) (i j : Nat) : Bool := match l[i]? with
 |some o => o.after.any fun e => Region.binds .any e && e.on == j
 |none => false
structure RelAtN (l : List Oper) (Ss : List (World → Value → Prop)) (a0 : Act) (i : Nat) (b : Nat → Bool) (a : Act) (w : World) : Prop where
 size : a.tmps.size = a0.tmps.size
 dep : ∀ (j t : Nat) (S : World → Value → Prop), depOK l i j t = true → Ss[i - 1 - j]? = some S → S w (a.tmps[t]?.getD undef)
 free : ∀ (t : Nat) (v : Value), freeN l i t = true → a0.tmps.getD t undef = v → a.tmps[t]?.getD undef = v
 pre : ∀ j, preN l i j = true → b j = true
 post : ∀ j, preN l j i = true → b j = false
 self : b i = false
theorem relAtN_of {Ss : List (World → Value → Prop)} {a0 : Act} {i : Nat} {b : Nat → Bool} {a : Act} {w : World} {o : Oper} (ho : l[i]? = some o) (hs : b i = false) (hp : ∀ e ∈ o.after, Region.binds .any e = true → b e.on = true)
  (hc : ∀ j oj, l[j]? = some oj → b j = true → ∀ e ∈ oj.after, Region.binds .any e = true → b e.on = true) (h1 : a.tmps.size = a0.tmps.size)
  (h2 : ∀ t, (∀ j oj, l[j]? = some oj → oj.dst = some t → b j = false) → a.tmps.getD t undef = a0.tmps.getD t undef)
  (h3 : ∀ e ∈ o.after, Region.binds .any e = true → ∀ oe Se, l[e.on]? = some oe → Ss[i - 1 - e.on]? = some Se → Se w (valOf oe a)) : RelAtN l Ss a0 i b a w := by
 have later : ∀ j oj, l[j]? = some oj → (oj.after.any fun e => Region.binds .any e && e.on == i) = true → b j = false := fun j oj hj ha => by
  obtain ⟨e, he, hb⟩ := Array.any_eq_true'.1 ha
  simp only [Bool.and_eq_true, beq_iff_eq] at hb
  cases hbj : b j with
  |false => rfl
  |true =>
   have := hc j oj hj hbj e he hb.1
   rw [hb.2, hs] at this
   cases this
 refine ⟨h1, fun j t S hd hS => ?_, fun t v hf hv => ?_, fun j hj => ?_, fun j hj => ?_, hs⟩
 ·unfold depOK at hd
  rw [ho] at hd
  cases hj : l[j]? with
  |none => rw [hj] at hd; cases hd
  |some oj =>
   rw [hj] at hd
   simp only [Bool.and_eq_true, beq_iff_eq] at hd
   obtain ⟨e, he, hb⟩ := Array.any_eq_true'.1 hd.1
   simp only [Bool.and_eq_true, beq_iff_eq] at hb
   obtain ⟨hb1, rfl⟩ := hb
   have := h3 e he hb1 oj S hj hS
   unfold valOf at this
   rw [hd.2] at this
   simpa using this
 ·have hw : ∀ j oj, l[j]? = some oj → oj.dst = some t → b j = false := fun j oj hj hd => by
   have hlt : j < l.length := (List.getElem?_eq_some_iff.1 hj).1
   have := List.all_eq_true.1 hf j (List.mem_range.2 hlt)
   rw [hj] at this
   simp only [hd, bne_self_eq_false, Bool.false_or, Bool.or_eq_true, beq_iff_eq] at this
   rcases this with rfl | h
   ·exact hs
   ·exact later j oj hj h
  have := h2 t hw
  rw [hv] at this
  simpa using this
 ·unfold preN at hj
  rw [ho] at hj
  obtain ⟨e, he, hb⟩ := Array.any_eq_true'.1 hj
  simp only [Bool.and_eq_true, beq_iff_eq] at hb
  rw [← hb.2]
  exact hp e he hb.1
 ·unfold preN at hj
  cases hlj : l[j]? with
  |none => rw [hlj] at hj; cases hj
  |some oj => rw [hlj] at hj; exact later j oj hlj hj
def StepN (P : Program) (l : List Oper) (done : List (World → Value → Prop)) (S : World → Value → Prop) (C : (Nat → Bool) → World → Prop) (R : World → World → Prop) (a0 : Act) (i : Nat) : Prop :=
 ∀ (b : Nat → Bool), ∀ o, l[i]? = some o → ∀ (a : Act) (w : World), C b w → RelAtN l done a0 i b a w →
  if Region.wanted o (yielded l.toArray a.tmps) = true then o.wp P a w (fun a2 w2 => ∃ v, a2 = a.put o.dst v ∧ C (upd b i) w2 ∧ R w w2 ∧ S w2 (match o.dst with | some _ => v | none => undef)) (fun _ _ _ => False)
  else S w undef ∧ C (upd b i) w
def stabN (R : World → World → Prop) : List (World → Value → Prop) → Prop
 |[] => True
 |S :: Ss => (∀ w w' v, R w w' → S w v → S w' v) ∧ stabN R Ss
theorem stabN_of {R : World → World → Prop} : ∀ {Ss : List (World → Value → Prop)}, stabN R Ss → ∀ S ∈ Ss, ∀ w w' v, R w w' → S w v → S w' v
 |[], _, S, hS => by cases hS
 |T :: Ss, h, S, hS => by
  rcases List.mem_cons.1 hS with rfl | hS
  ·exact h.1
  ·exact stabN_of h.2 S hS
theorem stabN_val (x : Value) {R : World → World → Prop} {Ss : List (World → Value → Prop)} (h : stabN R Ss) : stabN R (eqV x :: Ss) := ⟨fun _ _ _ _ h => h, h⟩
def relExN (P : Program) (l : List Oper) (C : (Nat → Bool) → World → Prop) (R : World → World → Prop) (a0 : Act) (F : Act → World → Prop) : Nat → List (World → Value → Prop) → Nat → Prop
 |_, done, 0 => stabN R done ∧ ∀ w b, C b w → (∀ j, j < l.length → b j = true) → ∀ vs, relAll w done.reverse vs → F (putAll l vs a0) w
 |i, done, n + 1 => ∃ S, StepN P l done S C R a0 i ∧ relExN P l C R a0 F (i + 1) (S :: done) n
theorem relExN_out {C : (Nat → Bool) → World → Prop} {R : World → World → Prop} {a0 : Act} {F : Act → World → Prop} (hform : relForm l a0.tmps.size = true) : ∀ (n i : Nat) (done : List (World → Value → Prop)), relExN P l C R a0 F i done n → done.length = i → i + n = l.length →
  ∃ Ss, (∃ r, Ss = done.reverse ++ r) ∧ Ss.length = l.length ∧ (∀ S ∈ Ss, ∀ w w' v, R w w' → S w v → S w' v) ∧ (∀ vs w b, C b w → (∀ j, j < l.length → b j = true) → relAll w Ss vs → F (putAll l vs a0) w) ∧ ∀ k, i ≤ k → k < l.length → RelOpN P l Ss C R a0 k
 |0, i, done, h, h1, h2 => ⟨done.reverse, ⟨[], by simp⟩, by simp; omega, fun S hS => stabN_of h.1 S (by simpa using hS), fun vs w b hC hb => h.2 w b hC hb vs, fun k h3 h4 => by omega⟩
 |n + 1, i, done, h, h1, h2 => by
  obtain ⟨S, hop, hrest⟩ := h
  obtain ⟨Ss, ⟨r, hr⟩, g1, g2, g3, g4⟩ := relExN_out hform n (i + 1) (S :: done) hrest (by simp [h1]) (by omega)
  rw [List.reverse_cons] at hr
  refine ⟨Ss, ⟨[S] ++ r, by rw [hr, List.append_assoc]⟩, g1, g2, g3, fun k h3 h4 => ?_⟩
  by_cases e : k = i
  ·subst e
   intro o S' ho hS' b a w hC m1 m2 m3 k1 k2 k3
   have hS : Ss[k]? = some S := by rw [hr, List.append_assoc, List.getElem?_append_right (by simp; omega)]; simp [h1]
   rw [hS] at hS'; cases hS'
   refine hop b o ho a w hC (relAtN_of ho m1 m2 m3 k1 k2 fun e he hb oe Se hoe hSe => k3 e he hb oe Se hoe ?_)
   have hlt := relForm_edge hform ho e he hb
   rw [hr, List.append_assoc, List.getElem?_append_left (by simp; omega), List.getElem?_reverse (by omega), h1]
   exact hSe
  ·exact g4 k (by omega) h4
theorem wp_region_n {id : Nat} {Q : Exit → Act → World → Prop} {a0 : Act} {w0 : World} (C : (Nat → Bool) → World → Prop) (R : World → World → Prop)
  (hm : P.follows .mixedOrders = true) (hform : relForm l a0.tmps.size = true) (hC : C (fun _ => false) { w0 with drawn := w0.drawn + 1 })
  (h : relExN P l C R a0 (fun a w => Q .normal a w) 0 [] l.length) : (Code.region id l.toArray true).wp P Q a0 w0 := by
 obtain ⟨Ss, _, g1, g2, g3, g4⟩ := relExN_out hform l.length 0 [] h rfl (by omega)
 exact wp_region_G hm (region_relN Ss C R g1 hform hC g2 (fun i hi => g4 i (Nat.zero_le _) hi) g3)
variable {C : (Nat → Bool) → World → Prop} {R : World → World → Prop} {a0 : Act} {F : Act → World → Prop} {i n : Nat} {done : List (World → Value → Prop)}
theorem nx_plain {o : Oper} {x : Value} (hc : ∀ b w, C b w → C (upd b i) w) (ho : l[i]? = some o) (hg : o.guard = none) (hd : o.dst.isSome = true)
  (h : ∀ b a w, C b w → RelAtN l done a0 i b a w → ∀ K : Act → World → Prop, (∀ w2, C b w2 → R w w2 → K (a.put o.dst x) w2) → o.wp P a w K (fun _ _ _ => False))
  (hn : relExN P l C R a0 F (i + 1) (eqV x :: done) n) : relExN P l C R a0 F i done (n + 1) := by
 refine ⟨eqV x, ?_, hn⟩
 intro b o' ho' a w hC hA
 rw [ho] at ho'; cases ho'
 have hw : Region.wanted o (yielded l.toArray a.tmps) = true := by unfold Region.wanted; rw [hg]
 rw [if_pos hw]
 refine h b a w hC hA _ fun w2 c r => ⟨x, rfl, hc _ _ c, r, ?_⟩
 cases hd' : o.dst with
 |none => rw [hd'] at hd; cases hd
 |some d => rfl
theorem nx_turn {o : Oper} (S : World → Value → Prop) (ho : l[i]? = some o) (hg : o.guard = none) (hd : o.dst.isSome = true)
  (h : ∀ b a w, C b w → RelAtN l done a0 i b a w → ∀ K : Act → World → Prop, (∀ v w2, C (upd b i) w2 → R w w2 → S w2 v → K (a.put o.dst v) w2) → o.wp P a w K (fun _ _ _ => False))
  (hn : relExN P l C R a0 F (i + 1) (S :: done) n) : relExN P l C R a0 F i done (n + 1) := by
 refine ⟨S, ?_, hn⟩
 intro b o' ho' a w hC hA
 rw [ho] at ho'; cases ho'
 have hw : Region.wanted o (yielded l.toArray a.tmps) = true := by unfold Region.wanted; rw [hg]
 rw [if_pos hw]
 refine h b a w hC hA _ fun v w2 c r s => ⟨v, rfl, c, r, ?_⟩
 cases hd' : o.dst with
 |none => rw [hd'] at hd; cases hd
 |some d => exact s
theorem nx_effect {o : Oper} (S : World → Prop) (ho : l[i]? = some o) (hg : o.guard = none)
  (h : ∀ b a w, C b w → RelAtN l done a0 i b a w → ∀ K : Act → World → Prop, (∀ v w2, C (upd b i) w2 → R w w2 → S w2 → K (a.put o.dst v) w2) → o.wp P a w K (fun _ _ _ => False))
  (hn : relExN P l C R a0 F (i + 1) ((fun w _ => S w) :: done) n) : relExN P l C R a0 F i done (n + 1) := by
 refine ⟨fun w _ => S w, ?_, hn⟩
 intro b o' ho' a w hC hA
 rw [ho] at ho'; cases ho'
 have hw : Region.wanted o (yielded l.toArray a.tmps) = true := by unfold Region.wanted; rw [hg]
 rw [if_pos hw]
 exact h b a w hC hA _ fun v w2 c r s => ⟨v, rfl, c, r, s⟩
end
section
open Go.RowKit
theorem RelAtN.e {l : List Oper} {Ss : List (World → Value → Prop)} {a0 : Act} {i : Nat} {b : Nat → Bool} {a : Act} {w : World} (h : RelAtN l Ss a0 i b a w) (j t : Nat) {x : Value} (hs : Ss[i - 1 - j]? = some (eqV x) := by rfl) (hd : depOK l i j t = true := by decide +kernel) : a.tmps[t]?.getD undef = x := h.dep j t (eqV x) hd hs
theorem RelAtN.f {l : List Oper} {Ss : List (World → Value → Prop)} {a0 : Act} {i : Nat} {b : Nat → Bool} {a : Act} {w : World} (h : RelAtN l Ss a0 i b a w) (t : Nat) {v : Value} (hv : a0.tmps.getD t undef = v := by rfl) (hd : freeN l i t = true := by decide +kernel) : a.tmps[t]?.getD undef = v := h.free t v hd hv
end
end Go.Proofs.YtigajcabgaddgaaGreatDoor
