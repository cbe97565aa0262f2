/-
 A region that draws its order; the class sees which operations are done, and what they have told (two new blocks of one type can be told apart). Over any program. engine: Write. engine: Write of one cell that goes well. engine: Compact with no files, Adopt of what is none.
-/
import Derived.Test.YtkjmgbifoaoefaaGreatDoorQCellA
import Derived.Test.YtkjmgbifoaoefaaGreatDoorQEngC
import Derived.Test.YtkjmgbifoaoefaaGreatDoorQWalC
import Derived.Test.YtkjmgbifoaoefaaGreatDoorQTabN
import Derived.Test.YtkjmgbifoaoefaaGreatDoorQTabL
set_option maxRecDepth 100000
set_option maxHeartbeats 8000000
namespace Go.Proofs.YtkjmgbifoaoefaaGreatDoor
section
open Go.RowKit
section
variable {P : Program} {l : List Oper}
def valsOf (l : List Oper) (a : Act) : Nat → Value := fun j => match l[j]? with
 |some o => valOf o a
 |none => undef
def updV (vs : Nat → Value) (i : Nat) (v : Value) : Nat → Value := fun k => if k = i then v else vs k
def told (o : Oper) (v : Value) : Value := match o.dst with
 |some _ => v
 |none => undef
theorem told_some {o : Oper} {v : Value} (h : o.dst.isSome = true) : told o v = v := by
 unfold told
 cases hd : o.dst with
 |none => rw [hd] at h; cases h
 |some d => rfl
theorem valsOf_some {a : Act} {k : Nat} {o : Oper} (h : l[k]? = some o) : valsOf l a k = valOf o a := by unfold valsOf; rw [h]
theorem valsOf_none {a : Act} {k : Nat} (h : l[k]? = none) : valsOf l a k = undef := by unfold valsOf; rw [h]
theorem vals_put {a : Act} {n i : Nat} {o : Oper} {v : Value} (hform : relForm l n = true) (hn : a.tmps.size = n) (ho : l[i]? = some o) : valsOf l (a.put o.dst v) = updV (valsOf l a) i (told o v) := by
 funext k
 by_cases e : k = i
 ·subst e
  rw [valsOf_some ho]
  unfold updV told
  rw [if_pos rfl]
  unfold valOf
  cases hd : o.dst with
  |none => rfl
  |some d =>
   simp only
   rw [put_getD_same (by rw [hn]; exact (relForm_dst hform ho hd).1)]
 ·unfold updV
  rw [if_neg e]
  cases hk : l[k]? with
  |none => rw [valsOf_none hk, valsOf_none hk]
  |some ok =>
   rw [valsOf_some hk, valsOf_some hk]
   unfold valOf
   cases hdk : ok.dst with
   |none => rfl
   |some d =>
    simp only
    refine put_getD_other fun hd => ?_
    exact (relForm_dst hform ho hd).2 k ok hk e hdk
theorem vals_map (a : Act) : (fun j => (l.map fun o => valOf o a).getD j undef) = valsOf l a := by
 funext j
 unfold valsOf
 rw [List.getD_eq_getElem?_getD, List.getElem?_map]
 cases l[j]? <;> rfl
def RelOpV (P : Program) (l : List Oper) (Ss : List (World → Value → Prop)) (C : (Nat → Bool) → (Nat → Value) → World → Prop) (R : World → World → Prop) (a0 : Act) (i : Nat) : Prop :=
 ∀ o S, l[i]? = some o → Ss[i]? = some S → ∀ (b : Nat → Bool) (a : Act) (w : World), C b (valsOf l a) w → b i = false → (∀ e ∈ o.after, Region.binds .any e = true → b e.on = true) →
  (∀ j oj, l[j]? = some oj → b j = true → ∀ e ∈ oj.after, Region.binds .any e = true → b e.on = true) → a.tmps.size = a0.tmps.size →
  (∀ t, (∀ j oj, l[j]? = some oj → oj.dst = some t → b j = false) → a.tmps.getD t undef = a0.tmps.getD t undef) →
  (∀ e ∈ o.after, Region.binds .any e = true → ∀ oe Se, l[e.on]? = some oe → Ss[e.on]? = some Se → Se w (valOf oe a)) →
  if Region.wanted o (yielded l.toArray a.tmps) = true then o.wp P a w (fun a2 w2 => ∃ v, a2 = a.put o.dst v ∧ C (upd b i) (updV (valsOf l a) i (told o v)) w2 ∧ R w w2 ∧ S w2 (told o v)) (fun _ _ _ => False)
  else S w undef ∧ C (upd b i) (updV (valsOf l a) i undef) w
structure RelInvV (l : List Oper) (Ss : List (World → Value → Prop)) (C : (Nat → Bool) → (Nat → Value) → World → Prop) (a0 : Act) (listed : Array Bool) (a : Act) (w : World) : Prop where
 size : listed.size = l.length
 defers : a.defers = a0.defers
 tmps : a.tmps.size = a0.tmps.size
 done : ∀ j o S, l[j]? = some o → Ss[j]? = some S → listed.getD j false = true → S w (valOf o a)
 same : ∀ t, (∀ j oj, l[j]? = some oj → oj.dst = some t → bitsOf listed j = false) → a.tmps.getD t undef = a0.tmps.getD t undef
 closed : ∀ j oj, l[j]? = some oj → bitsOf listed j = true → ∀ e ∈ oj.after, Region.binds .any e = true → bitsOf listed e.on = true
 cls : C (bitsOf listed) (valsOf l a) w
theorem rel_anyV {Ss : List (World → Value → Prop)} {C : (Nat → Bool) → (Nat → Value) → World → Prop} {R : World → World → Prop} {a0 : Act} {Qn : Act → World → Prop} (hl : Ss.length = l.length) (hform : relForm l a0.tmps.size = true)
  (stab : ∀ S ∈ Ss, ∀ w w' v, R w w' → S w v → S w' v) (rel : ∀ i, i < l.length → RelOpV P l Ss C R a0 i)
  (fin : ∀ a w listed, RelInvV l Ss C a0 listed a w → (∀ j, j < l.length → listed.getD j false = true) → Qn a w) :
  ∀ (fuel : Nat) (listed : Array Bool) (a : Act) (w : World), unlisted listed = fuel → RelInvV l Ss C a0 listed a w → wpAnyG P l Qn fuel listed a w := by
 intro fuel
 induction fuel with
 |zero =>
  intro listed a w hu inv
  have hall := unlisted_zero hu
  rw [inv.size] at hall
  refine ⟨?_, fin a w listed inv hall⟩
  apply List.eq_nil_iff_forall_not_mem.2
  intro j hj
  obtain ⟨h1, o, ho, _⟩ := mem_ready.1 hj
  have hlt : j < l.length := by simpa using (Array.getElem?_eq_some_iff.1 ho).1
  have h2 := hall j hlt
  have hls : j < listed.size := by rw [inv.size]; exact hlt
  simp [hls] at h1 h2
  rw [h1] at h2
  cases h2
 |succ fuel ih =>
  intro listed a w hu inv
  refine ⟨fun hr => ?_, fun i hi => ?_⟩
  ·-- something is ready as long as not all is listed
   exfalso
   have hex : ∃ j, j < l.length ∧ listed.getD j false = false := by
    by_cases hex : ∃ j, j < l.length ∧ listed.getD j false = false
    ·exact hex
    ·exfalso
     have hall : ∀ j, j < l.length → listed.getD j false = true := fun j hj => by
      cases h : listed.getD j false
      ·exact absurd ⟨j, hj, h⟩ hex
      ·rfl
     have : unlisted listed = 0 := by
      unfold unlisted
      rw [List.length_eq_zero_iff, List.filter_eq_nil_iff]
      intro b hb
      obtain ⟨j, hj, rfl⟩ := List.getElem_of_mem hb
      have hj' : j < listed.size := by simpa using hj
      have := hall j (by rw [← inv.size]; exact hj')
      simp [hj'] at this ⊢
      exact this
     omega
   obtain ⟨j, hj, hleast⟩ : ∃ j, (j < l.length ∧ listed.getD j false = false) ∧ ∀ k, k < j → ¬ (k < l.length ∧ listed.getD k false = false) := by
    obtain ⟨j0, h0⟩ := hex
    induction j0 using Nat.strongRecOn with
    |_ n ih2 =>
     by_cases hk : ∃ k, k < n ∧ (k < l.length ∧ listed.getD k false = false)
     ·obtain ⟨k, hk1, hk2⟩ := hk
      exact ih2 k hk1 hk2
     ·exact ⟨n, h0, fun k hk1 hk2 => hk ⟨k, hk1, hk2⟩⟩
   have hjs : j < listed.size := by rw [inv.size]; exact hj.1
   have : j ∈ Region.ready .any l.toArray listed := by
    refine mem_ready.2 ⟨by have := hj.2; simp [hjs] at this ⊢; exact this, l[j], by simp [hj.1], fun e he hb => ?_⟩
    have hlt := relForm_edge hform (List.getElem?_eq_getElem hj.1) e he hb
    cases h : listed.getD e.on false
    ·exact absurd ⟨by omega, h⟩ (hleast e.on hlt)
    ·rfl
   rw [hr] at this
   cases this
  ·obtain ⟨h1, o, ho, hpre⟩ := mem_ready.1 hi
   have ho' : l[i]? = some o := by simpa using ho
   have hlt : i < l.length := (List.getElem?_eq_some_iff.1 ho').1
   have hls : i < listed.size := by rw [inv.size]; exact hlt
   obtain ⟨S, hS⟩ : ∃ S, Ss[i]? = some S := ⟨Ss[i]'(by omega), List.getElem?_eq_getElem (by omega)⟩
   have h1' : bitsOf listed i = false := by unfold bitsOf; simp [hls] at h1 ⊢; exact h1
   have hr := rel i hlt o S ho' hS (bitsOf listed) a w inv.cls h1' (fun e he hb => hpre e he hb) inv.closed inv.tmps inv.same (fun e he hb oe Se hoe hSe => inv.done e.on oe Se hoe hSe (hpre e he hb))
   have hbit : bitsOf (listed.setIfInBounds i true) = upd (bitsOf listed) i := by
    funext k
    unfold bitsOf upd
    by_cases e : k = i
    ·subst e; rw [if_pos rfl]; simp [hls]
    ·rw [if_neg e, getD_set_ne false (Ne.symm e)]
   have hnext : ∀ v w2, C (upd (bitsOf listed) i) (updV (valsOf l a) i (told o v)) w2 → (∀ S' ∈ Ss, ∀ v, S' w v → S' w2 v) → S w2 (told o v) → wpAnyG P l Qn fuel (listed.setIfInBounds i true) (a.put o.dst v) w2 := by
    intro v w2 hC hst hv
    refine ih _ _ _ (by have := unlisted_set hls h1; omega) ⟨by simp [inv.size], by rw [put_defers]; exact inv.defers, by rw [put_size]; exact inv.tmps, ?_, ?_, ?_, by rw [hbit, vals_put hform inv.tmps ho']; exact hC⟩
    ·intro j oj Sj hj hSj hlj
     by_cases hij : i = j
     ·subst hij
      rw [ho'] at hj; cases hj
      rw [hS] at hSj; cases hSj
      unfold told at hv
      unfold valOf
      cases hd : o.dst with
      |none => rw [hd] at hv; exact hv
      |some d =>
       rw [hd] at hv
       simp only
       rw [put_getD_same (by rw [inv.tmps]; exact (relForm_dst hform ho' hd).1)]
       exact hv
     ·rw [getD_set_ne false hij] at hlj
      have h2 := hst Sj (List.mem_of_getElem? hSj) _ (inv.done j oj Sj hj hSj hlj)
      have : valOf oj (a.put o.dst v) = valOf oj a := by
       unfold valOf
       cases hdj : oj.dst with
       |none => rfl
       |some d =>
        simp only
        refine put_getD_other fun hd => ?_
        exact (relForm_dst hform ho' hd).2 j oj hj (Ne.symm hij) hdj
      rw [this]
      exact h2
    ·intro t ht
     have hne : o.dst ≠ some t := fun hd => by
      have := ht i o ho' hd
      rw [hbit] at this
      unfold upd at this
      rw [if_pos rfl] at this
      cases this
     rw [put_getD_other hne]
     refine inv.same t fun j oj hj hd => ?_
     have := ht j oj hj hd
     rw [hbit] at this
     unfold upd at this
     by_cases e : j = i
     ·rw [if_pos e] at this; cases this
     ·rw [if_neg e] at this; exact this
    ·intro j oj hj hlj e he hb
     rw [hbit] at hlj ⊢
     have up : ∀ k, bitsOf listed k = true → upd (bitsOf listed) i k = true := fun k hk => by
      unfold upd
      by_cases e : k = i
      ·rw [if_pos e]
      ·rw [if_neg e]; exact hk
     by_cases ej : j = i
     ·subst ej
      rw [ho'] at hj; cases hj
      exact up _ (hpre e he hb)
     ·unfold upd at hlj
      rw [if_neg ej] at hlj
      exact up _ (inv.closed j oj hj hlj e he hb)
   refine ⟨o, ho', ?_⟩
   split
   ·rename_i hw
    rw [if_pos hw] at hr
    refine (wp_mono_both (fun a2 w2 h => ?_) (fun _ _ _ h => h.elim) hr)
    obtain ⟨v, rfl, hC, hR, hv⟩ := h
    exact hnext v w2 hC (fun S' hS' v hv => stab S' hS' w w2 v hR hv) hv
   ·rename_i hw
    rw [if_neg hw] at hr
    have htu : told o undef = undef := by unfold told; cases o.dst <;> rfl
    refine hnext undef w (by rw [htu]; exact hr.2) (fun _ _ _ h => h) ?_
    rw [htu]; exact hr.1
theorem region_relV {Qn : Act → World → Prop} {a0 : Act} {w0 : World} (Ss : List (World → Value → Prop)) (C : (Nat → Bool) → (Nat → Value) → World → Prop) (R : World → World → Prop)
  (hl : Ss.length = l.length) (hform : relForm l a0.tmps.size = true) (hC : ∀ vs, C (fun _ => false) vs { w0 with drawn := w0.drawn + 1 })
  (stab : ∀ S ∈ Ss, ∀ w w' v, R w w' → S w v → S w' v) (rel : ∀ i, i < l.length → RelOpV P l Ss C R a0 i)
  (fin : ∀ vs w b, C b (fun j => vs.getD j undef) w → (∀ j, j < l.length → b j = true) → relAll w Ss vs → Qn (putAll l vs a0) w) : wpAnyG P l Qn l.toArray.size (Array.replicate l.toArray.size false) a0 { w0 with drawn := w0.drawn + 1 } := by
 refine (rel_anyV hl hform stab rel ?_ _ _ _ _ (by simp [unlisted]) ⟨by simp, rfl, rfl, ?_, fun _ _ => rfl, ?_, by rw [bits_none]; exact hC _⟩)
 ·intro a w listed inv hall
  have hvs := fin (l.map (fun o => valOf o a)) w (bitsOf listed) (by rw [vals_map]; exact inv.cls) hall (relAll_of (by simp [hl]) (fun i S v h1 h2 => by
   rw [List.getElem?_map] at h2
   cases ho : l[i]? with
   |none => rw [ho] at h2; cases h2
   |some o =>
    rw [ho] at h2
    simp only [Option.map_some, Option.some.injEq] at h2
    rw [← h2]
    exact inv.done i o S ho h1 (hall i (List.getElem?_eq_some_iff.1 ho).1)))
  have : putAll l (l.map (fun o => valOf o a)) a0 = a := by
   have hdef : (putAll l (l.map (fun o => valOf o a)) a0).defers = a.defers := by rw [putAll_defers, inv.defers]
   have htm : (putAll l (l.map (fun o => valOf o a)) a0).tmps = a.tmps := by
    have hsz : (putAll l (l.map (fun o => valOf o a)) a0).tmps.size = a.tmps.size := by rw [putAll_size, inv.tmps]
    refine Array.ext hsz fun t h1 h2 => ?_
    have hg : (putAll l (l.map (fun o => valOf o a)) a0).tmps.getD t undef = a.tmps.getD t undef := by
     by_cases hex : ∃ o ∈ l, o.dst = some t
     ·obtain ⟨o, ho, hd⟩ := hex
      obtain ⟨i, hi, hio⟩ := List.getElem_of_mem ho
      have hio' : l[i]? = some o := by rw [List.getElem?_eq_getElem hi, hio]
      rw [putAll_at l _ a0 (by simp) (fun i j oi oj d hi hj h1 h2 => by
       by_cases hij : i = j
       ·exact hij
       ·exact absurd h2 ((relForm_dst hform hi h1).2 j oj hj (Ne.symm hij))) (fun o' ho' d hd' => by
       obtain ⟨k, hk, hko⟩ := List.getElem_of_mem ho'
       exact (relForm_dst hform (by rw [List.getElem?_eq_getElem hk, hko]) hd').1) i o (valOf o a) t hio' (by rw [List.getElem?_map, hio']; rfl) hd]
      unfold valOf
      rw [hd]
     ·have hex' : ∀ o ∈ l, o.dst ≠ some t := fun o ho hd => hex ⟨o, ho, hd⟩
      rw [putAll_other l _ a0 t hex', inv.same t (fun j oj hj hd => absurd hd (hex' oj (List.mem_of_getElem? hj)))]
    simpa [h1, h2] using hg
   cases a
   cases h : putAll l (l.map (fun o => valOf o _)) a0
   rw [h] at hdef htm
   simp only at hdef htm
   rw [hdef, htm]
  rw [this] at hvs
  exact hvs
 ·intro j o S _ _ h
  exfalso
  rcases Nat.lt_or_ge j l.length with h' | h'
  ·simp [h'] at h
  ·simp [h'] at h
 ·intro j o _ h
  exfalso
  unfold bitsOf at h
  rcases Nat.lt_or_ge j l.length with h' | h'
  ·simp [h'] at h
  ·simp [h'] at h
def freeV (l : List Oper) (i t : Nat) : Bool := (List.range l.length).all fun j => match l[j]? with
 |some o => o.dst != some t || (j == i || o.after.any fun e => Region.binds .any e && e.on == i)
 |none => true
def preV (l : List Oper) (i j : Nat) : Bool := match l[i]? with
 |some o => o.after.any fun e => Region.binds .any e && e.on == j
 |none => false
structure RelAtV (l : List Oper) (Ss : List (World → Value → Prop)) (a0 : Act) (i : Nat) (b : Nat → Bool) (a : Act) (w : World) : Prop where
 size : a.tmps.size = a0.tmps.size
 dep : ∀ (j t : Nat) (S : World → Value → Prop), depOK l i j t = true → Ss[i - 1 - j]? = some S → S w (a.tmps[t]?.getD undef)
 free : ∀ (t : Nat) (v : Value), freeV l i t = true → a0.tmps.getD t undef = v → a.tmps[t]?.getD undef = v
 pre : ∀ j, preV l i j = true → b j = true
 post : ∀ j, preV l j i = true → b j = false
 self : b i = false
 val : ∀ (j t : Nat), depOK l i j t = true → a.tmps[t]?.getD undef = valsOf l a j
theorem relAtV_of {Ss : List (World → Value → Prop)} {a0 : Act} {i : Nat} {b : Nat → Bool} {a : Act} {w : World} {o : Oper} (ho : l[i]? = some o) (hs : b i = false) (hp : ∀ e ∈ o.after, Region.binds .any e = true → b e.on = true)
  (hc : ∀ j oj, l[j]? = some oj → b j = true → ∀ e ∈ oj.after, Region.binds .any e = true → b e.on = true) (h1 : a.tmps.size = a0.tmps.size)
  (h2 : ∀ t, (∀ j oj, l[j]? = some oj → oj.dst = some t → b j = false) → a.tmps.getD t undef = a0.tmps.getD t undef)
  (h3 : ∀ e ∈ o.after, Region.binds .any e = true → ∀ oe Se, l[e.on]? = some oe → Ss[i - 1 - e.on]? = some Se → Se w (valOf oe a)) : RelAtV l Ss a0 i b a w := by
 have later : ∀ j oj, l[j]? = some oj → (oj.after.any fun e => Region.binds .any e && e.on == i) = true → b j = false := fun j oj hj ha => by
  obtain ⟨e, he, hb⟩ := Array.any_eq_true'.1 ha
  simp only [Bool.and_eq_true, beq_iff_eq] at hb
  cases hbj : b j with
  |false => rfl
  |true =>
   have := hc j oj hj hbj e he hb.1
   rw [hb.2, hs] at this
   cases this
 refine ⟨h1, fun j t S hd hS => ?_, fun t v hf hv => ?_, fun j hj => ?_, fun j hj => ?_, hs, fun j t hd => ?_⟩
 ·unfold depOK at hd
  rw [ho] at hd
  cases hj : l[j]? with
  |none => rw [hj] at hd; cases hd
  |some oj =>
   rw [hj] at hd
   simp only [Bool.and_eq_true, beq_iff_eq] at hd
   obtain ⟨e, he, hb⟩ := Array.any_eq_true'.1 hd.1
   simp only [Bool.and_eq_true, beq_iff_eq] at hb
   obtain ⟨hb1, rfl⟩ := hb
   have := h3 e he hb1 oj S hj hS
   unfold valOf at this
   rw [hd.2] at this
   simpa using this
 ·have hw : ∀ j oj, l[j]? = some oj → oj.dst = some t → b j = false := fun j oj hj hd => by
   have hlt : j < l.length := (List.getElem?_eq_some_iff.1 hj).1
   have := List.all_eq_true.1 hf j (List.mem_range.2 hlt)
   rw [hj] at this
   simp only [hd, bne_self_eq_false, Bool.false_or, Bool.or_eq_true, beq_iff_eq] at this
   rcases this with rfl | h
   ·exact hs
   ·exact later j oj hj h
  have := h2 t hw
  rw [hv] at this
  simpa using this
 ·unfold preV at hj
  rw [ho] at hj
  obtain ⟨e, he, hb⟩ := Array.any_eq_true'.1 hj
  simp only [Bool.and_eq_true, beq_iff_eq] at hb
  rw [← hb.2]
  exact hp e he hb.1
 ·unfold preV at hj
  cases hlj : l[j]? with
  |none => rw [hlj] at hj; cases hj
  |some oj => rw [hlj] at hj; exact later j oj hlj hj
 ·unfold depOK at hd
  rw [ho] at hd
  cases hj : l[j]? with
  |none => rw [hj] at hd; cases hd
  |some oj =>
   rw [hj] at hd
   simp only [Bool.and_eq_true, beq_iff_eq] at hd
   unfold valsOf
   rw [hj]
   simp only
   unfold valOf
   rw [hd.2]
   simp
def StepV (P : Program) (l : List Oper) (done : List (World → Value → Prop)) (S : World → Value → Prop) (C : (Nat → Bool) → (Nat → Value) → World → Prop) (R : World → World → Prop) (a0 : Act) (i : Nat) : Prop :=
 ∀ (b : Nat → Bool), ∀ o, l[i]? = some o → ∀ (a : Act) (w : World), C b (valsOf l a) w → RelAtV l done a0 i b a w →
  if Region.wanted o (yielded l.toArray a.tmps) = true then o.wp P a w (fun a2 w2 => ∃ v, a2 = a.put o.dst v ∧ C (upd b i) (updV (valsOf l a) i (told o v)) w2 ∧ R w w2 ∧ S w2 (told o v)) (fun _ _ _ => False)
  else S w undef ∧ C (upd b i) (updV (valsOf l a) i undef) w
def stabV (R : World → World → Prop) : List (World → Value → Prop) → Prop
 |[] => True
 |S :: Ss => (∀ w w' v, R w w' → S w v → S w' v) ∧ stabV R Ss
theorem stabV_of {R : World → World → Prop} : ∀ {Ss : List (World → Value → Prop)}, stabV R Ss → ∀ S ∈ Ss, ∀ w w' v, R w w' → S w v → S w' v
 |[], _, S, hS => by cases hS
 |T :: Ss, h, S, hS => by
  rcases List.mem_cons.1 hS with rfl | hS
  ·exact h.1
  ·exact stabV_of h.2 S hS
theorem stabV_val (x : Value) {R : World → World → Prop} {Ss : List (World → Value → Prop)} (h : stabV R Ss) : stabV R (eqV x :: Ss) := ⟨fun _ _ _ _ h => h, h⟩
def relExV (P : Program) (l : List Oper) (C : (Nat → Bool) → (Nat → Value) → World → Prop) (R : World → World → Prop) (a0 : Act) (F : Act → World → Prop) : Nat → List (World → Value → Prop) → Nat → Prop
 |_, done, 0 => stabV R done ∧ ∀ w b, (∀ j, j < l.length → b j = true) → ∀ vs, relAll w done.reverse vs → C b (fun j => vs.getD j undef) w → F (putAll l vs a0) w
 |i, done, n + 1 => ∃ S, StepV P l done S C R a0 i ∧ relExV P l C R a0 F (i + 1) (S :: done) n
theorem relExV_out {C : (Nat → Bool) → (Nat → Value) → World → Prop} {R : World → World → Prop} {a0 : Act} {F : Act → World → Prop} (hform : relForm l a0.tmps.size = true) : ∀ (n i : Nat) (done : List (World → Value → Prop)), relExV P l C R a0 F i done n → done.length = i → i + n = l.length →
  ∃ Ss, (∃ r, Ss = done.reverse ++ r) ∧ Ss.length = l.length ∧ (∀ S ∈ Ss, ∀ w w' v, R w w' → S w v → S w' v) ∧ (∀ vs w b, C b (fun j => vs.getD j undef) w → (∀ j, j < l.length → b j = true) → relAll w Ss vs → F (putAll l vs a0) w) ∧ ∀ k, i ≤ k → k < l.length → RelOpV P l Ss C R a0 k
 |0, i, done, h, h1, h2 => ⟨done.reverse, ⟨[], by simp⟩, by simp; omega, fun S hS => stabV_of h.1 S (by simpa using hS), fun vs w b hC hb hr => h.2 w b hb vs hr hC, fun k h3 h4 => by omega⟩
 |n + 1, i, done, h, h1, h2 => by
  obtain ⟨S, hop, hrest⟩ := h
  obtain ⟨Ss, ⟨r, hr⟩, g1, g2, g3, g4⟩ := relExV_out hform n (i + 1) (S :: done) hrest (by simp [h1]) (by omega)
  rw [List.reverse_cons] at hr
  refine ⟨Ss, ⟨[S] ++ r, by rw [hr, List.append_assoc]⟩, g1, g2, g3, fun k h3 h4 => ?_⟩
  by_cases e : k = i
  ·subst e
   intro o S' ho hS' b a w hC m1 m2 m3 k1 k2 k3
   have hS : Ss[k]? = some S := by rw [hr, List.append_assoc, List.getElem?_append_right (by simp; omega)]; simp [h1]
   rw [hS] at hS'; cases hS'
   refine hop b o ho a w hC (relAtV_of ho m1 m2 m3 k1 k2 fun e he hb oe Se hoe hSe => k3 e he hb oe Se hoe ?_)
   have hlt := relForm_edge hform ho e he hb
   rw [hr, List.append_assoc, List.getElem?_append_left (by simp; omega), List.getElem?_reverse (by omega), h1]
   exact hSe
  ·exact g4 k (by omega) h4
theorem wp_region_v {id : Nat} {Q : Exit → Act → World → Prop} {a0 : Act} {w0 : World} (C : (Nat → Bool) → (Nat → Value) → World → Prop) (R : World → World → Prop)
  (hm : P.follows .mixedOrders = true) (hform : relForm l a0.tmps.size = true) (hC : ∀ vs, C (fun _ => false) vs { w0 with drawn := w0.drawn + 1 })
  (h : relExV P l C R a0 (fun a w => Q .normal a w) 0 [] l.length) : (Code.region id l.toArray true).wp P Q a0 w0 := by
 obtain ⟨Ss, _, g1, g2, g3, g4⟩ := relExV_out hform l.length 0 [] h rfl (by omega)
 exact wp_region_G hm (region_relV Ss C R g1 hform hC g2 (fun i hi => g4 i (Nat.zero_le _) hi) g3)
variable {C : (Nat → Bool) → (Nat → Value) → World → Prop} {R : World → World → Prop} {a0 : Act} {F : Act → World → Prop} {i n : Nat} {done : List (World → Value → Prop)}
theorem vx_plain {o : Oper} {x : Value} (hc : ∀ b vs w, C b vs w → b i = false → C (upd b i) (updV vs i x) w) (ho : l[i]? = some o) (hg : o.guard = none) (hd : o.dst.isSome = true)
  (h : ∀ b a w, C b (valsOf l a) w → RelAtV l done a0 i b a w → ∀ K : Act → World → Prop, (∀ w2, C b (valsOf l a) w2 → R w w2 → K (a.put o.dst x) w2) → o.wp P a w K (fun _ _ _ => False))
  (hn : relExV P l C R a0 F (i + 1) (eqV x :: done) n) : relExV P l C R a0 F i done (n + 1) := by
 refine ⟨eqV x, ?_, hn⟩
 intro b o' ho' a w hC hA
 rw [ho] at ho'; cases ho'
 have hw : Region.wanted o (yielded l.toArray a.tmps) = true := by unfold Region.wanted; rw [hg]
 rw [if_pos hw]
 exact h b a w hC hA _ fun w2 c r => ⟨x, rfl, by rw [told_some hd]; exact hc _ _ _ c hA.self, r, by rw [told_some hd]; rfl⟩
theorem vx_turn {o : Oper} (S : World → Value → Prop) (ho : l[i]? = some o) (hg : o.guard = none) (hd : o.dst.isSome = true)
  (h : ∀ b a w, C b (valsOf l a) w → RelAtV l done a0 i b a w → ∀ K : Act → World → Prop, (∀ v w2, C (upd b i) (updV (valsOf l a) i v) w2 → R w w2 → S w2 v → K (a.put o.dst v) w2) → o.wp P a w K (fun _ _ _ => False))
  (hn : relExV P l C R a0 F (i + 1) (S :: done) n) : relExV P l C R a0 F i done (n + 1) := by
 refine ⟨S, ?_, hn⟩
 intro b o' ho' a w hC hA
 rw [ho] at ho'; cases ho'
 have hw : Region.wanted o (yielded l.toArray a.tmps) = true := by unfold Region.wanted; rw [hg]
 rw [if_pos hw]
 exact h b a w hC hA _ fun v w2 c r s => ⟨v, rfl, by rw [told_some hd]; exact c, r, by rw [told_some hd]; exact s⟩
end
section
open Go.RowKit
theorem RelAtV.e {l : List Oper} {Ss : List (World → Value → Prop)} {a0 : Act} {i : Nat} {b : Nat → Bool} {a : Act} {w : World} (h : RelAtV l Ss a0 i b a w) (j t : Nat) {x : Value} (hs : Ss[i - 1 - j]? = some (eqV x) := by rfl) (hd : depOK l i j t = true := by decide +kernel) : a.tmps[t]?.getD undef = x := h.dep j t (eqV x) hd hs
theorem RelAtV.f {l : List Oper} {Ss : List (World → Value → Prop)} {a0 : Act} {i : Nat} {b : Nat → Bool} {a : Act} {w : World} (h : RelAtV l Ss a0 i b a w) (t : Nat) {v : Value} (hv : a0.tmps.getD t undef = v := by rfl) (hd : freeV l i t = true := by decide +kernel) : a.tmps[t]?.getD undef = v := h.free t v hd hv
end
end
section
open Go.RowKit Go.Lib Go.Maps Go.MapKept Go.ChangeMaps
theorem blen_any {B : Nat} (b : Nat) (l : List UInt8) (w : World) (h : BAt 69 B b l w) :
  Calls Tryz.prog 30 #[.pointer (some ⟨b, 0, none⟩)] w fun e w' => e = .returned (.int .i64 l.length) ∧ w' = w := by
 obtain ⟨p, hB, v, hbk, hown, hne⟩ := h.at
 rw [Lib.byteCells_length] at hown
 have hc : ∃ a cap, v = .slice a l.length cap := by
  rcases hown.2 with ⟨rfl, h0⟩ | ⟨g, cap, cur, rfl, _⟩
  ·exact ⟨none, 0, by rw [h0]⟩
  ·exact ⟨_, _, rfl⟩
 obtain ⟨a, cap, rfl⟩ := hc
 have q1 : w.cell? ⟨b, 1, none⟩ = some (.slice a l.length cap) := by rw [Lib.cell_of_heap hbk]; rfl
 clear hbk hown hne hB h
 go_enter Tryz.func30, Tryz.ntmps30
 go_wp2_with (fail)
 go_ret
 exact ⟨rfl, rfl⟩
theorem eclone_any (w : World) (ad : Addr) (n cap : Nat) (l : List Cel) (hat : CelsAt w (some ad) n l) (hn : n ≤ 1000000) :
  Calls Tryz.prog 27 #[.slice (some ad) n cap] w fun e w' => ∃ v', e = .returned v' ∧ OwnC w' w.heap.size v' l ∧ Fp [] w w' := by
 have HAT := Lib.hid hat
 have HLN := Lib.hid hat.len
 have q22 : ∀ (w : World) (a : Option Addr) (n c n' c' : Nat), (binOp .eql 33 (.slice a n c) (.slice none n' c')).run Tryz.prog w = .ok (.bool a.isNone) w := fun w a n c n' c' => Lib.run_eql_slice_nil w _ _ a n c n' c' Tryz.underlying33
 clear hat
 go_enter Tryz.func27, Tryz.ntmps27
 go_wp2_with (at_builtin; refine wpList_append_cels rfl _ _ rfl w.heap.size _ [] rfl (OwnC.made w _ (Nat.le_refl _)) _ _ _ l rfl (HAT.out.fp (Fp.alloc _ _)) (by intro h; cases h) (by have := HLN.out; simp; omega) (by simp) ?_; intro v2 w2 hown2 hbel2; have HO2 := Lib.hid hown2; have HB2 := Lib.hid hbel2; clear hown2 hbel2)
 go_ret
 exact ⟨_, rfl, HO2.out, (Fp.alloc w _).belowTrans (HB2.out.mono (by simp))⟩
theorem write_arg (w : World) (G nx fl b tm M la : Nat) (fv l1 l2 : Value) (a : Option Addr) (n cap seq : Nat) (l : List Cel) (h : EngAt w G fv nx fl b l1 l2 tm M la false) (hl : CelsAt w a n l) (hn : n ≤ 1000000)
  (hbad : n = 0 ∨ seq = 0 ∨ l.all mayB = false) :
  Calls Tryz.prog 7 #[ptrV G, .slice a n cap, .int .u64 seq] w fun e w' => e = .returned (.int .i64 1) ∧ Fp [] w w' := by
 have q9 : w.cell? ⟨G, 9, none⟩ = some (.bool false) := h.cell 9
 have HC := Lib.hid (econtains_any w a n cap l hl (by omega))
 obtain ⟨r, hr⟩ : ∃ r, l.all mayB = r := ⟨_, rfl⟩
 rw [hr] at HC hbad
 clear h hl hr
 unfold ptrV
 by_cases h0 : n = 0
 ·subst h0
  go_enter Tryz.func7, Tryz.ntmps7
  go_wp2_with (fail)
  go_ret
  exact ⟨rfl, Fp.refl _ _⟩
 have zn : ((n : Int) == 0) = false := by simpa using h0
 by_cases h1 : seq = 0
 ·subst h1
  go_enter Tryz.func7, Tryz.ntmps7
  go_wp2_with (fail)
  go_ret
  exact ⟨rfl, Fp.refl _ _⟩
 have zs : ((seq : Int) == 0) = false := by simpa using h1
 obtain rfl : r = false := by rcases hbad with h | h | h <;> first | exact absurd h h0 | exact absurd h h1 | exact h
 clear h0 h1 hbad
 go_enter Tryz.func7, Tryz.ntmps7
 go_wp2_with (fail)
 refine HC.out.mono ?_
 rintro e w2 ⟨rfl, hf⟩
 have HF := Lib.hid hf
 clear hf
 go_wp2_with (fail)
 go_ret
 exact ⟨rfl, HF.out⟩
theorem write_old (w : World) (G nx fl b tm M la : Nat) (fv l1 l2 : Value) (a : Option Addr) (n cap seq : Nat) (l : List Cel) (h : EngAt w G fv nx fl b l1 l2 tm M la false) (hl : CelsAt w a n l) (hn : n ≤ 1000000)
  (h0 : n ≠ 0) (h1 : seq ≠ 0) (hmay : l.all mayB = true) (hbad : seq ≤ la ∨ (1 < n ∧ ∃ x, CelOK x ∧ ∀ c ∈ l, (⟨c.row, c.col, c.ts, 0, false, ⟨#[]⟩⟩ : Cel) = x)) :
  Calls Tryz.prog 7 #[ptrV G, .slice a n cap, .int .u64 seq] w fun e w' => e = .returned (.int .i64 4) ∧ Fp [] w w' := by
 have q9 : w.cell? ⟨G, 9, none⟩ = some (.bool false) := h.cell 9
 have H := Lib.hid h
 have HL := Lib.hid hl
 have HC := Lib.hid (econtains_any w a n cap l hl (by omega))
 rw [hmay] at HC
 clear h hl hmay
 unfold ptrV
 have zn : ((n : Int) == 0) = false := by simpa using h0
 have zs : ((seq : Int) == 0) = false := by simpa using h1
 go_enter Tryz.func7, Tryz.ntmps7
 go_wp2_with (fail)
 refine HC.out.mono ?_
 rintro e w2 ⟨rfl, hf⟩
 have q8 : w2.cell? ⟨G, 8, none⟩ = some (.int .u64 la) := (H.out.fp hf (by simp)).cell 8
 by_cases hs : seq ≤ la
 ·have zl : ((seq : Int) ≤ (la : Int)) := by omega
  have HF := Lib.hid hf
  clear hf hbad
  go_wp2_with (fail)
  go_ret
  exact ⟨rfl, HF.out⟩
 ·have zl : ¬ ((seq : Int) ≤ (la : Int)) := by omega
  obtain ⟨g1, x, gx, gs⟩ : (1 < n ∧ ∃ x, CelOK x ∧ ∀ c ∈ l, (⟨c.row, c.col, c.ts, 0, false, ⟨#[]⟩⟩ : Cel) = x) := by
   rcases hbad with h | h
   ·exact absurd h hs
   ·exact h
  have HT := Lib.hid (twice_any w2 a n cap l x (HL.out.fp hf) hn (by omega) gx gs)
  rw [decide_eq_true g1] at HT
  have HF := Lib.hid hf
  clear hf hbad gs gx g1
  go_wp2_with (fail)
  refine HT.out.mono ?_
  rintro e w3 ⟨rfl, hf3⟩
  have HF3 := Lib.hid hf3
  clear hf3
  go_wp2_with (fail)
  go_ret
  exact ⟨rfl, HF.out.trans HF3.out (by simp)⟩
end
section
open Go.RowKit Go.Lib Go.Maps Go.MapKept Go.ChangeMaps
structure WrAt (w : World) (G nx fl b bm tm M la L1 L2 : Nat) (fv : Value) (d : Dk) (lg : Lg) : Prop where
 eng : EngAt w G fv nx fl b (ptrV L1) (ptrV L2) tm M la false
 disk : DiskAt w b bm d
 log : LogAt w L2 b lg
 tab : TabAt w
theorem WrAt.calm {w w' : World} {G nx fl b bm tm M la L1 L2 : Nat} {fv : Value} {d : Dk} {lg : Lg} (h : WrAt w G nx fl b bm tm M la L1 L2 fv d lg) (hf : Fp [] w w') : WrAt w' G nx fl b bm tm M la L1 L2 fv d lg :=
 ⟨h.eng.fp hf (by simp), h.disk.of_fp hf (by simp) (by simp), h.log.fp hf (by simp), h.tab.fp hf (by simp)⟩
theorem WrAt.G_off {w : World} {G nx fl b bm tm M la L1 L2 : Nat} {fv : Value} {d : Dk} {lg : Lg} (h : WrAt w G nx fl b bm tm M la L1 L2 fv d lg) : G ∉ [b, bm, L2] := by
 have h1 := box_ne h.eng (by decide) h.disk
 have h2 := cells_ne h.eng h.log (by decide)
 simp only [List.mem_cons, List.not_mem_nil, or_false, not_or] at h1 ⊢
 exact ⟨h1.1, h1.2, h2⟩
theorem WrAt.tab_off {w : World} {G nx fl b bm tm M la L1 L2 : Nat} {fv : Value} {d : Dk} {lg : Lg} (h : WrAt w G nx fl b bm tm M la L1 L2 fv d lg) : 0 ∉ [b, bm, L2, G] := by
 have h1 := tab_ne h.tab h.disk.cells (by intro k; simp [dkCells])
 have h2 := tab_ne h.tab h.log (by intro k; simp [logCells])
 have h3 : 0 ≠ G := by
  intro e
  have h4 := h.tab 0 (by decide)
  have h5 := h.eng.cell 0
  rw [← e] at h5
  have h6 := h.eng
  unfold EngAt at h6
  rw [← e] at h6
  have h7 := h.eng.cell 1
  have h8 := h.tab 1 (by decide)
  rw [← e, h8] at h7
  cases h7
 have h4 : 0 ≠ bm := by
  intro e
  have h5 := h.tab 0 (by decide)
  obtain ⟨es, clock, h6, _⟩ := h.disk.files
  rw [← e] at h6
  unfold World.cell? at h5
  rw [h6] at h5
  cases h5
 simp only [List.mem_cons, List.not_mem_nil, or_false, not_or]
 exact ⟨h1, h4, h2, h3⟩
structure TellC (w0 : World) (b bm L2 B base : Nat) (v : Value) (c : Cel) (d2 : Dk) (lg2 : Lg) (l : List UInt8) (b4 b5 b6 : Bool) (v5 : Value) (w : World) : Prop where
 o45 : b5 = true → b4 = true
 o56 : b6 = true → b5 = true
 bld : b4 = false → BAt 69 B B l w
 pre : b6 = false → Fp [] w0 w
 fp : Fp [b, bm, L2] w0 w
 size : B ≤ w.heap.size
 own : OwnC w base v [c]
 sl : b5 = true → b6 = false → ∃ g, v5 = .slice (some ⟨g, 0, none⟩) 1 1 ∧ w.heap[g]? = some (.cells #[.string ⟨l.toArray⟩] 9 (0, 0))
 post : b6 = true → DiskAt w b bm d2 ∧ LogAt w L2 b lg2
theorem TellC.start {w0 w : World} {b bm L2 B base : Nat} {v v5 : Value} {c : Cel} {d2 : Dk} {lg2 : Lg} {l : List UInt8} (hb : BAt 69 B B l w) (hf : Fp [] w0 w) (hs : B ≤ w.heap.size) (ho : OwnC w base v [c]) : TellC w0 b bm L2 B base v c d2 lg2 l false false false v5 w :=
 ⟨(fun h => by cases h), (fun h => by cases h), fun _ => hb, fun _ => hf, hf.mono (by simp), hs, ho, (fun h => by cases h), (fun h => by cases h)⟩
theorem TellC.calm {w0 w w2 : World} {b bm L2 B base : Nat} {v v5 : Value} {c : Cel} {d2 : Dk} {lg2 : Lg} {l : List UInt8} {b4 b5 b6 : Bool} (h : TellC w0 b bm L2 B base v c d2 lg2 l b4 b5 b6 v5 w) (hf : Fp [] w w2) : TellC w0 b bm L2 B base v c d2 lg2 l b4 b5 b6 v5 w2 := by
 refine ⟨h.o45, h.o56, fun g => (h.bld g).fp hf (by simp), fun g => (h.pre g).trans hf (by simp), h.fp.trans hf (by simp), Nat.le_trans h.size hf.size, h.own.fp hf (by simp), fun g5 g6 => ?_, fun g => ⟨(h.post g).1.of_fp hf (by simp) (by simp), (h.post g).2.fp hf (by simp)⟩⟩
 obtain ⟨g, e1, e2⟩ := h.sl g5 g6
 exact ⟨g, e1, (hf.block g (heap_lt e2) (by simp)).trans e2⟩
theorem TellC.told {w0 w w2 : World} {b bm L2 B base : Nat} {v v5 : Value} {c : Cel} {d2 : Dk} {lg2 : Lg} {l : List UInt8} {b4 b5 b6 : Bool} (h : TellC w0 b bm L2 B base v c d2 lg2 l b4 b5 b6 v5 w) (h4 : b4 = false) (hbel : Below B w w2)
  (hB : w0.heap.size ≤ B) (hv : ∀ k, v.ownBlock = some k → k < B) : TellC w0 b bm L2 B base v c d2 lg2 l true b5 b6 v5 w2 := by
 have h5 : b5 = false := by
  cases e : b5
  ·rfl
  ·have := h.o45 e; rw [h4] at this; cases this
 have h6 : b6 = false := by
  cases e : b6
  ·rfl
  ·have := h.o56 e; rw [h5] at this; cases this
 have hp := (h.pre h6).belowTrans (hbel.mono hB)
 exact ⟨fun _ => rfl, h.o56, (fun g => by cases g), fun _ => hp, hp.mono (by simp), Nat.le_trans h.size hbel.size, h.own.kept (fun k hk => hbel.block k (hv k hk)), (fun g => by rw [h5] at g; cases g), (fun g => by rw [h6] at g; cases g)⟩
theorem TellC.sliced {w0 w : World} {b bm L2 B base : Nat} {v v5 : Value} {c : Cel} {d2 : Dk} {lg2 : Lg} {l : List UInt8} {b4 b5 b6 : Bool} (h : TellC w0 b bm L2 B base v c d2 lg2 l b4 b5 b6 v5 w) (h4 : b4 = true) (h5 : b5 = false) :
  TellC w0 b bm L2 B base v c d2 lg2 l b4 true b6 (.slice (some ⟨w.heap.size, 0, none⟩) 1 1) (w.alloc (.cells #[.string ⟨l.toArray⟩] 9)) := by
 have h6 : b6 = false := by
  cases e : b6
  ·rfl
  ·have := h.o56 e; rw [h5] at this; cases this
 have hf := Fp.alloc w (.cells #[.string ⟨l.toArray⟩] 9)
 exact ⟨fun _ => h4, fun _ => rfl, fun g => (h.bld g).fp hf (by simp), fun g => (h.pre g).trans hf (by simp), h.fp.trans hf (by simp), Nat.le_trans h.size hf.size, h.own.fp hf (by simp), fun _ _ => ⟨_, rfl, heap_alloc_at rfl _⟩, fun g => by rw [h6] at g; cases g⟩
theorem TellC.wrote {w0 w w2 : World} {b bm L2 B base : Nat} {v v5 : Value} {c : Cel} {d2 : Dk} {lg2 : Lg} {l : List UInt8} {b4 b5 b6 : Bool} (h : TellC w0 b bm L2 B base v c d2 lg2 l b4 b5 b6 v5 w) (h5 : b5 = true) (hf : Fp [b, bm, L2] w w2)
  (hd : DiskAt w2 b bm d2) (hl : LogAt w2 L2 b lg2) (hv : ∀ k, v.ownBlock = some k → k ∉ [b, bm, L2]) : TellC w0 b bm L2 B base v c d2 lg2 l b4 b5 true v5 w2 :=
 ⟨h.o45, fun _ => h5, (fun g => by have := h.o45 h5; rw [g] at this; cases this), (fun g => by cases g), h.fp.trans hf (fun i hi => Or.inl hi), Nat.le_trans h.size hf.size, h.own.kept (fun k hk => hf.block k (h.own.lt k hk).2 (hv k hk)), (fun _ g => by cases g), fun _ => ⟨hd, hl⟩⟩
theorem liesS : liesAt Tryz.prog Tryz.prog.depth 69 (2 / Tryz.prog.cellsOf 69) 0 69 1 = true := by kernel_rfl
theorem write_ok (w : World) (G nx fl db bm tm M la L1 L2 : Nat) (fv : Value) (d d2 : Dk) (lg lg2 : Lg) (a : Option Addr) (cap seq : Nat) (c : Cel) (S : List Nat) (Post : World → Prop)
  (h : WrAt w G nx fl db bm tm M la L1 L2 fv d lg) (hok : DkOK d) (hto : lg.name.size ≤ 1000) (hm : lg.many ≤ 1000000000) (hl : CelsAt w a 1 [c]) (hseq : la < seq) (hsq : seq < 18446744073709551616) (hmay : mayB c = true)
  (hsz : (encL { c with seq := seq }).length ≤ 60000) (happ : appendLP lg d [⟨(encL { c with seq := seq }).toArray⟩] = (lg2, d2, 0))
  (hput : ∀ W, Fp [db, bm, L2] w W → Calls Tryz.prog 34 #[ptrV M, cellV { c with seq := seq }] W fun e w' => (∃ k, e = .returned (.int .i64 k)) ∧ Post w' ∧ Fp S W w')
  (hcalm : ∀ W W', Post W → Fp [G] W W' → Post W') (hS : ∀ k ∈ [G, db, bm, L2, 0], k ∉ S) :
  Calls Tryz.prog 7 #[ptrV G, .slice a 1 cap, .int .u64 seq] w fun e w' => e = .returned (.int .i64 0) ∧ WrAt w' G nx fl db bm tm M seq L1 L2 fv d2 lg2 ∧ Post w' ∧ Fp ([db, bm, L2, G] ++ S) w w' := by
 have q9 : w.cell? ⟨G, 9, none⟩ = some (.bool false) := h.eng.cell 9
 have hcok := hl.ok c (by simp)
 have hGo := h.G_off
 have H := Lib.hid h
 have HL := Lib.hid hl
 have HC := Lib.hid (econtains_any w a 1 cap [c] hl (by omega))
 rw [show [c].all mayB = true by simp [hmay]] at HC
 obtain ⟨ad, rfl⟩ : ∃ ad, a = some ad := by
  rcases hl.cells with h | ⟨db, o, h, _⟩
  ·cases h
  ·exact ⟨_, h⟩
 have HPUT := Lib.hid hput
 have HCALM := Lib.hid hcalm
 have HAPP := Lib.hid happ
 have HS := Lib.hid hS
 have HGO := Lib.hid hGo
 have hcok2 : CelOK { c with seq := seq } := ⟨hcok.ts, hsq, hcok.row, hcok.col, hcok.val⟩
 have HEN := Lib.hid (fun w => enc_yes { c with seq := seq } w hcok2 (by exact hmay))
 obtain ⟨t, ht⟩ : ∃ t, encL { c with seq := seq } = t := ⟨_, rfl⟩
 rw [ht] at HEN HAPP hsz
 clear h hl hput hcalm happ hS hGo ht
 unfold ptrV at *
 have zs : ((seq : Int) == 0) = false := by
  have : seq ≠ 0 := by omega
  simpa using this
 have zl : ¬ ((seq : Int) ≤ (la : Int)) := by omega
 go_enter Tryz.func7, Tryz.ntmps7
 go_wp2_with (fail)
 refine HC.out.mono ?_
 rintro e w1 ⟨rfl, hf1⟩
 have q8 : w1.cell? ⟨G, 8, none⟩ = some (.int .u64 la) := (H.out.eng.fp hf1 (by simp)).cell 8
 have HT := Lib.hid (twice_any w1 (some ad) 1 cap [c] ⟨c.row, c.col, c.ts, 0, false, ⟨#[]⟩⟩ (HL.out.fp hf1) (by omega) (by omega) ⟨hcok.ts, by show 0 < 18446744073709551616; omega, hcok.row, hcok.col, by show (⟨#[]⟩ : ByteArray).size ≤ 9223372036854775807; decide⟩ (by simp))
 rw [show decide (1 < 1) = false by decide] at HT
 have HF1 := Lib.hid hf1
 clear hf1 HC
 go_wp2_with (fail)
 refine HT.out.mono ?_
 rintro e w2 ⟨rfl, hf2⟩
 have HCL := Lib.hid (eclone_any w2 ad 1 cap [c] (HL.out.fp (HF1.out.trans hf2 (by simp))) (by omega))
 have HF2 := Lib.hid (HF1.out.trans hf2 (by simp))
 clear hf2 HT HF1
 go_wp2_with (fail)
 refine HCL.out.mono ?_
 rintro e w3 ⟨v, rfl, hown, hf3⟩
 obtain ⟨g, cap2, cur, rfl, hg, -⟩ := hown.open (by simp)
 have HO := Lib.hid hown
 have HF3 := Lib.hid (HF2.out.trans hf3 (by simp))
 have HFN := Lib.hid hf3
 clear hown hf3 HCL
 obtain ⟨W4, hW4⟩ : ∃ W, W = w3.alloc (.cells #[.pointer none, .slice none 0 0] 69) := ⟨_, rfl⟩
 have hb4 : BAt 69 w3.heap.size w3.heap.size [] W4 := by rw [hW4]; exact BAt.fresh _ _
 have hf4 : Fp [] w3 W4 := by rw [hW4]; exact Fp.alloc _ _
 have ho4 : OwnC W4 w2.heap.size (.slice (some ⟨g, 0, none⟩) 1 cap2) [c] := HO.out.fp hf4 (by simp)
 have hglt : g < w3.heap.size := (HO.out.lt g rfl).2
 obtain ⟨hcc, hfr⟩ := ho4.cel (j := 0) (by simp)
 have f3 := hfr 3
 obtain ⟨q0, q1, q2, q3, q4, q5⟩ := hcc
 simp only [Nat.zero_mul, Nat.zero_add, List.getElem_cons_zero] at q0 q1 q2 q3 q4 q5
 have ho5 : OwnC (W4.setCell ⟨g, 3, none⟩ (.int .u64 seq)) w2.heap.size (.slice (some ⟨g, 0, none⟩) 1 cap2) [{ c with seq := seq }] := ho4.setSeq (k := 0) seq (by simp)
 have hb5 : BAt 69 w3.heap.size w3.heap.size [] (W4.setCell ⟨g, 3, none⟩ (.int .u64 seq)) := hb4.fp (Fp.setCell _ ⟨g, 3, none⟩ _) (by simpa using hglt)
 obtain ⟨W5, hW5⟩ : ∃ W, W = W4.setCell ⟨g, 3, none⟩ (.int .u64 seq) := ⟨_, rfl⟩
 rw [← hW5] at ho5 hb5
 have hf5 : Fp [] w2 W5 := by rw [hW5]; exact (HFN.out.trans hf4 (by simp)).setCell' (Or.inr hg) _
 obtain ⟨hcc5, hfr5⟩ := ho5.cel (j := 0) (by simp)
 obtain ⟨z0, z1, z2, z3, z4, z5⟩ := hcc5
 simp only [Nat.zero_mul, Nat.zero_add, List.getElem_cons_zero] at z0 z1 z2 z3 z4 z5
 have HO5 := Lib.hid ho5
 have HB5 := Lib.hid hb5
 have HF5 := Lib.hid hf5
 clear ho4 hfr hfr5 ho5 hb5 hf5 hb4 hf4
 go_wp2_with (fail)
 rw [← hW4]
 clear hW4
 refine wp_loop_rounds 2 ?_
 rw [rounds_succ]
 go_wp2_with (fail)
 rw [← hW5]
 clear q0 q1 q2 q3 q4 q5 f3
 refine (HEN.out _).mono ?_
 rintro e w6 ⟨rfl, hf6⟩
 have HTS : Hid ((⟨t.toArray⟩ : ByteArray).size = t.length) := show t.toArray.size = t.length by simp
 have HWS := Lib.hid (writeString_any liesS (by decide) w3.heap.size w3.heap.size [] ⟨t.toArray⟩ w6 (HB5.out.fp hf6 (by simp)) (by rw [HTS.out]; simp; omega))
 have ho6 := HO5.out.fp hf6 (by simp)
 have hs6 : w3.heap.size ≤ w6.heap.size := Nat.le_trans HB5.out.le hf6.size
 have HO6 := Lib.hid ho6
 have HF6 := Lib.hid (HF5.out.trans hf6 (by simp))
 clear hf6 ho6 HEN z0 z1 z2 z3 z4 z5
 go_wp2_with (fail)
 refine HWS.out.mono ?_
 rintro e w7 ⟨rfl, hb7, hf7⟩
 simp only [List.nil_append] at hb7
 have hs3 : w2.heap.size ≤ w3.heap.size := HFN.out.size
 have ho7 : OwnC w7 w2.heap.size (.slice (some ⟨g, 0, none⟩) 1 cap2) [{ c with seq := seq }] := HO6.out.kept (fun k hk => by cases hk; exact hf7.below.block _ hglt)
 have HF7 := Lib.hid (HF6.out.belowTrans (hf7.below.mono hs3))
 have HB7 := Lib.hid hb7
 have HO7 := Lib.hid ho7
 have hs7 := hb7.le
 have HLEN := Lib.hid (fun w h => blen_any (B := w3.heap.size) w3.heap.size t w h)
 clear hb7 hf7 ho7 HWS HO6 HF6 HO5 HB5 HF5
 go_wp2_with (fail)
 rw [rounds_succ]
 go_wp2_with (fail)
 refine (HLEN.out w7 HB7.out).mono ?_
 rintro e w8 ⟨rfl, rfl⟩
 have zw : ¬ ((60000 : Int) < (t.length : Int)) := by omega
 go_wp2_with (fail)
 have hs2 : w.heap.size ≤ w2.heap.size := HF2.out.size
 have hd0 := heap_lt H.out.disk.cells
 have hm0 := H.out.disk.files.lt
 have hl0 := heap_lt H.out.log
 have HF8 := Lib.hid (HF2.out.trans HF7.out (by simp))
 have HSTR := Lib.hid (fun W h => string_any (T := 69) w3.heap.size w3.heap.size t W h)
 have hst : TellC w db bm L2 w3.heap.size w2.heap.size (.slice (some ⟨g, 0, none⟩) 1 cap2) { c with seq := seq } d2 lg2 t false false false undef w8.drew := TellC.start (HB7.out.fp (Fp.drew _) (by simp)) HF8.out.drew' hs7 (HO7.out.fp (Fp.drew _) (by simp))
 have HST := Lib.hid hst
 have HVB : Hid (∀ k, (Value.slice (some ⟨g, 0, none⟩) 1 cap2).ownBlock = some k → k < w3.heap.size) := fun k hk => by cases hk; exact hglt
 have HVO : Hid (∀ k, (Value.slice (some ⟨g, 0, none⟩) 1 cap2).ownBlock = some k → k ∉ [db, bm, L2]) := fun k hk => by cases hk; simp; omega
 have HBS : Hid (w.heap.size ≤ w3.heap.size) := Nat.le_trans hs2 hs3
 have HSUM : Hid (sumsT [⟨t.toArray⟩] ≤ 100000000) := by
  have := HTS.out
  unfold Hid
  simp only [sumsT]
  omega
 clear hst hs2 hs3 hs6 hs7 hd0 hm0 hl0 hglt hW5
 refine wp_region_v (fun bb vs w' => TellC w db bm L2 w3.heap.size w2.heap.size (.slice (some ⟨g, 0, none⟩) 1 cap2) { c with seq := seq } d2 lg2 t (bb 4) (bb 5) (bb 6) (vs 5) w') (fun _ _ => True) (by kernel_rfl) (by kernel_rfl) (fun _ => ⟨HST.out.o45, HST.out.o56, HST.out.bld, HST.out.pre, HST.out.fp, HST.out.size, HST.out.own, (fun h => by cases h), HST.out.post⟩) ?_
 iterate 4
  apply vx_plain (fun _ _ _ h _ => h) rfl rfl rfl
  ·intro b a w hC hA K hK
   have := hA.f 0
   try have := hA.e 0 69
   try have := hA.e 1 70
   try have := hA.e 2 71
   have q5 : w.cell? ⟨G, 5, none⟩ = some (.pointer (some ⟨L2, 0, none⟩)) := (H.out.eng.fp hC.fp HGO.out).cell 5
   simp only [Oper.wp, execOp]; go_simp
   exact hK _ hC trivial
 apply vx_turn (eqV (.string ⟨t.toArray⟩)) rfl rfl rfl
 ·intro b a w hC hA K hK
  have h8 := hA.f 8
  have hno := hA.self
  simp only [Oper.wp, execOp]; go_simp
  (with_reducible refine (HSTR.out _ (hC.bld hno)).mono ?_)
  rintro e w9 ⟨rfl, hbel⟩
  exact hK _ _ (hC.told hno hbel HBS.out HVB.out) trivial rfl
 apply vx_turn (fun _ _ => True) rfl rfl rfl
 ·intro b a w hC hA K hK
  have h73 := hA.e 4 73
  have hno := hA.self
  have hy4 := hA.pre 4 (by kernel_rfl)
  simp only [Oper.wp, execOp]; go_simp
  exact hK _ _ (hC.sliced hy4 hno) trivial trivial
 apply vx_turn (eqV (.int .i64 0)) rfl rfl rfl
 ·intro b a w hC hA K hK
  have h72 := hA.e 3 72
  have h74 := hA.dep 5 74 _ (by kernel_rfl) rfl
  have hy5 := hA.pre 5 (by kernel_rfl)
  have hno := hA.self
  obtain ⟨gs, e1, e2⟩ := hC.sl hy5 hno
  have hv := (hA.val 5 74 (by kernel_rfl)).trans e1
  have hw := H.out.calm (hC.pre hno)
  have hat : StrsAt w (some ⟨gs, 0, none⟩) 1 [⟨t.toArray⟩] := ⟨rfl, Or.inr ⟨gs, 0, rfl, fun i hi => by
   have hi0 : i = 0 := by simpa using hi
   subst hi0
   exact cell_of_block e2 0⟩, fun s hs => by
   have hs0 : s = ⟨t.toArray⟩ := by simpa using hs
   subst hs0
   have := HTS.out
   show _ ≤ maxLen
   unfold maxLen
   omega⟩
  have HW9 := Lib.hid (wappend_any w db bm L2 lg d (some ⟨gs, 0, none⟩) 1 1 [⟨t.toArray⟩] hw.disk hok hto hw.log hat hw.tab HSUM.out hm)
  rw [HAPP.out] at HW9
  clear hw hat e2
  simp only [Oper.wp, execOp]; go_simp
  (with_reducible refine HW9.out.mono ?_)
  rintro e w9 ⟨rfl, hd9, hl9, hf9⟩
  exact hK _ _ (hC.wrote hy5 hf9 hd9 hl9 HVO.out) trivial rfl
 apply vx_plain (fun _ _ _ h _ => h) rfl rfl rfl
 ·intro b a w hC hA K hK
  have h75 := hA.e 6 75
  simp only [Oper.wp, execOp]; go_simp
  exact hK _ hC trivial
 refine ⟨?_, ?_⟩
 ·refine stabV_val _ ?_
  refine ⟨fun _ _ _ _ h => h, ?_⟩
  refine ⟨fun _ _ _ _ h => h, ?_⟩
  refine ⟨fun _ _ _ _ h => h, ?_⟩
  iterate 4 refine stabV_val _ ?_
  exact trivial
 ·intro w9 bb hbb
  simp only [List.reverse_cons, List.reverse_nil, List.nil_append, List.cons_append]
  iterate 4 (refine all_val ?_)
  refine all_some ?_
  intro v4 u4
  obtain rfl := u4
  refine all_some ?_
  intro v5 u5
  refine all_some ?_
  intro v6 u6
  obtain rfl := u6
  iterate 1 (refine all_val ?_)
  refine all_nil ?_
  intro hC
  simp only [putAll, Act.put, List.setIfInBounds_toArray, List.set_cons_succ, List.set_cons_zero]
  have hb6 : bb 6 = true := hbb 6 (by decide)
  obtain ⟨hd9, hl9⟩ := hC.post hb6
  have HD9 := Lib.hid hd9
  have HL9 := Lib.hid hl9
  have HF9 := Lib.hid hC.fp
  have HO9 := Lib.hid hC.own
  clear hC hbb hd9 hl9
  go_wp2_with (fail)
  obtain ⟨hcc9, -⟩ := HO9.out.cel (j := 0) (by simp)
  obtain ⟨q0, q1, q2, q3, q4, q5⟩ := hcc9
  simp only [Nat.zero_mul, Nat.zero_add, List.getElem_cons_zero] at q0 q1 q2 q3 q4 q5
  obtain ⟨W10, hW10⟩ : ∃ W, W = w9.alloc (.cells #[.string c.row, .string c.col, .int .u64 c.ts, .int .u64 seq, .bool c.del, .string c.val] 24) := ⟨_, rfl⟩
  have hf10 : Fp [] w9 W10 := by rw [hW10]; exact Fp.alloc _ _
  have hbx : W10.heap[w9.heap.size]? = some (.cells #[.string c.row, .string c.col, .int .u64 c.ts, .int .u64 seq, .bool c.del, .string c.val] 24 (0, 0)) := by rw [hW10]; exact heap_alloc_at rfl _
  have HXB : Hid (∀ w', Fp [] W10 w' → w'.cell? ⟨w9.heap.size, 0, none⟩ = some (.string c.row) ∧ w'.cell? ⟨w9.heap.size, 1, none⟩ = some (.string c.col) ∧ w'.cell? ⟨w9.heap.size, 2, none⟩ = some (.int .u64 c.ts) ∧ w'.cell? ⟨w9.heap.size, 3, none⟩ = some (.int .u64 seq) ∧ w'.cell? ⟨w9.heap.size, 4, none⟩ = some (.bool c.del) ∧ w'.cell? ⟨w9.heap.size, 5, none⟩ = some (.string c.val)) := fun w' hf => by
   have hb := (hf.block _ (heap_lt hbx) (by simp)).trans hbx
   exact ⟨cell_of_block hb 0, cell_of_block hb 1, cell_of_block hb 2, cell_of_block hb 3, cell_of_block hb 4, cell_of_block hb 5⟩
  have HF10 := Lib.hid (HF9.out.trans hf10 (by simp))
  have HD10 := Lib.hid (HD9.out.of_fp hf10 (by simp) (by simp))
  have HL10 := Lib.hid (HL9.out.fp hf10 (by simp))
  clear hf10 hbx
  refine wp_loop_rounds 2 ?_
  rw [rounds_succ]
  go_wp2_with (fail)
  rw [← hW10]
  clear hW10 q0 q1 q2 q3 q4 q5
  refine wp_region_n (fun bb w' => Fp S W10 w' ∧ (bb 5 = false → Fp [] W10 w') ∧ (bb 5 = true → Post w')) (fun _ _ => True) (by kernel_rfl) (by kernel_rfl) ⟨(Fp.drew _).mono (by simp), fun _ => Fp.drew _, fun h => by cases h⟩ ?_
  iterate 3
   apply nx_plain (fun _ _ h => h) rfl rfl rfl
   ·intro b a w hC hA K hK
    have := hA.f 0
    try have := hA.e 0 87
    try have := hA.e 1 88
    simp only [Oper.wp, execOp]; go_simp
    exact hK _ hC trivial
  apply nx_plain (fun _ _ h => h) rfl rfl rfl
  ·intro b a w hC hA K hK
   have h89 := hA.e 2 89
   have hno := hC.2.1 (hA.post 5 (by kernel_rfl))
   have q7 : w.cell? ⟨G, 7, none⟩ = some (.pointer (some ⟨M, 0, none⟩)) := (H.out.eng.fp (HF10.out.trans hno (by simp)) HGO.out).cell 7
   obtain ⟨y0, y1, y2, y3, y4, y5⟩ := HXB.out _ hno
   clear hno
   simp only [Oper.wp, execOp]; go_simp
   exact hK _ hC trivial
  apply nx_plain (fun _ _ h => h) rfl rfl rfl
  ·intro b a w hC hA K hK
   have h14 := hA.f 14
   have hno := hC.2.1 (hA.post 5 (by kernel_rfl))
   have q7 : w.cell? ⟨G, 7, none⟩ = some (.pointer (some ⟨M, 0, none⟩)) := (H.out.eng.fp (HF10.out.trans hno (by simp)) HGO.out).cell 7
   obtain ⟨y0, y1, y2, y3, y4, y5⟩ := HXB.out _ hno
   clear hno
   simp only [Oper.wp, execOp]; go_simp
   exact hK _ hC trivial
  apply nx_turn (fun _ v => ∃ k, v = .int .i64 k) rfl rfl rfl
  ·intro b a w hC hA K hK
   have h90 := hA.e 3 90
   have h91 := hA.e 4 91
   have hno := hC.2.1 hA.self
   have HP := Lib.hid (HPUT.out w (HF10.out.trans hno (by simp)))
   simp only [Oper.wp, execOp]; go_simp
   refine HP.out.mono ?_
   rintro e w12 ⟨⟨k, rfl⟩, hp, hf⟩
   exact hK _ _ ⟨hC.1.trans hf (fun i hi => Or.inl hi), (fun h => by cases h), fun _ => hp⟩ trivial ⟨k, rfl⟩
  refine ⟨?_, ?_⟩
  ·refine ⟨fun _ _ _ _ h => h, ?_⟩
   iterate 5 refine stabN_val _ ?_
   exact trivial
  ·intro w11 bb hC hbb
   simp only [List.reverse_cons, List.reverse_nil, List.nil_append, List.cons_append]
   iterate 5 (refine all_val ?_)
   refine all_some ?_
   intro v5 u5
   refine all_nil ?_
   simp only [putAll, Act.put, List.setIfInBounds_toArray, List.set_cons_succ, List.set_cons_zero]
   have hp11 := hC.2.2 (hbb 5 (by decide))
   have hf11 := hC.1
   have hGS := HS.out G (by simp)
   have hfw : Fp ([db, bm, L2] ++ S) w w11 := (HF10.out.mono (S' := [db, bm, L2] ++ S) (by intro i hi; simp at hi ⊢; omega)).trans (hf11.mono (S' := [db, bm, L2] ++ S) (by intro i hi; simp [hi])) (fun i hi => Or.inl hi)
   have he11 := H.out.eng.fp hfw (by have := HGO.out; simp at this ⊢; exact ⟨this.1, this.2.1, this.2.2, hGS⟩)
   have q8' : w11.cell? ⟨G, 8, none⟩ = some (.int .u64 la) := he11.cell 8
   have f8 : w11.frozen? ⟨G, 8, none⟩ = false := frozen_of_block he11 8
   have hoff := HGO.out
   simp only [List.mem_cons, List.not_mem_nil, or_false, not_or] at hoff
   have hfs := Fp.setCell w11 ⟨G, 8, none⟩ (.int .u64 seq)
   have hd12 := (HD10.out.of_fp hf11 (HS.out db (by simp)) (HS.out bm (by simp))).of_fp hfs (by simpa using fun e => hoff.1 e.symm) (by simpa using fun e => hoff.2.1 e.symm)
   have hl12 := (HL10.out.fp hf11 (HS.out L2 (by simp))).fp hfs (by simpa using fun e => hoff.2.2 e.symm)
   have he12 : EngAt (w11.setCell ⟨G, 8, none⟩ (.int .u64 seq)) G fv nx fl db (ptrV L1) (ptrV L2) tm M seq false := (heap_setCell_same he11 _).trans rfl
   have hp12 := HCALM.out _ _ hp11 hfs
   have htn := H.out.tab_off
   simp only [List.mem_cons, List.not_mem_nil, or_false, not_or] at htn
   have ht12 : TabAt (w11.setCell ⟨G, 8, none⟩ (.int .u64 seq)) := (H.out.tab.fp hfw (by have := HS.out 0 (by simp); simp; exact ⟨htn.1, htn.2.1, htn.2.2.1, this⟩)).fp hfs (by simpa using htn.2.2.2)
   have hf12 : Fp ([db, bm, L2, G] ++ S) w (w11.setCell ⟨G, 8, none⟩ (.int .u64 seq)) := (hfw.mono (S' := [db, bm, L2, G] ++ S) (by intro i hi; simp at hi ⊢; rcases hi with h | h | h | h <;> simp [h])).trans hfs (by simp)
   have HALL := Lib.hid (And.intro (show WrAt (w11.setCell ⟨G, 8, none⟩ (.int .u64 seq)) G nx fl db bm tm M seq L1 L2 fv d2 lg2 from ⟨he12, hd12, hl12, ht12⟩) (And.intro hp12 hf12))
   clear hC hbb hp11 hf11 hfw he11 hfs hd12 hl12 he12 hp12 ht12 hf12
   go_wp2_with (fail)
   rw [rounds_succ]
   go_wp2_with (fail)
   go_ret
   exact ⟨rfl, HALL.out⟩
end
section
open Go.RowKit Go.Lib Go.Maps Go.MapKept Go.ChangeMaps
theorem many_none (w : World) (G nx fl b tm M la : Nat) (l1 l2 : Value) (off : Bool) (lv : Int) (h : EngAt w G (.slice none 0 0) nx fl b l1 l2 tm M la off) :
  Calls Tryz.prog 45 #[ptrV G, .int .i64 lv] w fun e w' => e = .returned (.int .i64 0) ∧ w' = w := by
 have q0 : w.cell? ⟨G, 0, none⟩ = some (.slice none 0 0) := h.cell 0
 clear h
 unfold ptrV
 go_enter Tryz.func45, Tryz.ntmps45
 go_wp2_with (fail)
 refine wp_loop_rounds 1 ?_
 rw [rounds_succ]
 go_wp2_with (fail)
 go_ret
 exact ⟨rfl, rfl⟩
theorem compact_none (w : World) (G nx fl b tm M la : Nat) (l1 l2 : Value) (lv : Int) (fl0 : Int) (h : EngAt w G (.slice none 0 0) nx fl b l1 l2 tm M la false) :
  Calls Tryz.prog 11 #[ptrV G, .int .i64 lv, .int .u64 fl0] w fun e w' => e = .returned (.int .i64 (if lv = 0 ∨ lv = 1 then 0 else 1)) ∧ w' = w := by
 have q9 : w.cell? ⟨G, 9, none⟩ = some (.bool false) := h.cell 9
 have HM := Lib.hid (many_none w G nx fl b tm M la l1 l2 false lv h)
 clear h
 unfold ptrV at *
 by_cases h0 : lv = 0
 ·subst h0
  go_enter Tryz.func11, Tryz.ntmps11
  go_wp2_with (fail)
  refine HM.out.mono ?_
  rintro e w2 ⟨rfl, rfl⟩
  go_wp2_with (fail)
  go_ret
  exact ⟨rfl, rfl⟩
 by_cases h1 : lv = 1
 ·subst h1
  go_enter Tryz.func11, Tryz.ntmps11
  go_wp2_with (fail)
  refine HM.out.mono ?_
  rintro e w2 ⟨rfl, rfl⟩
  go_wp2_with (fail)
  go_ret
  exact ⟨rfl, rfl⟩
 have z0 : (lv != 0) = true := by simpa using h0
 have z1 : (lv != 1) = true := by simpa using h1
 rw [if_neg (by omega)]
 clear h0 h1
 go_enter Tryz.func11, Tryz.ntmps11
 go_wp2_with (fail)
 go_ret
 exact ⟨rfl, rfl⟩
theorem stamp_bad (w : World) (s : ByteArray) (q : Int) (hs : s.size ≤ 100000000) (hm : MaxAt w) (ht : TabAt w) (hbad : (openP s).2 ≠ 0) :
  Calls Tryz.prog 41 #[.string s, .int .u64 q] w fun e w' => e = .returned (.tuple #[.string ⟨#[]⟩, .int .i64 ((openP s).2 : Nat)]) ∧ Fp [] w w' := by
 have HO := Lib.hid (topen_any w s hs hm ht)
 obtain ⟨x, hx⟩ : ∃ x, (openP s).2 = x := ⟨_, rfl⟩
 rw [hx] at HO hbad ⊢
 have zx : ((x : Int) != 0) = true := by simpa using hbad
 clear hbad hx hm ht
 go_enter Tryz.func41, Tryz.ntmps41
 go_wp2_with (fail)
 refine HO.out.mono ?_
 rintro e w2 ⟨v, rfl, -, hf⟩
 have HF := Lib.hid hf
 clear hf HO
 go_wp2_with (fail)
 go_ret2
 exact ⟨rfl, HF.out⟩
theorem adopt_none (w : World) (G nx fl b tm M la : Nat) (fv l1 l2 : Value) (a : Option Addr) (cap : Nat) (q : Int) (h : EngAt w G fv nx fl b l1 l2 tm M la false) :
  Calls Tryz.prog 10 #[ptrV G, .slice a 0 cap, .int .u64 q] w fun e w' => e = .returned (.int .i64 1) ∧ w' = w := by
 have q9 : w.cell? ⟨G, 9, none⟩ = some (.bool false) := h.cell 9
 clear h
 unfold ptrV
 go_enter Tryz.func10, Tryz.ntmps10
 go_wp2_with (fail)
 go_ret
 exact ⟨rfl, rfl⟩
theorem adopt_bad (w : World) (G nx fl b tm M la g seq : Nat) (fv l1 l2 : Value) (s : ByteArray) (h : EngAt w G fv nx fl b l1 l2 tm M la false) (hg : w.heap[g]? = some (.cells #[.string s] 9 (0, 0))) (hs : s.size ≤ 100000000) (hm : MaxAt w) (ht : TabAt w) (hbad : (openP s).2 ≠ 0) :
  Calls Tryz.prog 10 #[ptrV G, .slice (some ⟨g, 0, none⟩) 1 1, .int .u64 seq] w fun e w' => e = .returned (.int .i64 (if seq = 0 then 1 else if seq ≤ la then 4 else ((openP s).2 : Nat))) ∧ Fp [] w w' := by
 have q9 : w.cell? ⟨G, 9, none⟩ = some (.bool false) := h.cell 9
 have q8 : w.cell? ⟨G, 8, none⟩ = some (.int .u64 la) := h.cell 8
 have c0 : w.cell? ⟨g, 0, none⟩ = some (.string s) := cell_of_block hg 0
 have HO := Lib.hid (stamp_bad w s seq hs hm ht hbad)
 obtain ⟨x, hx⟩ : ∃ x, (openP s).2 = x := ⟨_, rfl⟩
 rw [hx] at HO hbad ⊢
 have zx : ((x : Int) != 0) = true := by simpa using hbad
 clear h hbad hx hm ht hg
 unfold ptrV at *
 by_cases h0 : seq = 0
 ·subst h0
  go_enter Tryz.func10, Tryz.ntmps10
  go_wp2_with (fail)
  go_ret
  exact ⟨rfl, Fp.refl _ _⟩
 have zs : ((seq : Int) == 0) = false := by simpa using h0
 rw [if_neg h0]
 by_cases h1 : seq ≤ la
 ·have zl : ((seq : Int) ≤ (la : Int)) := by omega
  rw [if_pos h1]
  clear h0 h1
  go_enter Tryz.func10, Tryz.ntmps10
  go_wp2_with (fail)
  go_ret
  exact ⟨rfl, Fp.refl _ _⟩
 ·have zl : ¬ ((seq : Int) ≤ (la : Int)) := by omega
  rw [if_neg h1]
  clear h0 h1
  go_enter Tryz.func10, Tryz.ntmps10
  go_wp2_with (fail)
  refine wp_loop_rounds 1 ?_
  rw [rounds_succ]
  go_wp2_with (fail)
  refine HO.out.mono ?_
  rintro e w2 ⟨rfl, hf⟩
  have HF := Lib.hid hf
  clear hf
  go_wp2_with (fail)
  go_ret
  exact ⟨rfl, HF.out⟩
end
end Go.Proofs.YtkjmgbifoaoefaaGreatDoor
