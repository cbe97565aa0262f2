/-
 A region that draws its order; the class sees which operations are done, and what they have told (two new blocks of one type can be told apart). Over any program. Two new blocks of one type, made and filled in whatever order (for XRegionV). 'x.f = append(x.f, e)': the class of worlds on the way (for XRegionV), for elements of any type, x.f a place of a block known whole.
-/
import Derived.Test.YtkagolpnaicdoaaGreatDoorSRegionG
import Derived.Test.YtkagolpnaicdoaaGreatDoorSWalD
set_option maxRecDepth 100000
set_option maxHeartbeats 8000000
namespace Go.Proofs.YtkagolpnaicdoaaGreatDoor
section
open Go.RowKit
section
variable {P : Program} {l : List Oper}
def valsOf (l : List Oper) (a : Act) : Nat → Value := fun j => match l[j]? with
 |some o => valOf o a
 |none => undef
def updV (vs : Nat → Value) (i : Nat) (v : Value) : Nat → Value := fun k => if k = i then v else vs k
def told (o : Oper) (v : Value) : Value := match o.dst with
 |some _ => v
 |none => undef
theorem told_some {o : Oper} {v : Value} (h : o.dst.isSome = true) : told o v = v := by
 unfold told
 cases hd : o.dst with
 |none => rw [hd] at h; cases h
 |some d => rfl
theorem valsOf_some {a : Act} {k : Nat} {o : Oper} (h : l[k]? = some o) : valsOf l a k = valOf o a := by unfold valsOf; rw [h]
theorem valsOf_none {a : Act} {k : Nat} (h : l[k]? = none) : valsOf l a k = undef := by unfold valsOf; rw [h]
theorem vals_put {a : Act} {n i : Nat} {o : Oper} {v : Value} (hform : relForm l n = true) (hn : a.tmps.size = n) (ho : l[i]? = some o) : valsOf l (a.put o.dst v) = updV (valsOf l a) i (told o v) := by
 funext k
 by_cases e : k = i
 ·subst e
  rw [valsOf_some ho]
  unfold updV told
  rw [if_pos rfl]
  unfold valOf
  cases hd : o.dst with
  |none => rfl
  |some d =>
   simp only
   rw [put_getD_same (by rw [hn]; exact (relForm_dst hform ho hd).1)]
 ·unfold updV
  rw [if_neg e]
  cases hk : l[k]? with
  |none => rw [valsOf_none hk, valsOf_none hk]
  |some ok =>
   rw [valsOf_some hk, valsOf_some hk]
   unfold valOf
   cases hdk : ok.dst with
   |none => rfl
   |some d =>
    simp only
    refine put_getD_other fun hd => ?_
    exact (relForm_dst hform ho hd).2 k ok hk e hdk
theorem vals_map (a : Act) : (fun j => (l.map fun o => valOf o a).getD j undef) = valsOf l a := by
 funext j
 unfold valsOf
 rw [List.getD_eq_getElem?_getD, List.getElem?_map]
 cases l[j]? <;> rfl
def RelOpV (P : Program) (l : List Oper) (Ss : List (World → Value → Prop)) (C : (Nat → Bool) → (Nat → Value) → World → Prop) (R : World → World → Prop) (a0 : Act) (i : Nat) : Prop :=
 ∀ o S, l[i]? = some o → Ss[i]? = some S → ∀ (b : Nat → Bool) (a : Act) (w : World), C b (valsOf l a) w → b i = false → (∀ e ∈ o.after, Region.binds .any e = true → b e.on = true) →
  (∀ j oj, l[j]? = some oj → b j = true → ∀ e ∈ oj.after, Region.binds .any e = true → b e.on = true) → a.tmps.size = a0.tmps.size →
  (∀ t, (∀ j oj, l[j]? = some oj → oj.dst = some t → b j = false) → a.tmps.getD t undef = a0.tmps.getD t undef) →
  (∀ e ∈ o.after, Region.binds .any e = true → ∀ oe Se, l[e.on]? = some oe → Ss[e.on]? = some Se → Se w (valOf oe a)) →
  if Region.wanted o (yielded l.toArray a.tmps) = true then o.wp P a w (fun a2 w2 => ∃ v, a2 = a.put o.dst v ∧ C (upd b i) (updV (valsOf l a) i (told o v)) w2 ∧ R w w2 ∧ S w2 (told o v)) (fun _ _ _ => False)
  else S w undef ∧ C (upd b i) (updV (valsOf l a) i undef) w
structure RelInvV (l : List Oper) (Ss : List (World → Value → Prop)) (C : (Nat → Bool) → (Nat → Value) → World → Prop) (a0 : Act) (listed : Array Bool) (a : Act) (w : World) : Prop where
 size : listed.size = l.length
 defers : a.defers = a0.defers
 tmps : a.tmps.size = a0.tmps.size
 done : ∀ j o S, l[j]? = some o → Ss[j]? = some S → listed.getD j false = true → S w (valOf o a)
 same : ∀ t, (∀ j oj, l[j]? = some oj → oj.dst = some t → bitsOf listed j = false) → a.tmps.getD t undef = a0.tmps.getD t undef
 closed : ∀ j oj, l[j]? = some oj → bitsOf listed j = true → ∀ e ∈ oj.after, Region.binds .any e = true → bitsOf listed e.on = true
 cls : C (bitsOf listed) (valsOf l a) w
theorem rel_anyV {Ss : List (World → Value → Prop)} {C : (Nat → Bool) → (Nat → Value) → World → Prop} {R : World → World → Prop} {a0 : Act} {Qn : Act → World → Prop} (hl : Ss.length = l.length) (hform : relForm l a0.tmps.size = true)
  (stab : ∀ S ∈ Ss, ∀ w w' v, R w w' → S w v → S w' v) (rel : ∀ i, i < l.length → RelOpV P l Ss C R a0 i)
  (fin : ∀ a w listed, RelInvV l Ss C a0 listed a w → (∀ j, j < l.length → listed.getD j false = true) → Qn a w) :
  ∀ (fuel : Nat) (listed : Array Bool) (a : Act) (w : World), unlisted listed = fuel → RelInvV l Ss C a0 listed a w → wpAnyG P l Qn fuel listed a w := by
 intro fuel
 induction fuel with
 |zero =>
  intro listed a w hu inv
  have hall := unlisted_zero hu
  rw [inv.size] at hall
  refine ⟨?_, fin a w listed inv hall⟩
  apply List.eq_nil_iff_forall_not_mem.2
  intro j hj
  obtain ⟨h1, o, ho, _⟩ := mem_ready.1 hj
  have hlt : j < l.length := by simpa using (Array.getElem?_eq_some_iff.1 ho).1
  have h2 := hall j hlt
  have hls : j < listed.size := by rw [inv.size]; exact hlt
  simp [hls] at h1 h2
  rw [h1] at h2
  cases h2
 |succ fuel ih =>
  intro listed a w hu inv
  refine ⟨fun hr => ?_, fun i hi => ?_⟩
  ·-- something is ready as long as not all is listed
   exfalso
   have hex : ∃ j, j < l.length ∧ listed.getD j false = false := by
    by_cases hex : ∃ j, j < l.length ∧ listed.getD j false = false
    ·exact hex
    ·exfalso
     have hall : ∀ j, j < l.length → listed.getD j false = true := fun j hj => by
      cases h : listed.getD j false
      ·exact absurd ⟨j, hj, h⟩ hex
      ·rfl
     have : unlisted listed = 0 := by
      unfold unlisted
      rw [List.length_eq_zero_iff, List.filter_eq_nil_iff]
      intro b hb
      obtain ⟨j, hj, rfl⟩ := List.getElem_of_mem hb
      have hj' : j < listed.size := by simpa using hj
      have := hall j (by rw [← inv.size]; exact hj')
      simp [hj'] at this ⊢
      exact this
     omega
   obtain ⟨j, hj, hleast⟩ : ∃ j, (j < l.length ∧ listed.getD j false = false) ∧ ∀ k, k < j → ¬ (k < l.length ∧ listed.getD k false = false) := by
    obtain ⟨j0, h0⟩ := hex
    induction j0 using Nat.strongRecOn with
    |_ n ih2 =>
     by_cases hk : ∃ k, k < n ∧ (k < l.length ∧ listed.getD k false = false)
     ·obtain ⟨k, hk1, hk2⟩ := hk
      exact ih2 k hk1 hk2
     ·exact ⟨n, h0, fun k hk1 hk2 => hk ⟨k, hk1, hk2⟩⟩
   have hjs : j < listed.size := by rw [inv.size]; exact hj.1
   have : j ∈ Region.ready .any l.toArray listed := by
    refine mem_ready.2 ⟨by have := hj.2; simp [hjs] at this ⊢; exact this, l[j], by simp [hj.1], fun e he hb => ?_⟩
    have hlt := relForm_edge hform (List.getElem?_eq_getElem hj.1) e he hb
    cases h : listed.getD e.on false
    ·exact absurd ⟨by omega, h⟩ (hleast e.on hlt)
    ·rfl
   rw [hr] at this
   cases this
  ·obtain ⟨h1, o, ho, hpre⟩ := mem_ready.1 hi
   have ho' : l[i]? = some o := by simpa using ho
   have hlt : i < l.length := (List.getElem?_eq_some_iff.1 ho').1
   have hls : i < listed.size := by rw [inv.size]; exact hlt
   obtain ⟨S, hS⟩ : ∃ S, Ss[i]? = some S := ⟨Ss[i]'(by omega), List.getElem?_eq_getElem (by omega)⟩
   have h1' : bitsOf listed i = false := by unfold bitsOf; simp [hls] at h1 ⊢; exact h1
   have hr := rel i hlt o S ho' hS (bitsOf listed) a w inv.cls h1' (fun e he hb => hpre e he hb) inv.closed inv.tmps inv.same (fun e he hb oe Se hoe hSe => inv.done e.on oe Se hoe hSe (hpre e he hb))
   have hbit : bitsOf (listed.setIfInBounds i true) = upd (bitsOf listed) i := by
    funext k
    unfold bitsOf upd
    by_cases e : k = i
    ·subst e; rw [if_pos rfl]; simp [hls]
    ·rw [if_neg e, getD_set_ne false (Ne.symm e)]
   have hnext : ∀ v w2, C (upd (bitsOf listed) i) (updV (valsOf l a) i (told o v)) w2 → (∀ S' ∈ Ss, ∀ v, S' w v → S' w2 v) → S w2 (told o v) → wpAnyG P l Qn fuel (listed.setIfInBounds i true) (a.put o.dst v) w2 := by
    intro v w2 hC hst hv
    refine ih _ _ _ (by have := unlisted_set hls h1; omega) ⟨by simp [inv.size], by rw [put_defers]; exact inv.defers, by rw [put_size]; exact inv.tmps, ?_, ?_, ?_, by rw [hbit, vals_put hform inv.tmps ho']; exact hC⟩
    ·intro j oj Sj hj hSj hlj
     by_cases hij : i = j
     ·subst hij
      rw [ho'] at hj; cases hj
      rw [hS] at hSj; cases hSj
      unfold told at hv
      unfold valOf
      cases hd : o.dst with
      |none => rw [hd] at hv; exact hv
      |some d =>
       rw [hd] at hv
       simp only
       rw [put_getD_same (by rw [inv.tmps]; exact (relForm_dst hform ho' hd).1)]
       exact hv
     ·rw [getD_set_ne false hij] at hlj
      have h2 := hst Sj (List.mem_of_getElem? hSj) _ (inv.done j oj Sj hj hSj hlj)
      have : valOf oj (a.put o.dst v) = valOf oj a := by
       unfold valOf
       cases hdj : oj.dst with
       |none => rfl
       |some d =>
        simp only
        refine put_getD_other fun hd => ?_
        exact (relForm_dst hform ho' hd).2 j oj hj (Ne.symm hij) hdj
      rw [this]
      exact h2
    ·intro t ht
     have hne : o.dst ≠ some t := fun hd => by
      have := ht i o ho' hd
      rw [hbit] at this
      unfold upd at this
      rw [if_pos rfl] at this
      cases this
     rw [put_getD_other hne]
     refine inv.same t fun j oj hj hd => ?_
     have := ht j oj hj hd
     rw [hbit] at this
     unfold upd at this
     by_cases e : j = i
     ·rw [if_pos e] at this; cases this
     ·rw [if_neg e] at this; exact this
    ·intro j oj hj hlj e he hb
     rw [hbit] at hlj ⊢
     have up : ∀ k, bitsOf listed k = true → upd (bitsOf listed) i k = true := fun k hk => by
      unfold upd
      by_cases e : k = i
      ·rw [if_pos e]
      ·rw [if_neg e]; exact hk
     by_cases ej : j = i
     ·subst ej
      rw [ho'] at hj; cases hj
      exact up _ (hpre e he hb)
     ·unfold upd at hlj
      rw [if_neg ej] at hlj
      exact up _ (inv.closed j oj hj hlj e he hb)
   refine ⟨o, ho', ?_⟩
   split
   ·rename_i hw
    rw [if_pos hw] at hr
    refine (wp_mono_both (fun a2 w2 h => ?_) (fun _ _ _ h => h.elim) hr)
    obtain ⟨v, rfl, hC, hR, hv⟩ := h
    exact hnext v w2 hC (fun S' hS' v hv => stab S' hS' w w2 v hR hv) hv
   ·rename_i hw
    rw [if_neg hw] at hr
    have htu : told o undef = undef := by unfold told; cases o.dst <;> rfl
    refine hnext undef w (by rw [htu]; exact hr.2) (fun _ _ _ h => h) ?_
    rw [htu]; exact hr.1
theorem region_relV {Qn : Act → World → Prop} {a0 : Act} {w0 : World} (Ss : List (World → Value → Prop)) (C : (Nat → Bool) → (Nat → Value) → World → Prop) (R : World → World → Prop)
  (hl : Ss.length = l.length) (hform : relForm l a0.tmps.size = true) (hC : ∀ vs, C (fun _ => false) vs { w0 with drawn := w0.drawn + 1 })
  (stab : ∀ S ∈ Ss, ∀ w w' v, R w w' → S w v → S w' v) (rel : ∀ i, i < l.length → RelOpV P l Ss C R a0 i)
  (fin : ∀ vs w b, C b (fun j => vs.getD j undef) w → (∀ j, j < l.length → b j = true) → relAll w Ss vs → Qn (putAll l vs a0) w) : wpAnyG P l Qn l.toArray.size (Array.replicate l.toArray.size false) a0 { w0 with drawn := w0.drawn + 1 } := by
 refine (rel_anyV hl hform stab rel ?_ _ _ _ _ (by simp [unlisted]) ⟨by simp, rfl, rfl, ?_, fun _ _ => rfl, ?_, by rw [bits_none]; exact hC _⟩)
 ·intro a w listed inv hall
  have hvs := fin (l.map (fun o => valOf o a)) w (bitsOf listed) (by rw [vals_map]; exact inv.cls) hall (relAll_of (by simp [hl]) (fun i S v h1 h2 => by
   rw [List.getElem?_map] at h2
   cases ho : l[i]? with
   |none => rw [ho] at h2; cases h2
   |some o =>
    rw [ho] at h2
    simp only [Option.map_some, Option.some.injEq] at h2
    rw [← h2]
    exact inv.done i o S ho h1 (hall i (List.getElem?_eq_some_iff.1 ho).1)))
  have : putAll l (l.map (fun o => valOf o a)) a0 = a := by
   have hdef : (putAll l (l.map (fun o => valOf o a)) a0).defers = a.defers := by rw [putAll_defers, inv.defers]
   have htm : (putAll l (l.map (fun o => valOf o a)) a0).tmps = a.tmps := by
    have hsz : (putAll l (l.map (fun o => valOf o a)) a0).tmps.size = a.tmps.size := by rw [putAll_size, inv.tmps]
    refine Array.ext hsz fun t h1 h2 => ?_
    have hg : (putAll l (l.map (fun o => valOf o a)) a0).tmps.getD t undef = a.tmps.getD t undef := by
     by_cases hex : ∃ o ∈ l, o.dst = some t
     ·obtain ⟨o, ho, hd⟩ := hex
      obtain ⟨i, hi, hio⟩ := List.getElem_of_mem ho
      have hio' : l[i]? = some o := by rw [List.getElem?_eq_getElem hi, hio]
      rw [putAll_at l _ a0 (by simp) (fun i j oi oj d hi hj h1 h2 => by
       by_cases hij : i = j
       ·exact hij
       ·exact absurd h2 ((relForm_dst hform hi h1).2 j oj hj (Ne.symm hij))) (fun o' ho' d hd' => by
       obtain ⟨k, hk, hko⟩ := List.getElem_of_mem ho'
       exact (relForm_dst hform (by rw [List.getElem?_eq_getElem hk, hko]) hd').1) i o (valOf o a) t hio' (by rw [List.getElem?_map, hio']; rfl) hd]
      unfold valOf
      rw [hd]
     ·have hex' : ∀ o ∈ l, o.dst ≠ some t := fun o ho hd => hex ⟨o, ho, hd⟩
      rw [putAll_other l _ a0 t hex', inv.same t (fun j oj hj hd => absurd hd (hex' oj (List.mem_of_getElem? hj)))]
    simpa [h1, h2] using hg
   cases a
   cases h : putAll l (l.map (fun o => valOf o _)) a0
   rw [h] at hdef htm
   simp only at hdef htm
   rw [hdef, htm]
  rw [this] at hvs
  exact hvs
 ·intro j o S _ _ h
  exfalso
  rcases Nat.lt_or_ge j l.length with h' | h'
  ·simp [h'] at h
  ·simp [h'] at h
 ·intro j o _ h
  exfalso
  unfold bitsOf at h
  rcases Nat.lt_or_ge j l.length with h' | h'
  ·simp [h'] at h
  ·simp [h'] at h
def freeV (l : List Oper) (i t : Nat) : Bool := (List.range l.length).all fun j => match l[j]? with
 |some o => o.dst != some t || (j == i || o.after.any fun e => Region.binds .any e && e.on == i)
 |none => true
def preV (l : List Oper) (i j : Nat) : Bool := match l[i]? with
 |some o => o.after.any fun e => Region.binds .any e && e.on == j
 |none => false
structure RelAtV (l : List Oper) (Ss : List (World → Value → Prop)) (a0 : Act) (i : Nat) (b : Nat → Bool) (a : Act) (w : World) : Prop where
 size : a.tmps.size = a0.tmps.size
 dep : ∀ (j t : Nat) (S : World → Value → Prop), depOK l i j t = true → Ss[i - 1 - j]? = some S → S w (a.tmps[t]?.getD undef)
 free : ∀ (t : Nat) (v : Value), freeV l i t = true → a0.tmps.getD t undef = v → a.tmps[t]?.getD undef = v
 pre : ∀ j, preV l i j = true → b j = true
 post : ∀ j, preV l j i = true → b j = false
 self : b i = false
 val : ∀ (j t : Nat), depOK l i j t = true → a.tmps[t]?.getD undef = valsOf l a j
theorem relAtV_of {Ss : List (World → Value → Prop)} {a0 : Act} {i : Nat} {b : Nat → Bool} {a : Act} {w : World} {o : Oper} (ho : l[i]? = some o) (hs : b i = false) (hp : ∀ e ∈ o.after, Region.binds .any e = true → b e.on = true)
  (hc : ∀ j oj, l[j]? = some oj → b j = true → ∀ e ∈ oj.after, Region.binds .any e = true → b e.on = true) (h1 : a.tmps.size = a0.tmps.size)
  (h2 : ∀ t, (∀ j oj, l[j]? = some oj → oj.dst = some t → b j = false) → a.tmps.getD t undef = a0.tmps.getD t undef)
  (h3 : ∀ e ∈ o.after, Region.binds .any e = true → ∀ oe Se, l[e.on]? = some oe → Ss[i - 1 - e.on]? = some Se → Se w (valOf oe a)) : RelAtV l Ss a0 i b a w := by
 have later : ∀ j oj, l[j]? = some oj → (oj.after.any fun e => Region.binds .any e && e.on == i) = true → b j = false := fun j oj hj ha => by
  obtain ⟨e, he, hb⟩ := Array.any_eq_true'.1 ha
  simp only [Bool.and_eq_true, beq_iff_eq] at hb
  cases hbj : b j with
  |false => rfl
  |true =>
   have := hc j oj hj hbj e he hb.1
   rw [hb.2, hs] at this
   cases this
 refine ⟨h1, fun j t S hd hS => ?_, fun t v hf hv => ?_, fun j hj => ?_, fun j hj => ?_, hs, fun j t hd => ?_⟩
 ·unfold depOK at hd
  rw [ho] at hd
  cases hj : l[j]? with
  |none => rw [hj] at hd; cases hd
  |some oj =>
   rw [hj] at hd
   simp only [Bool.and_eq_true, beq_iff_eq] at hd
   obtain ⟨e, he, hb⟩ := Array.any_eq_true'.1 hd.1
   simp only [Bool.and_eq_true, beq_iff_eq] at hb
   obtain ⟨hb1, rfl⟩ := hb
   have := h3 e he hb1 oj S hj hS
   unfold valOf at this
   rw [hd.2] at this
   simpa using this
 ·have hw : ∀ j oj, l[j]? = some oj → oj.dst = some t → b j = false := fun j oj hj hd => by
   have hlt : j < l.length := (List.getElem?_eq_some_iff.1 hj).1
   have := List.all_eq_true.1 hf j (List.mem_range.2 hlt)
   rw [hj] at this
   simp only [hd, bne_self_eq_false, Bool.false_or, Bool.or_eq_true, beq_iff_eq] at this
   rcases this with rfl | h
   ·exact hs
   ·exact later j oj hj h
  have := h2 t hw
  rw [hv] at this
  simpa using this
 ·unfold preV at hj
  rw [ho] at hj
  obtain ⟨e, he, hb⟩ := Array.any_eq_true'.1 hj
  simp only [Bool.and_eq_true, beq_iff_eq] at hb
  rw [← hb.2]
  exact hp e he hb.1
 ·unfold preV at hj
  cases hlj : l[j]? with
  |none => rw [hlj] at hj; cases hj
  |some oj => rw [hlj] at hj; exact later j oj hlj hj
 ·unfold depOK at hd
  rw [ho] at hd
  cases hj : l[j]? with
  |none => rw [hj] at hd; cases hd
  |some oj =>
   rw [hj] at hd
   simp only [Bool.and_eq_true, beq_iff_eq] at hd
   unfold valsOf
   rw [hj]
   simp only
   unfold valOf
   rw [hd.2]
   simp
def StepV (P : Program) (l : List Oper) (done : List (World → Value → Prop)) (S : World → Value → Prop) (C : (Nat → Bool) → (Nat → Value) → World → Prop) (R : World → World → Prop) (a0 : Act) (i : Nat) : Prop :=
 ∀ (b : Nat → Bool), ∀ o, l[i]? = some o → ∀ (a : Act) (w : World), C b (valsOf l a) w → RelAtV l done a0 i b a w →
  if Region.wanted o (yielded l.toArray a.tmps) = true then o.wp P a w (fun a2 w2 => ∃ v, a2 = a.put o.dst v ∧ C (upd b i) (updV (valsOf l a) i (told o v)) w2 ∧ R w w2 ∧ S w2 (told o v)) (fun _ _ _ => False)
  else S w undef ∧ C (upd b i) (updV (valsOf l a) i undef) w
def stabV (R : World → World → Prop) : List (World → Value → Prop) → Prop
 |[] => True
 |S :: Ss => (∀ w w' v, R w w' → S w v → S w' v) ∧ stabV R Ss
theorem stabV_of {R : World → World → Prop} : ∀ {Ss : List (World → Value → Prop)}, stabV R Ss → ∀ S ∈ Ss, ∀ w w' v, R w w' → S w v → S w' v
 |[], _, S, hS => by cases hS
 |T :: Ss, h, S, hS => by
  rcases List.mem_cons.1 hS with rfl | hS
  ·exact h.1
  ·exact stabV_of h.2 S hS
theorem stabV_val (x : Value) {R : World → World → Prop} {Ss : List (World → Value → Prop)} (h : stabV R Ss) : stabV R (eqV x :: Ss) := ⟨fun _ _ _ _ h => h, h⟩
def relExV (P : Program) (l : List Oper) (C : (Nat → Bool) → (Nat → Value) → World → Prop) (R : World → World → Prop) (a0 : Act) (F : Act → World → Prop) : Nat → List (World → Value → Prop) → Nat → Prop
 |_, done, 0 => stabV R done ∧ ∀ w b, (∀ j, j < l.length → b j = true) → ∀ vs, relAll w done.reverse vs → C b (fun j => vs.getD j undef) w → F (putAll l vs a0) w
 |i, done, n + 1 => ∃ S, StepV P l done S C R a0 i ∧ relExV P l C R a0 F (i + 1) (S :: done) n
theorem relExV_out {C : (Nat → Bool) → (Nat → Value) → World → Prop} {R : World → World → Prop} {a0 : Act} {F : Act → World → Prop} (hform : relForm l a0.tmps.size = true) : ∀ (n i : Nat) (done : List (World → Value → Prop)), relExV P l C R a0 F i done n → done.length = i → i + n = l.length →
  ∃ Ss, (∃ r, Ss = done.reverse ++ r) ∧ Ss.length = l.length ∧ (∀ S ∈ Ss, ∀ w w' v, R w w' → S w v → S w' v) ∧ (∀ vs w b, C b (fun j => vs.getD j undef) w → (∀ j, j < l.length → b j = true) → relAll w Ss vs → F (putAll l vs a0) w) ∧ ∀ k, i ≤ k → k < l.length → RelOpV P l Ss C R a0 k
 |0, i, done, h, h1, h2 => ⟨done.reverse, ⟨[], by simp⟩, by simp; omega, fun S hS => stabV_of h.1 S (by simpa using hS), fun vs w b hC hb hr => h.2 w b hb vs hr hC, fun k h3 h4 => by omega⟩
 |n + 1, i, done, h, h1, h2 => by
  obtain ⟨S, hop, hrest⟩ := h
  obtain ⟨Ss, ⟨r, hr⟩, g1, g2, g3, g4⟩ := relExV_out hform n (i + 1) (S :: done) hrest (by simp [h1]) (by omega)
  rw [List.reverse_cons] at hr
  refine ⟨Ss, ⟨[S] ++ r, by rw [hr, List.append_assoc]⟩, g1, g2, g3, fun k h3 h4 => ?_⟩
  by_cases e : k = i
  ·subst e
   intro o S' ho hS' b a w hC m1 m2 m3 k1 k2 k3
   have hS : Ss[k]? = some S := by rw [hr, List.append_assoc, List.getElem?_append_right (by simp; omega)]; simp [h1]
   rw [hS] at hS'; cases hS'
   refine hop b o ho a w hC (relAtV_of ho m1 m2 m3 k1 k2 fun e he hb oe Se hoe hSe => k3 e he hb oe Se hoe ?_)
   have hlt := relForm_edge hform ho e he hb
   rw [hr, List.append_assoc, List.getElem?_append_left (by simp; omega), List.getElem?_reverse (by omega), h1]
   exact hSe
  ·exact g4 k (by omega) h4
theorem wp_region_v {id : Nat} {Q : Exit → Act → World → Prop} {a0 : Act} {w0 : World} (C : (Nat → Bool) → (Nat → Value) → World → Prop) (R : World → World → Prop)
  (hm : P.follows .mixedOrders = true) (hform : relForm l a0.tmps.size = true) (hC : ∀ vs, C (fun _ => false) vs { w0 with drawn := w0.drawn + 1 })
  (h : relExV P l C R a0 (fun a w => Q .normal a w) 0 [] l.length) : (Code.region id l.toArray true).wp P Q a0 w0 := by
 obtain ⟨Ss, _, g1, g2, g3, g4⟩ := relExV_out hform l.length 0 [] h rfl (by omega)
 exact wp_region_G hm (region_relV Ss C R g1 hform hC g2 (fun i hi => g4 i (Nat.zero_le _) hi) g3)
theorem wpIn_region_v {id lo n : Nat} {Q : Exit → Act → World → Prop} {a0 : Act} {w0 : World} (C : (Nat → Bool) → (Nat → Value) → World → Prop) (R : World → World → Prop)
  (hm : P.follows .mixedOrders = true) (hd : noDefer l = true) (hform : relForm l a0.tmps.size = true) (hC : ∀ vs, C (fun _ => false) vs { w0 with drawn := w0.drawn + 1 })
  (h : relExV P l C R a0 (fun a w => Q .normal a w) 0 [] l.length) : (Code.region id l.toArray true).wpIn (Fence.wide.inRound lo) n P Q a0 w0 := by
 obtain ⟨Ss, _, g1, g2, g3, g4⟩ := relExV_out hform l.length 0 [] h rfl (by omega)
 exact wpIn_region_G hm hd (region_relV Ss C R g1 hform hC g2 (fun i hi => g4 i (Nat.zero_le _) hi) g3)
variable {C : (Nat → Bool) → (Nat → Value) → World → Prop} {R : World → World → Prop} {a0 : Act} {F : Act → World → Prop} {i n : Nat} {done : List (World → Value → Prop)}
theorem vx_plain {o : Oper} {x : Value} (hc : ∀ b vs w, C b vs w → b i = false → C (upd b i) (updV vs i x) w) (ho : l[i]? = some o) (hg : o.guard = none) (hd : o.dst.isSome = true)
  (h : ∀ b a w, C b (valsOf l a) w → RelAtV l done a0 i b a w → ∀ K : Act → World → Prop, (∀ w2, C b (valsOf l a) w2 → R w w2 → K (a.put o.dst x) w2) → o.wp P a w K (fun _ _ _ => False))
  (hn : relExV P l C R a0 F (i + 1) (eqV x :: done) n) : relExV P l C R a0 F i done (n + 1) := by
 refine ⟨eqV x, ?_, hn⟩
 intro b o' ho' a w hC hA
 rw [ho] at ho'; cases ho'
 have hw : Region.wanted o (yielded l.toArray a.tmps) = true := by unfold Region.wanted; rw [hg]
 rw [if_pos hw]
 exact h b a w hC hA _ fun w2 c r => ⟨x, rfl, by rw [told_some hd]; exact hc _ _ _ c hA.self, r, by rw [told_some hd]; rfl⟩
theorem vx_turn {o : Oper} (S : World → Value → Prop) (ho : l[i]? = some o) (hg : o.guard = none) (hd : o.dst.isSome = true)
  (h : ∀ b a w, C b (valsOf l a) w → RelAtV l done a0 i b a w → ∀ K : Act → World → Prop, (∀ v w2, C (upd b i) (updV (valsOf l a) i v) w2 → R w w2 → S w2 v → K (a.put o.dst v) w2) → o.wp P a w K (fun _ _ _ => False))
  (hn : relExV P l C R a0 F (i + 1) (S :: done) n) : relExV P l C R a0 F i done (n + 1) := by
 refine ⟨S, ?_, hn⟩
 intro b o' ho' a w hC hA
 rw [ho] at ho'; cases ho'
 have hw : Region.wanted o (yielded l.toArray a.tmps) = true := by unfold Region.wanted; rw [hg]
 rw [if_pos hw]
 exact h b a w hC hA _ fun v w2 c r s => ⟨v, rfl, by rw [told_some hd]; exact c, r, by rw [told_some hd]; exact s⟩
theorem vx_effect {o : Oper} (S : World → Prop) (ho : l[i]? = some o) (hg : o.guard = none) (hd : o.dst = none)
  (h : ∀ b a w, C b (valsOf l a) w → RelAtV l done a0 i b a w → ∀ K : Act → World → Prop, (∀ v w2, C (upd b i) (updV (valsOf l a) i undef) w2 → R w w2 → S w2 → K (a.put o.dst v) w2) → o.wp P a w K (fun _ _ _ => False))
  (hn : relExV P l C R a0 F (i + 1) ((fun w _ => S w) :: done) n) : relExV P l C R a0 F i done (n + 1) := by
 refine ⟨fun w _ => S w, ?_, hn⟩
 intro b o' ho' a w hC hA
 rw [ho] at ho'; cases ho'
 have hw : Region.wanted o (yielded l.toArray a.tmps) = true := by unfold Region.wanted; rw [hg]
 rw [if_pos hw]
 exact h b a w hC hA _ fun v w2 c r s => ⟨v, rfl, by unfold told; rw [hd]; exact c, r, s⟩
end
section
open Go.RowKit
theorem RelAtV.eq {l : List Oper} {Ss : List (World → Value → Prop)} {a0 : Act} {i : Nat} {b : Nat → Bool} {a : Act} {w : World} (h : RelAtV l Ss a0 i b a w) (j t : Nat) {x : Value} (hs : Ss[i - 1 - j]? = some (eqV x)) (hd : depOK l i j t = true := by decide +kernel) : a.tmps[t]?.getD undef = x := h.dep j t (eqV x) hd hs
theorem RelAtV.fr {l : List Oper} {Ss : List (World → Value → Prop)} {a0 : Act} {i : Nat} {b : Nat → Bool} {a : Act} {w : World} (h : RelAtV l Ss a0 i b a w) (t : Nat) {v : Value} (hv : a0.tmps.getD t undef = v) (hd : freeV l i t = true := by decide +kernel) : a.tmps[t]?.getD undef = v := h.free t v hd hv
end
end
section
open Go.RowKit
theorem upd_at (b : Nat → Bool) (i : Nat) : upd b i i = true := if_pos rfl
theorem upd_ne {b : Nat → Bool} {i k : Nat} (h : k ≠ i) : upd b i k = b k := if_neg h
theorem updV_at (vs : Nat → Value) (i : Nat) (v : Value) : updV vs i v i = v := if_pos rfl
theorem updV_ne {vs : Nat → Value} {i k : Nat} {v : Value} (h : k ≠ i) : updV vs i v k = vs k := if_neg h
structure TwoB (T : TypeId) (z x y : Array Value) (i j p q : Nat) (w0 : World) (b : Nat → Bool) (vs : Nat → Value) (w : World) : Prop where
 fp : Fp [] w0 w
 ai : b i = true → ∃ B, vs i = .pointer (some ⟨B, 0, none⟩) ∧ w0.heap.size ≤ B ∧ w.heap[B]? = some (.cells (if b p = true then x else z) T (0, 0))
 aj : b j = true → ∃ B, vs j = .pointer (some ⟨B, 0, none⟩) ∧ w0.heap.size ≤ B ∧ w.heap[B]? = some (.cells (if b q = true then y else z) T (0, 0))
 ne : b i = true → b j = true → vs i ≠ vs j
variable {T : TypeId} {z x y : Array Value} {i j p q : Nat} {w0 : World} {b : Nat → Bool} {vs : Nat → Value} {w w2 : World}
theorem TwoB.start {vs : Nat → Value} (h : Fp [] w0 w) : TwoB T z x y i j p q w0 (fun _ => false) vs w := ⟨h, (fun h => by cases h), (fun h => by cases h), (fun h => by cases h)⟩
theorem TwoB.plain {k : Nat} {v : Value} (h : TwoB T z x y i j p q w0 b vs w) (hk : k ≠ i ∧ k ≠ j ∧ k ≠ p ∧ k ≠ q) : TwoB T z x y i j p q w0 (upd b k) (updV vs k v) w := by
 obtain ⟨h1, h2, h3, h4⟩ := hk
 refine ⟨h.fp, ?_, ?_, ?_⟩
 ·rw [upd_ne h1.symm, upd_ne h3.symm, updV_ne h1.symm]; exact h.ai
 ·rw [upd_ne h2.symm, upd_ne h4.symm, updV_ne h2.symm]; exact h.aj
 ·rw [upd_ne h1.symm, upd_ne h2.symm, updV_ne h1.symm, updV_ne h2.symm]; exact h.ne
theorem TwoB.on (h : TwoB T z x y i j p q w0 b vs w) (hf : Fp [] w w2) : TwoB T z x y i j p q w0 b vs w2 := by
 refine ⟨h.fp.trans hf (by simp), fun hb => ?_, fun hb => ?_, h.ne⟩
 ·obtain ⟨B, h1, h2, h3⟩ := h.ai hb
  exact ⟨B, h1, h2, (hf.block B (heap_lt h3) (by simp)).trans h3⟩
 ·obtain ⟨B, h1, h2, h3⟩ := h.aj hb
  exact ⟨B, h1, h2, (hf.block B (heap_lt h3) (by simp)).trans h3⟩
theorem TwoB.makeI (h : TwoB T z x y i j p q w0 b vs w) (hp : b p = false) (hd : i ≠ j ∧ i ≠ p ∧ i ≠ q) : TwoB T z x y i j p q w0 (upd b i) (updV vs i (.pointer (some ⟨w.heap.size, 0, none⟩))) (w.alloc (.cells z T)) := by
 have h2 := h.on (Fp.alloc w (.cells z T))
 refine ⟨h2.fp, fun _ => ⟨w.heap.size, updV_at _ _ _, h.fp.size, ?_⟩, fun hb => ?_, fun _ hb => ?_⟩
 ·rw [upd_ne hd.2.1.symm, hp]; exact heap_alloc_at rfl _
 ·rw [upd_ne hd.1.symm] at hb
  rw [updV_ne hd.1.symm, upd_ne hd.2.2.symm]
  exact h2.aj hb
 ·rw [upd_ne hd.1.symm] at hb
  rw [updV_at, updV_ne hd.1.symm]
  obtain ⟨B, h1, _, h3⟩ := h.aj hb
  rw [h1]
  intro e
  have e1 : w.heap.size = B := by injection e with e; injection e with e; injection e
  have := heap_lt h3
  omega
theorem TwoB.makeJ (h : TwoB T z x y i j p q w0 b vs w) (hq : b q = false) (hd : j ≠ i ∧ j ≠ p ∧ j ≠ q) : TwoB T z x y i j p q w0 (upd b j) (updV vs j (.pointer (some ⟨w.heap.size, 0, none⟩))) (w.alloc (.cells z T)) := by
 have h2 := h.on (Fp.alloc w (.cells z T))
 refine ⟨h2.fp, fun hb => ?_, fun _ => ⟨w.heap.size, updV_at _ _ _, h.fp.size, ?_⟩, fun hb _ => ?_⟩
 ·rw [upd_ne hd.1.symm] at hb
  rw [updV_ne hd.1.symm, upd_ne hd.2.1.symm]
  exact h2.ai hb
 ·rw [upd_ne hd.2.2.symm, hq]; exact heap_alloc_at rfl _
 ·rw [upd_ne hd.1.symm] at hb
  rw [updV_at, updV_ne hd.1.symm]
  obtain ⟨B, h1, _, h3⟩ := h.ai hb
  rw [h1]
  intro e
  have e1 : w.heap.size = B := by injection e with e; injection e with e; injection e with e; exact e.symm
  have := heap_lt h3
  omega
theorem TwoB.fillP (h : TwoB T z x y i j p q w0 b vs w) (hi : b i = true) {B : Nat} (hv : vs i = .pointer (some ⟨B, 0, none⟩)) (hf : Fp [B] w w2) (hx : w2.heap[B]? = some (.cells x T (0, 0))) (hd : p ≠ i ∧ p ≠ j ∧ p ≠ q) : TwoB T z x y i j p q w0 (upd b p) (updV vs p undef) w2 := by
 obtain ⟨B', h1, h2, h3⟩ := h.ai hi
 have hB : B = B' := by rw [h1] at hv; injection hv with e; injection e with e; injection e with e; exact e.symm
 subst hB
 refine ⟨h.fp.trans hf (by simp; omega), fun _ => ⟨B, ?_, h2, ?_⟩, fun hb => ?_, fun h5 h6 => ?_⟩
 ·rw [updV_ne hd.1.symm]; exact h1
 ·rw [upd_at, if_pos rfl]; exact hx
 ·rw [upd_ne hd.2.1.symm] at hb
  rw [updV_ne hd.2.1.symm, upd_ne hd.2.2.symm]
  obtain ⟨B2, g1, g2, g3⟩ := h.aj hb
  refine ⟨B2, g1, g2, (hf.block B2 (heap_lt g3) ?_).trans g3⟩
  intro hm
  have hm := List.mem_singleton.1 hm
  exact h.ne hi hb (by rw [h1, g1, hm])
 ·rw [upd_ne hd.1.symm] at h5
  rw [upd_ne hd.2.1.symm] at h6
  rw [updV_ne hd.1.symm, updV_ne hd.2.1.symm]
  exact h.ne h5 h6
theorem TwoB.fillQ (h : TwoB T z x y i j p q w0 b vs w) (hj : b j = true) {B : Nat} (hv : vs j = .pointer (some ⟨B, 0, none⟩)) (hf : Fp [B] w w2) (hy : w2.heap[B]? = some (.cells y T (0, 0))) (hd : q ≠ i ∧ q ≠ j ∧ q ≠ p) : TwoB T z x y i j p q w0 (upd b q) (updV vs q undef) w2 := by
 obtain ⟨B', h1, h2, h3⟩ := h.aj hj
 have hB : B = B' := by rw [h1] at hv; injection hv with e; injection e with e; injection e with e; exact e.symm
 subst hB
 refine ⟨h.fp.trans hf (by simp; omega), fun hb => ?_, fun _ => ⟨B, ?_, h2, ?_⟩, fun h5 h6 => ?_⟩
 ·rw [upd_ne hd.1.symm] at hb
  rw [updV_ne hd.1.symm, upd_ne hd.2.2.symm]
  obtain ⟨B2, g1, g2, g3⟩ := h.ai hb
  refine ⟨B2, g1, g2, (hf.block B2 (heap_lt g3) ?_).trans g3⟩
  intro hm
  have hm := List.mem_singleton.1 hm
  exact h.ne hb hj (by rw [h1, g1, hm])
 ·rw [updV_ne hd.2.1.symm]; exact h1
 ·rw [upd_at, if_pos rfl]; exact hy
 ·rw [upd_ne hd.1.symm] at h5
  rw [upd_ne hd.2.1.symm] at h6
  rw [updV_ne hd.1.symm, updV_ne hd.2.1.symm]
  exact h.ne h5 h6
end
section
open Go.RowKit
section
variable {α : Type} {R : RowTy α}
theorem wp_append_q (T : TypeId) {z : Value} {bytes : Nat} (hu : Tryz.prog.underlying T = some (.slice R.e)) (hinfo : (Tryz.prog.info? R.e).map (fun i => (i.zero, i.size, i.bytes)) = some (some z, R.k, bytes)) (hzs : z.cells.size = R.k) (hby : bytes ≤ 100000)
  {w : World} {o : Oper} {a : Act} {K : Act → World → Prop} {Q : Exit → Act → World → Prop} (s x : Operand)
  (ho : o.op = .call { callee := .builtin .append, args := #[s, x], argTypes := #[T, T] }) (base : Nat) (v : Value) (l : List α) (hs : a.eval s = v) (hown : OwnQ R w base v l)
  (ad : Addr) (m c : Nat) (ls : List α) (hx : a.eval x = .slice (some ad) m c) (hl : QAt R w (some ad) m ls) (hlen : l.length + ls.length ≤ 1000000000) (hbase : base ≤ w.heap.size)
  (h : ∀ v' w', OwnQ R w' base v' (l ++ ls) → Below base w w' → w.grownBy w' v.ownBlock → K (a.put o.dst v') w') : o.wp Tryz.prog a w K Q := by
 obtain ⟨i0, hi, hz0, hz1, hz2⟩ := info_parts hinfo
 have hm := hl.len
 refine wp_append_own (P := Tryz.prog) w s x T ho base R.e i0 _ R.k bytes hu hi hz0 hz1 hz2 hzs R.pos v l.length (l.flatMap R.enc) hs hown ad m c (ls.flatMap R.enc) hx (by rw [flatq_len, hm]) ?_ (flatq_one ls) (by unfold maxLen; omega) (Nat.le_trans (Nat.mul_le_mul (show l.length + m ≤ 1000000000 by omega) hby) (by decide)) hbase ?_
 ·intro j u hju
  rcases hl.cells with h0 | ⟨b, o, h0, _, hc⟩
  ·subst h0; simp at hju
  ·obtain rfl := Option.some.inj h0
   have e1 : (⟨b, o, none⟩ : Addr).add j = ⟨b, o + j, none⟩ := by unfold Addr.add; split <;> simp_all
   rw [e1]
   have hjl : j < ls.length * R.k := by rw [← flatq_len (R := R)]; exact (List.getElem?_eq_some_iff.1 hju).1
   obtain ⟨h1, h2, h3⟩ := split_k hjl R.pos
   rw [h3, flatq_at ls _ _ h2 h1] at hju
   have := hc (j / R.k) h1 (j % R.k) u hju
   rw [Nat.add_assoc, ← h3] at this
   exact this
 ·intro v' w' h1 h2 _
  refine h v' w' ?_ ((Below.refl base w).grown h2 hbase (fun k hk => (hown.lt k hk).1)) h2
  unfold OwnQ
  rw [List.length_append, List.flatMap_append, ← hm]
  exact h1
structure AppG (R : RowTy α) (D : List TypeId) (T : TypeId) (C : Value → Array Value) (base B : Nat) (v : Value) (l : List α) (x : α) (ib ia is : Nat) (W0 : World) (b : Nat → Bool) (vs : Nat → Value) (W : World) : Prop where
 own0 : b ia = false → OwnQ R W base v l
 own1 : b ia = true → OwnQ R W base (vs ia) (l ++ [x])
 bld : b ib = true → b ia = false → ∃ g, vs ib = .slice (some ⟨g, 0, none⟩) 1 1 ∧ QAt R W (some ⟨g, 0, none⟩) 1 [x]
 cel : W.heap[B]? = some (.cells (C (if b is = true then vs ia else v)) T (0, 0))
 tf : Tf base D [B] W0 W
 oa : b is = true → b ia = true
 ob : b ia = true → b ib = true
 sz : base ≤ W.heap.size
variable {D : List TypeId} {T : TypeId} {C : Value → Array Value} {base B : Nat} {v : Value} {l : List α} {x : α} {ib ia is : Nat} {W0 W W2 : World} {b : Nat → Bool} {vs : Nat → Value}
theorem notB {a c : Bool} (h : a = true → c = true) (hc : c = false) : a = false := by cases a <;> cases c <;> simp_all
theorem AppG.start {vs : Nat → Value} (ho : OwnQ R W0 base v l) (hc : W0.heap[B]? = some (.cells (C v) T (0, 0))) (hb : base ≤ W0.heap.size) : AppG R D T C base B v l x ib ia is W0 (fun _ => false) vs { W0 with drawn := W0.drawn + 1 } :=
 ⟨fun _ => ho.fp (Fp.drew W0) (by simp), (fun h => by cases h), (fun h => by cases h), hc, (Tf.of (Fp.drew W0)).mono (by simp), (fun h => by cases h), (fun h => by cases h), hb⟩
theorem AppG.plain {k : Nat} {y : Value} (h : AppG R D T C base B v l x ib ia is W0 b vs W) (hk : k ≠ ib ∧ k ≠ ia ∧ k ≠ is) : AppG R D T C base B v l x ib ia is W0 (upd b k) (updV vs k y) W := by
 obtain ⟨h2, h3, h4⟩ := hk
 refine ⟨?_, ?_, ?_, ?_, h.tf, ?_, ?_, h.sz⟩
 ·rw [upd_ne h3.symm]; exact h.own0
 ·rw [upd_ne h3.symm, updV_ne h3.symm]; exact h.own1
 ·rw [upd_ne h3.symm, upd_ne h2.symm, updV_ne h2.symm]; exact h.bld
 ·rw [upd_ne h4.symm, updV_ne h3.symm]; exact h.cel
 ·rw [upd_ne h4.symm, upd_ne h3.symm]; exact h.oa
 ·rw [upd_ne h3.symm, upd_ne h2.symm]; exact h.ob
theorem AppG.first (h : AppG R D T C base B v l x ib ia is W0 b vs W) (ha : b ia = false) : W.heap[B]? = some (.cells (C v) T (0, 0)) := by
 have := h.cel
 rw [notB h.oa ha] at this
 exact this
theorem AppG.build (h : AppG R D T C base B v l x ib ia is W0 b vs W) (hb : b ib = false) (hd : ib ≠ ia ∧ ib ≠ is ∧ ia ≠ is) :
  AppG R D T C base B v l x ib ia is W0 (upd b ib) (updV vs ib (.slice (some ⟨W.heap.size, 0, none⟩) 1 1)) (W.alloc (.cells (R.enc x).toArray R.e)) := by
 have ha := notB h.ob hb
 have hf := Fp.alloc W (.cells (R.enc x).toArray R.e)
 refine ⟨fun _ => (h.own0 ha).fp hf (by simp), fun e => ?_, fun _ _ => ⟨W.heap.size, updV_at _ _ _, QAt.one (heap_alloc_at rfl _)⟩, ?_, h.tf.trans (Tf.of hf) (by simp), ?_, fun _ => upd_at _ _, Nat.le_trans h.sz hf.size⟩
 ·rw [upd_ne hd.1.symm, ha] at e; cases e
 ·rw [upd_ne hd.2.1.symm, updV_ne hd.1.symm]
  exact heap_alloc_old h.cel
 ·rw [upd_ne hd.2.1.symm, upd_ne hd.1.symm]; exact h.oa
theorem AppG.append {v' : Value} (h : AppG R D T C base B v l x ib ia is W0 b vs W) (hb : b ib = true) (ha : b ia = false) (ho : OwnQ R W2 base v' (l ++ [x])) (hg : W.grownBy W2 v.ownBlock) (hD : R.e ∈ D) (hT : T ∉ D) (hd : ib ≠ ia ∧ ib ≠ is ∧ ia ≠ is) :
  AppG R D T C base B v l x ib ia is W0 (upd b ia) (updV vs ia v') W2 := by
 have hs := notB h.oa ha
 have ht : Tf base D [] W W2 := Tf.grown (h.own0 ha) hg hD
 refine ⟨fun e => ?_, fun _ => by rw [updV_at]; exact ho, fun _ e => ?_, ?_, h.tf.trans ht (by simp), fun e => ?_, fun _ => ?_, Nat.le_trans h.sz ht.size⟩
 ·rw [upd_at] at e; cases e
 ·rw [upd_at] at e; cases e
 ·rw [upd_ne hd.2.2.symm, hs]
  exact ht.cells (h.first ha) (by simp) hT
 ·rw [upd_ne hd.2.2.symm, hs] at e; cases e
 ·rw [upd_ne hd.1]; exact hb
theorem AppG.store {off : Nat} (h : AppG R D T C base B v l x ib ia is W0 b vs W) (ha : b ia = true) (hs : b is = false) (hC : (C v).setIfInBounds off (vs ia) = C (vs ia)) (hT : T ≠ R.e) (hd : ib ≠ ia ∧ ib ≠ is ∧ ia ≠ is) :
  AppG R D T C base B v l x ib ia is W0 (upd b is) (updV vs is undef) (W.setCell ⟨B, off, none⟩ (vs ia)) := by
 have hf : Fp [B] W (W.setCell ⟨B, off, none⟩ (vs ia)) := Fp.setCell W ⟨B, off, none⟩ (vs ia)
 have hc := h.cel
 rw [hs] at hc
 refine ⟨fun e => ?_, fun _ => ?_, fun _ e => ?_, ?_, h.tf.trans (Tf.of hf) (by simp), fun _ => ?_, fun e => ?_, Nat.le_trans h.sz hf.size⟩
 ·rw [upd_ne hd.2.2, ha] at e; cases e
 ·rw [updV_ne hd.2.2]
  have ho := h.own1 ha
  refine ho.kept fun k hk => hf.block k (ho.lt k hk).2 fun hm => ?_
  obtain rfl := List.mem_singleton.1 hm
  rcases ho.2 with ⟨h1, _⟩ | ⟨g, cap, cur, h1, _, hh, _⟩
  ·rw [h1] at hk; cases hk
  ·rw [h1] at hk
   obtain rfl : g = k := by simpa [Value.ownBlock] using hk
   rw [hh] at hc
   cases hc
   exact hT rfl
 ·rw [upd_ne hd.2.2, ha] at e; cases e
 ·rw [upd_at, if_pos rfl, updV_ne hd.2.2, heap_setCell_same hc]
  rw [← hC]
  rfl
 ·rw [upd_ne hd.2.2]; exact ha
 ·rw [upd_ne hd.2.2] at e
  rw [upd_ne hd.2.1]; exact h.ob e
theorem AppG.slice (h : AppG R D T C base B v l x ib ia is W0 b vs W) (ha : b ia = true) : ∃ a n c, vs ia = .slice a n c := by
 obtain ⟨a, c, e, _⟩ := (h.own1 ha).len
 exact ⟨_, _, _, e⟩
end
end
end Go.Proofs.YtkagolpnaicdoaaGreatDoor
