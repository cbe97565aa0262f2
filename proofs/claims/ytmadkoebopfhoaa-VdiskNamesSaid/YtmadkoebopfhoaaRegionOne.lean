/-
  A region that draws its order, one of whose operations turns the world: the others know whether it was done. Over any program.
-/
import Derived.Test.YtmadkoebopfhoaaRegion
namespace Go.Proofs.Ytmadkoebopfhoaa
open Go.RowKit

section
variable {P : Program} {l : List Oper}

/-- one operation's part; operation j0 is the one that turns the world: C false ahead of it, C true behind it -/
def RelOp1 (P : Program) (l : List Oper) (Ss : List (World → Value → Prop)) (C : Bool → World → Prop) (R : World → World → Prop) (a0 : Act) (j0 i : Nat) : Prop :=
  ∀ o S, l[i]? = some o → Ss[i]? = some S → ∀ (b : Bool) (a : Act) (w : World), (i = j0 → b = false) → C b w → a.tmps.size = a0.tmps.size → (∀ t, (∀ o ∈ l, o.dst ≠ some t) → a.tmps.getD t undef = a0.tmps.getD t undef) →
    (∀ e ∈ o.after, Region.binds .any e = true → ∀ oe Se, l[e.on]? = some oe → Ss[e.on]? = some Se → Se w (valOf oe a)) →
    if Region.wanted o (yielded l.toArray a.tmps) = true then o.wp P a w (fun a2 w2 => ∃ v, a2 = a.put o.dst v ∧ C (if i = j0 then true else b) w2 ∧ R w w2 ∧ S w2 (match o.dst with | some _ => v | none => undef)) (fun _ _ _ => False)
    else S w undef ∧ C (if i = j0 then true else b) w

/-- what holds on the way -/
structure RelInv1 (l : List Oper) (Ss : List (World → Value → Prop)) (C : Bool → World → Prop) (j0 : Nat) (a0 : Act) (listed : Array Bool) (a : Act) (w : World) : Prop where
  size : listed.size = l.length
  defers : a.defers = a0.defers
  tmps : a.tmps.size = a0.tmps.size
  done : ∀ j o S, l[j]? = some o → Ss[j]? = some S → listed.getD j false = true → S w (valOf o a)
  same : ∀ t, (∀ o ∈ l, o.dst ≠ some t) → a.tmps.getD t undef = a0.tmps.getD t undef
  cls : C (listed.getD j0 false) w

theorem rel_any1 {Ss : List (World → Value → Prop)} {C : Bool → World → Prop} {j0 : Nat} {R : World → World → Prop} {a0 : Act} {Q : Exit → Act → World → Prop} (hl : Ss.length = l.length) (hform : relForm l a0.tmps.size = true)
    (stab : ∀ S ∈ Ss, ∀ b w w' v, C b w → R w w' → S w v → S w' v) (rel : ∀ i, i < l.length → RelOp1 P l Ss C R a0 j0 i)
    (fin : ∀ a w listed, RelInv1 l Ss C j0 a0 listed a w → (∀ j, j < l.length → listed.getD j false = true) → Q .normal a w) :
    ∀ (fuel : Nat) (listed : Array Bool) (a : Act) (w : World), unlisted listed = fuel → RelInv1 l Ss C j0 a0 listed a w → wpAny P .any l.toArray Q fuel listed a w := by
  intro fuel
  induction fuel with
  | zero =>
    intro listed a w hu inv
    have hall := unlisted_zero hu
    rw [inv.size] at hall
    refine ⟨?_, fin a w listed inv hall⟩
    apply List.eq_nil_iff_forall_not_mem.2
    intro j hj
    obtain ⟨h1, o, ho, _⟩ := mem_ready.1 hj
    have hlt : j < l.length := by simpa using (Array.getElem?_eq_some_iff.1 ho).1
    have h2 := hall j hlt
    have hls : j < listed.size := by rw [inv.size]; exact hlt
    simp [hls] at h1 h2
    rw [h1] at h2
    cases h2
  | succ fuel ih =>
    intro listed a w hu inv
    refine ⟨fun hr => ?_, fun i hi => ?_⟩
    · -- something is ready as long as not all is listed
      exfalso
      have hex : ∃ j, j < l.length ∧ listed.getD j false = false := by
        by_cases hex : ∃ j, j < l.length ∧ listed.getD j false = false
        · exact hex
        · exfalso
          have hall : ∀ j, j < l.length → listed.getD j false = true := fun j hj => by
            cases h : listed.getD j false
            · exact absurd ⟨j, hj, h⟩ hex
            · rfl
          have : unlisted listed = 0 := by
            unfold unlisted
            rw [List.length_eq_zero_iff, List.filter_eq_nil_iff]
            intro b hb
            obtain ⟨j, hj, rfl⟩ := List.getElem_of_mem hb
            have hj' : j < listed.size := by simpa using hj
            have := hall j (by rw [← inv.size]; exact hj')
            simp [hj'] at this ⊢
            exact this
          omega
      obtain ⟨j, hj, hleast⟩ : ∃ j, (j < l.length ∧ listed.getD j false = false) ∧ ∀ k, k < j → ¬ (k < l.length ∧ listed.getD k false = false) := by
        obtain ⟨j0, h0⟩ := hex
        induction j0 using Nat.strongRecOn with
        | _ n ih2 =>
          by_cases hk : ∃ k, k < n ∧ (k < l.length ∧ listed.getD k false = false)
          · obtain ⟨k, hk1, hk2⟩ := hk
            exact ih2 k hk1 hk2
          · exact ⟨n, h0, fun k hk1 hk2 => hk ⟨k, hk1, hk2⟩⟩
      have hjs : j < listed.size := by rw [inv.size]; exact hj.1
      have : j ∈ Region.ready .any l.toArray listed := by
        refine mem_ready.2 ⟨by have := hj.2; simp [hjs] at this ⊢; exact this, l[j], by simp [hj.1], fun e he hb => ?_⟩
        have hlt := relForm_edge hform (List.getElem?_eq_getElem hj.1) e he hb
        cases h : listed.getD e.on false
        · exact absurd ⟨by omega, h⟩ (hleast e.on hlt)
        · rfl
      rw [hr] at this
      cases this
    · obtain ⟨h1, o, ho, hpre⟩ := mem_ready.1 hi
      have ho' : l[i]? = some o := by simpa using ho
      have hlt : i < l.length := (List.getElem?_eq_some_iff.1 ho').1
      have hls : i < listed.size := by rw [inv.size]; exact hlt
      obtain ⟨S, hS⟩ : ∃ S, Ss[i]? = some S := ⟨Ss[i]'(by omega), List.getElem?_eq_getElem (by omega)⟩
      have hr := rel i hlt o S ho' hS (listed.getD j0 false) a w (fun e => by subst e; simp [hls] at h1 ⊢; exact h1) inv.cls inv.tmps inv.same (fun e he hb oe Se hoe hSe => inv.done e.on oe Se hoe hSe (hpre e he hb))
      have hbit : (listed.setIfInBounds i true).getD j0 false = if i = j0 then true else listed.getD j0 false := by
        by_cases e : i = j0
        · subst e; rw [if_pos rfl]; simp [hls]
        · rw [if_neg e, getD_set_ne false e]
      have hnext : ∀ v w2, C (if i = j0 then true else listed.getD j0 false) w2 → (∀ S' ∈ Ss, ∀ v, S' w v → S' w2 v) → S w2 (match o.dst with | some _ => v | none => undef) → wpAny P .any l.toArray Q fuel (listed.setIfInBounds i true) (a.put o.dst v) w2 := by
        intro v w2 hC hst hv
        refine ih _ _ _ (by have := unlisted_set hls h1; omega) ⟨by simp [inv.size], by rw [put_defers]; exact inv.defers, by rw [put_size]; exact inv.tmps, ?_, ?_, by rw [hbit]; exact hC⟩
        · intro j oj Sj hj hSj hlj
          by_cases hij : i = j
          · subst hij
            rw [ho'] at hj; cases hj
            rw [hS] at hSj; cases hSj
            unfold valOf
            cases hd : o.dst with
            | none => rw [hd] at hv; exact hv
            | some d =>
              rw [hd] at hv
              simp only
              rw [put_getD_same (by rw [inv.tmps]; exact (relForm_dst hform ho' hd).1)]
              exact hv
          · rw [getD_set_ne false hij] at hlj
            have h2 := hst Sj (List.mem_of_getElem? hSj) _ (inv.done j oj Sj hj hSj hlj)
            have : valOf oj (a.put o.dst v) = valOf oj a := by
              unfold valOf
              cases hdj : oj.dst with
              | none => rfl
              | some d =>
                simp only
                refine put_getD_other fun hd => ?_
                exact (relForm_dst hform ho' hd).2 j oj hj (Ne.symm hij) hdj
            rw [this]
            exact h2
        · intro t ht
          rw [put_getD_other (ht o (List.mem_of_getElem? ho'))]
          exact inv.same t ht
      unfold wpOp
      simp only [ho]
      split
      · rename_i hw
        rw [if_pos hw] at hr
        refine Or.inl (wp_mono_both (fun a2 w2 h => ?_) (fun _ _ _ h => h.elim) hr)
        obtain ⟨v, rfl, hC, hR, hv⟩ := h
        exact hnext v w2 hC (fun S' hS' v hv => stab S' hS' _ w w2 v inv.cls hR hv) hv
      · rename_i hw
        rw [if_neg hw] at hr
        refine hnext undef w hr.2 (fun _ _ _ h => h) ?_
        cases o.dst <;> exact hr.1

/-- THE LAW: a region that draws its order: each operation once, in whatever order. -/
theorem wp_region_rel1 {id : Nat} {Q : Exit → Act → World → Prop} {a0 : Act} {w0 : World} (Ss : List (World → Value → Prop)) (C : Bool → World → Prop) (j0 : Nat) (hj0 : j0 < l.length) (R : World → World → Prop)
    (hm : P.follows .mixedOrders = true) (hl : Ss.length = l.length) (hform : relForm l a0.tmps.size = true) (hC : C false { w0 with drawn := w0.drawn + 1 })
    (stab : ∀ S ∈ Ss, ∀ b w w' v, C b w → R w w' → S w v → S w' v) (rel : ∀ i, i < l.length → RelOp1 P l Ss C R a0 j0 i)
    (fin : ∀ vs w, C true w → relAll w Ss vs → Q .normal (putAll l vs a0) w) : (Code.region id l.toArray true).wp P Q a0 w0 := by
  refine wp_region_any hm (rel_any1 (j0 := j0) hl hform stab rel ?_ _ _ _ _ (by simp [unlisted]) ⟨by simp, rfl, rfl, ?_, fun _ _ => rfl, by simpa [hj0] using hC⟩)
  · intro a w listed inv hall
    have hvs := fin (l.map (fun o => valOf o a)) w (by have := inv.cls; rw [hall j0 hj0] at this; exact this) (relAll_of (by simp [hl]) (fun i S v h1 h2 => by
      rw [List.getElem?_map] at h2
      cases ho : l[i]? with
      | none => rw [ho] at h2; cases h2
      | some o =>
        rw [ho] at h2
        simp only [Option.map_some, Option.some.injEq] at h2
        rw [← h2]
        exact inv.done i o S ho h1 (hall i (List.getElem?_eq_some_iff.1 ho).1)))
    have : putAll l (l.map (fun o => valOf o a)) a0 = a := by
      have hdef : (putAll l (l.map (fun o => valOf o a)) a0).defers = a.defers := by rw [putAll_defers, inv.defers]
      have htm : (putAll l (l.map (fun o => valOf o a)) a0).tmps = a.tmps := by
        have hsz : (putAll l (l.map (fun o => valOf o a)) a0).tmps.size = a.tmps.size := by rw [putAll_size, inv.tmps]
        refine Array.ext hsz fun t h1 h2 => ?_
        have hg : (putAll l (l.map (fun o => valOf o a)) a0).tmps.getD t undef = a.tmps.getD t undef := by
          by_cases hex : ∃ o ∈ l, o.dst = some t
          · obtain ⟨o, ho, hd⟩ := hex
            obtain ⟨i, hi, hio⟩ := List.getElem_of_mem ho
            have hio' : l[i]? = some o := by rw [List.getElem?_eq_getElem hi, hio]
            rw [putAll_at l _ a0 (by simp) (fun i j oi oj d hi hj h1 h2 => by
              by_cases hij : i = j
              · exact hij
              · exact absurd h2 ((relForm_dst hform hi h1).2 j oj hj (Ne.symm hij))) (fun o' ho' d hd' => by
              obtain ⟨k, hk, hko⟩ := List.getElem_of_mem ho'
              exact (relForm_dst hform (by rw [List.getElem?_eq_getElem hk, hko]) hd').1) i o (valOf o a) t hio' (by rw [List.getElem?_map, hio']; rfl) hd]
            unfold valOf
            rw [hd]
          · have hex' : ∀ o ∈ l, o.dst ≠ some t := fun o ho hd => hex ⟨o, ho, hd⟩
            rw [putAll_other l _ a0 t hex', inv.same t hex']
        simpa [h1, h2] using hg
      cases a
      cases h : putAll l (l.map (fun o => valOf o _)) a0
      rw [h] at hdef htm
      simp only at hdef htm
      rw [hdef, htm]
    rw [this] at hvs
    exact hvs
  · intro j o S _ _ h
    exfalso
    rcases Nat.lt_or_ge j l.length with h' | h'
    · simp [h'] at h
    · simp [h'] at h

/-! ### how an operation's part is shown -/
/-- one operation's part, told by those ahead of it -/
def StepP (P : Program) (l : List Oper) (done : List (World → Value → Prop)) (S : World → Value → Prop) (C : Bool → World → Prop) (R : World → World → Prop) (a0 : Act) (j0 i : Nat) : Prop :=
  ∀ (b : Bool), (i = j0 → b = false) → ∀ o, l[i]? = some o → ∀ (a : Act) (w : World), C b w → RelAt l done a0 i a w →
    if Region.wanted o (yielded l.toArray a.tmps) = true then o.wp P a w (fun a2 w2 => ∃ v, a2 = a.put o.dst v ∧ C (if i = j0 then true else b) w2 ∧ R w w2 ∧ S w2 (match o.dst with | some _ => v | none => undef)) (fun _ _ _ => False)
    else S w undef ∧ C (if i = j0 then true else b) w

/-- operation by operation, in the text's order -/
def relEx1 (P : Program) (l : List Oper) (C : Bool → World → Prop) (R : World → World → Prop) (a0 : Act) (j0 : Nat) (F : Act → World → Prop) : Nat → List (World → Value → Prop) → Nat → Prop
  | _, done, 0 => (∀ b, stabAll (C b) R done) ∧ ∀ w, C true w → ∀ vs, relAll w done.reverse vs → F (putAll l vs a0) w
  | i, done, n + 1 => ∃ S, StepP P l done S C R a0 j0 i ∧ relEx1 P l C R a0 j0 F (i + 1) (S :: done) n

theorem relEx1_out {C : Bool → World → Prop} {j0 : Nat} {R : World → World → Prop} {a0 : Act} {F : Act → World → Prop} (hform : relForm l a0.tmps.size = true) : ∀ (n i : Nat) (done : List (World → Value → Prop)), relEx1 P l C R a0 j0 F i done n → done.length = i → i + n = l.length →
    ∃ Ss, (∃ r, Ss = done.reverse ++ r) ∧ Ss.length = l.length ∧ (∀ S ∈ Ss, ∀ b w w' v, C b w → R w w' → S w v → S w' v) ∧ (∀ vs w, C true w → relAll w Ss vs → F (putAll l vs a0) w) ∧ ∀ k, i ≤ k → k < l.length → RelOp1 P l Ss C R a0 j0 k
  | 0, i, done, h, h1, h2 => ⟨done.reverse, ⟨[], by simp⟩, by simp; omega, fun S hS b => stab_mem (fun S hS => by simpa using hS) (h.1 b) S hS, fun vs w hC => h.2 w hC vs, fun k h3 h4 => by omega⟩
  | n + 1, i, done, h, h1, h2 => by
    obtain ⟨S, hop, hrest⟩ := h
    obtain ⟨Ss, ⟨r, hr⟩, g1, g2, g3, g4⟩ := relEx1_out hform n (i + 1) (S :: done) hrest (by simp [h1]) (by omega)
    rw [List.reverse_cons] at hr
    refine ⟨Ss, ⟨[S] ++ r, by rw [hr, List.append_assoc]⟩, g1, g2, g3, fun k h3 h4 => ?_⟩
    by_cases e : k = i
    · subst e
      intro o S' ho hS' b a w hb0 hC k1 k2 k3
      have hS : Ss[k]? = some S := by rw [hr, List.append_assoc, List.getElem?_append_right (by simp; omega)]; simp [h1]
      rw [hS] at hS'; cases hS'
      refine hop b hb0 o ho a w hC (relAt_of ho k1 k2 fun e he hb oe Se hoe hSe => k3 e he hb oe Se hoe ?_)
      have hlt := relForm_edge hform ho e he hb
      rw [hr, List.append_assoc, List.getElem?_append_left (by simp; omega), List.getElem?_reverse (by omega), h1]
      exact hSe
    · exact g4 k (by omega) h4


/-- THE LAW, operation by operation -/
theorem wp_region_one {id : Nat} {Q : Exit → Act → World → Prop} {a0 : Act} {w0 : World} (C : Bool → World → Prop) (R : World → World → Prop) (j0 : Nat) (hj0 : j0 < l.length)
    (hm : P.follows .mixedOrders = true) (hform : relForm l a0.tmps.size = true) (hC : C false { w0 with drawn := w0.drawn + 1 })
    (h : relEx1 P l C R a0 j0 (fun a w => Q .normal a w) 0 [] l.length) : (Code.region id l.toArray true).wp P Q a0 w0 := by
  obtain ⟨Ss, _, g1, g2, g3, g4⟩ := relEx1_out hform l.length 0 [] h rfl (by omega)
  exact wp_region_rel1 Ss C j0 hj0 R hm g1 hform hC g2 (fun i hi => g4 i (Nat.zero_le _) hi) g3

theorem step_of {C : Bool → World → Prop} {R : World → World → Prop} {a0 : Act} {j0 i : Nat} {done : List (World → Value → Prop)} {S : World → Value → Prop} (hi : (i == j0) = false) (h : ∀ b, RelOpP P l done S (C b) R a0 i) : StepP P l done S C R a0 j0 i := by
  have hi' : i ≠ j0 := by simpa using hi
  intro b _ o ho a w hC hA
  have h1 := h b o ho a w hC hA
  rw [if_neg hi']
  split
  · rename_i hw; rw [if_pos hw] at h1; exact h1
  · rename_i hw; rw [if_neg hw] at h1; exact ⟨h1, hC⟩

variable {C : Bool → World → Prop} {R : World → World → Prop} {a0 : Act} {F : Act → World → Prop} {i n : Nat} {j0 : Nat} {done : List (World → Value → Prop)}

theorem on_plain {o : Oper} {x : Value} (hi : (i == j0) = false) (ho : l[i]? = some o) (hg : o.guard = none) (hd : o.dst.isSome = true)
    (h : ∀ b a w, C b w → RelAt l done a0 i a w → ∀ K : Act → World → Prop, (∀ w2, C b w2 → R w w2 → K (a.put o.dst x) w2) → o.wp P a w K (fun _ _ _ => False))
    (hn : relEx1 P l C R a0 j0 F (i + 1) (eqV x :: done) n) : relEx1 P l C R a0 j0 F i done (n + 1) := by
  refine ⟨eqV x, step_of hi fun b => ?_, hn⟩
  intro o' ho' a w hC hA
  rw [ho] at ho'; cases ho'
  have hw : Region.wanted o (yielded l.toArray a.tmps) = true := by unfold Region.wanted; rw [hg]
  rw [if_pos hw]
  refine h b a w hC hA _ fun w2 c r => ⟨x, rfl, c, r, ?_⟩
  cases hd' : o.dst with
  | none => rw [hd'] at hd; cases hd
  | some d => rfl

theorem on_yes {o oj : Oper} {x : Value} {g : Bool} (j t : Nat) (hi : (i == j0) = false) (ho : l[i]? = some o) (hg : o.guard = some (j, g)) (hoj : l[j]? = some oj) (hdj : oj.dst = some t)
    (hdep : depOK l i j t = true) (hSj : done[i - 1 - j]? = some (eqV (.bool g))) (hd : o.dst.isSome = true)
    (h : ∀ b a w, C b w → RelAt l done a0 i a w → ∀ K : Act → World → Prop, (∀ w2, C b w2 → R w w2 → K (a.put o.dst x) w2) → o.wp P a w K (fun _ _ _ => False))
    (hn : relEx1 P l C R a0 j0 F (i + 1) (eqV x :: done) n) : relEx1 P l C R a0 j0 F i done (n + 1) := by
  refine ⟨eqV x, step_of hi fun b => ?_, hn⟩
  intro o' ho' a w hC hA
  rw [ho] at ho'; cases ho'
  have hy := yielded_of hoj hdj (by have := hA.dep j t _ hdep hSj; simpa [eqV] using this)
  have hw : Region.wanted o (yielded l.toArray a.tmps) = true := by unfold Region.wanted; rw [hg]; simp [hy]
  rw [if_pos hw]
  refine h b a w hC hA _ fun w2 c r => ⟨x, rfl, c, r, ?_⟩
  cases hd' : o.dst with
  | none => rw [hd'] at hd; cases hd
  | some d => rfl

/-- the one that turns the world -/
theorem on_turn {o oj : Oper} {x : Value} {g : Bool} (j t : Nat) (hi : i = j0) (ho : l[i]? = some o) (hg : o.guard = some (j, g)) (hoj : l[j]? = some oj) (hdj : oj.dst = some t)
    (hdep : depOK l i j t = true) (hSj : done[i - 1 - j]? = some (eqV (.bool g))) (hd : o.dst.isSome = true)
    (h : ∀ a w, C false w → RelAt l done a0 i a w → ∀ K : Act → World → Prop, (∀ w2, C true w2 → R w w2 → K (a.put o.dst x) w2) → o.wp P a w K (fun _ _ _ => False))
    (hn : relEx1 P l C R a0 j0 F (i + 1) (eqV x :: done) n) : relEx1 P l C R a0 j0 F i done (n + 1) := by
  refine ⟨eqV x, ?_, hn⟩
  intro b hb o' ho' a w hC hA
  rw [ho] at ho'; cases ho'
  have hy := yielded_of hoj hdj (by have := hA.dep j t _ hdep hSj; simpa [eqV] using this)
  have hw : Region.wanted o (yielded l.toArray a.tmps) = true := by unfold Region.wanted; rw [hg]; simp [hy]
  rw [if_pos hw, if_pos hi]
  rw [hb hi] at hC
  refine h a w hC hA _ fun w2 c r => ⟨x, rfl, c, r, ?_⟩
  cases hd' : o.dst with
  | none => rw [hd'] at hd; cases hd
  | some d => rfl

/-- a guarded operation whose guard says no -/
theorem on_no {o oj : Oper} {b want : Bool} (j t : Nat) (hi : (i == j0) = false) (ho : l[i]? = some o) (hg : o.guard = some (j, want)) (hoj : l[j]? = some oj) (hdj : oj.dst = some t)
    (hdep : depOK l i j t = true) (hSj : done[i - 1 - j]? = some (eqV (.bool b))) (hne : (want != b) = true)
    (hn : relEx1 P l C R a0 j0 F (i + 1) (eqV undef :: done) n) : relEx1 P l C R a0 j0 F i done (n + 1) := by
  refine ⟨eqV undef, step_of hi fun b => ?_, hn⟩
  intro o' ho' a w hC hA
  rw [ho] at ho'; cases ho'
  have hy := yielded_of hoj hdj (by have := hA.dep j t _ hdep hSj; simpa [eqV] using this)
  have hw : ¬ Region.wanted o (yielded l.toArray a.tmps) = true := by
    unfold Region.wanted; rw [hg]; simp [hy]
    intro e; rw [e] at hne; simp at hne
  rw [if_neg hw]
  rfl

/-- a guarded operation whose guard waits for one that was not done -/
theorem on_idle {o oj : Oper} {want : Bool} (j t : Nat) (hi : (i == j0) = false) (ho : l[i]? = some o) (hg : o.guard = some (j, want)) (hoj : l[j]? = some oj) (hdj : oj.dst = some t)
    (hdep : depOK l i j t = true) (hSj : done[i - 1 - j]? = some (eqV undef))
    (hn : relEx1 P l C R a0 j0 F (i + 1) (eqV undef :: done) n) : relEx1 P l C R a0 j0 F i done (n + 1) := by
  refine ⟨eqV undef, step_of hi fun b => ?_, hn⟩
  intro o' ho' a w hC hA
  rw [ho] at ho'; cases ho'
  have hu : a.tmps.getD t undef = undef := by have := hA.dep j t _ hdep hSj; simpa [eqV] using this
  have hy : yielded l.toArray a.tmps j = none := by
    unfold yielded
    have h1 : l.toArray[j]? = some oj := by simpa using hoj
    rw [h1]
    simp only [Option.bind_some, hdj]
    rcases Nat.lt_or_ge t a.tmps.size with hlt | hge
    · simp [hlt] at hu ⊢
      rw [hu]
      rfl
    · simp [hge]
  have hw : ¬ Region.wanted o (yielded l.toArray a.tmps) = true := by
    unfold Region.wanted; rw [hg]; simp [hy]
  rw [if_neg hw]
  rfl

end
end Go.Proofs.Ytmadkoebopfhoaa
