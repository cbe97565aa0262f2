/-
 A region that draws its order, walked once: each operation says what its value is good for, as long as the world goes on by steps that keep it so. Over any program.
-/
import Derived.Test.YtkjmgbifoaoefaaGreatDoorQMem
import Derived.Orders
set_option maxRecDepth 100000
set_option maxHeartbeats 8000000
namespace Go.Proofs.YtkjmgbifoaoefaaGreatDoor
open Go.RowKit
section
variable {P : Program} {l : List Oper}
def valOf (o : Oper) (a : Act) : Value := match o.dst with | some d => a.tmps.getD d undef | none => undef
def putAll : List Oper → List Value → Act → Act
 |o :: l, v :: vs, a => putAll l vs (a.put o.dst v)
 |_, _, a => a
theorem wp_mono_both {o : Oper} {a : Act} {w : World} {K K' : Act → World → Prop} {Q Q' : Exit → Act → World → Prop} (h : ∀ a w, K a w → K' a w) (hq : ∀ e a w, Q e a w → Q' e a w)
  (hh : o.wp P a w K Q) : o.wp P a w K' Q' := by
 unfold Oper.wp at *
 generalize (execOp a.eval o).run P w = r at *
 cases r with
 |ok n w' =>
  cases n <;> simp only [Oper.upon] at hh ⊢
  case value => exact h _ _ hh
  case skip => exact h _ _ hh
  case defer => exact h _ _ hh
  case enter =>
   refine Calls.mono hh (fun e w'' he => ?_)
   cases e
   ·exact h _ _ he
   ·exact hq _ _ _ he
   ·obtain ⟨a0, w0, h0⟩ := he
    exact ⟨a0, w0, hq _ _ _ h0⟩
  case row => exact Rows.mono hh (fun _ _ he => h _ _ he)
 |halt x w' => cases x <;> simp only [Oper.upon] at hh ⊢ <;> first | exact hq _ _ _ hh | exact hh
def RelOp (P : Program) (l : List Oper) (Ss : List (World → Value → Prop)) (C : World → Prop) (R : World → World → Prop) (a0 : Act) (i : Nat) : Prop :=
 ∀ o S, l[i]? = some o → Ss[i]? = some S → ∀ (a : Act) (w : World), C w → a.tmps.size = a0.tmps.size → (∀ t, (∀ o ∈ l, o.dst ≠ some t) → a.tmps.getD t undef = a0.tmps.getD t undef) →
  (∀ e ∈ o.after, Region.binds .any e = true → ∀ oe Se, l[e.on]? = some oe → Ss[e.on]? = some Se → Se w (valOf oe a)) →
  if Region.wanted o (yielded l.toArray a.tmps) = true then o.wp P a w (fun a2 w2 => ∃ v, a2 = a.put o.dst v ∧ C w2 ∧ R w w2 ∧ S w2 (match o.dst with | some _ => v | none => undef)) (fun _ _ _ => False) else S w undef
def relForm (l : List Oper) (size : Nat) : Bool :=
 ((List.range l.length).all fun i => match l[i]? with
  |some o => (o.after.all fun e => !Region.binds .any e || decide (e.on < i)) && (match o.dst with | some d => decide (d < size) && ((List.range l.length).all fun j => j == i || (match l[j]? with | some oj => oj.dst != some d | none => true)) | none => true)
  |none => true)
theorem relForm_edge {size i : Nat} {o : Oper} (h : relForm l size = true) (ho : l[i]? = some o) : ∀ e ∈ o.after, Region.binds .any e = true → e.on < i := by
 intro e he hb
 unfold relForm at h
 have h1 := List.all_eq_true.1 h i (List.mem_range.2 (List.getElem?_eq_some_iff.1 ho).1)
 rw [ho] at h1
 simp only [Bool.and_eq_true] at h1
 have h2 := Array.all_eq_true_iff_forall_mem.1 h1.1 e he
 rw [hb] at h2
 simpa using h2
theorem relForm_dst {size i d : Nat} {o : Oper} (h : relForm l size = true) (ho : l[i]? = some o) (hd : o.dst = some d) : d < size ∧ ∀ j oj, l[j]? = some oj → j ≠ i → oj.dst ≠ some d := by
 unfold relForm at h
 have h1 := List.all_eq_true.1 h i (List.mem_range.2 (List.getElem?_eq_some_iff.1 ho).1)
 rw [ho] at h1
 simp only [Bool.and_eq_true, hd] at h1
 refine ⟨by simpa using h1.2.1, fun j oj hj hne he => ?_⟩
 have h2 := List.all_eq_true.1 h1.2.2 j (List.mem_range.2 (List.getElem?_eq_some_iff.1 hj).1)
 rw [hj] at h2
 simp [hne, he] at h2
theorem put_getD_same {a : Act} {d : Nat} {v : Value} (h : d < a.tmps.size) : (a.put (some d) v).tmps.getD d undef = v := by
 simp [Act.put, h]
theorem put_getD_other {a : Act} {dst : Option Nat} {t : Nat} {v : Value} (h : dst ≠ some t) : (a.put dst v).tmps.getD t undef = a.tmps.getD t undef := by
 cases dst with
 |none => rfl
 |some d =>
  have : d ≠ t := fun e => h (by rw [e])
  simp [Act.put, this]
theorem put_size (a : Act) (dst : Option Nat) (v : Value) : (a.put dst v).tmps.size = a.tmps.size := by
 cases dst <;> simp [Act.put]
theorem put_defers (a : Act) (dst : Option Nat) (v : Value) : (a.put dst v).defers = a.defers := by
 cases dst <;> rfl
structure RelInv (l : List Oper) (Ss : List (World → Value → Prop)) (C : World → Prop) (a0 : Act) (listed : Array Bool) (a : Act) (w : World) : Prop where
 size : listed.size = l.length
 defers : a.defers = a0.defers
 tmps : a.tmps.size = a0.tmps.size
 done : ∀ j o S, l[j]? = some o → Ss[j]? = some S → listed.getD j false = true → S w (valOf o a)
 same : ∀ t, (∀ o ∈ l, o.dst ≠ some t) → a.tmps.getD t undef = a0.tmps.getD t undef
 cls : C w
def unlisted (listed : Array Bool) : Nat := (listed.toList.filter (fun b => !b)).length
theorem unlisted_set {listed : Array Bool} {i : Nat} (hi : i < listed.size) (h : listed.getD i true = false) : unlisted (listed.setIfInBounds i true) + 1 = unlisted listed := by
 unfold unlisted
 rw [Array.toList_setIfInBounds]
 have h1 : listed.toList[i]? = some false := by
  rw [Array.getElem?_toList]
  simp [hi] at h ⊢
  exact h
 generalize listed.toList = L at h1
 clear h hi
 induction L generalizing i with
 |nil => simp at h1
 |cons b r ih =>
  cases i with
  |zero =>
   simp at h1
   subst h1
   simp
  |succ i =>
   simp at h1
   have := ih h1
   cases b <;> simp <;> omega
theorem unlisted_zero {listed : Array Bool} (h : unlisted listed = 0) : ∀ j, j < listed.size → listed.getD j false = true := by
 intro j hj
 unfold unlisted at h
 have h1 := List.filter_eq_nil_iff.1 (List.eq_nil_of_length_eq_zero h) listed[j] (by simp)
 simp [hj]
 simpa using h1
theorem rel_any {Ss : List (World → Value → Prop)} {C : World → Prop} {R : World → World → Prop} {a0 : Act} {Q : Exit → Act → World → Prop} (hl : Ss.length = l.length) (hform : relForm l a0.tmps.size = true)
  (stab : ∀ S ∈ Ss, ∀ w w' v, C w → R w w' → S w v → S w' v) (rel : ∀ i, i < l.length → RelOp P l Ss C R a0 i)
  (fin : ∀ a w listed, RelInv l Ss C a0 listed a w → (∀ j, j < l.length → listed.getD j false = true) → Q .normal a w) :
  ∀ (fuel : Nat) (listed : Array Bool) (a : Act) (w : World), unlisted listed = fuel → RelInv l Ss C a0 listed a w → wpAny P .any l.toArray Q fuel listed a w := by
 intro fuel
 induction fuel with
 |zero =>
  intro listed a w hu inv
  have hall := unlisted_zero hu
  rw [inv.size] at hall
  refine ⟨?_, fin a w listed inv hall⟩
  apply List.eq_nil_iff_forall_not_mem.2
  intro j hj
  obtain ⟨h1, o, ho, _⟩ := mem_ready.1 hj
  have hlt : j < l.length := by simpa using (Array.getElem?_eq_some_iff.1 ho).1
  have h2 := hall j hlt
  have hls : j < listed.size := by rw [inv.size]; exact hlt
  simp [hls] at h1 h2
  rw [h1] at h2
  cases h2
 |succ fuel ih =>
  intro listed a w hu inv
  refine ⟨fun hr => ?_, fun i hi => ?_⟩
  ·-- something is ready as long as not all is listed
   exfalso
   have hex : ∃ j, j < l.length ∧ listed.getD j false = false := by
    by_cases hex : ∃ j, j < l.length ∧ listed.getD j false = false
    ·exact hex
    ·exfalso
     have hall : ∀ j, j < l.length → listed.getD j false = true := fun j hj => by
      cases h : listed.getD j false
      ·exact absurd ⟨j, hj, h⟩ hex
      ·rfl
     have : unlisted listed = 0 := by
      unfold unlisted
      rw [List.length_eq_zero_iff, List.filter_eq_nil_iff]
      intro b hb
      obtain ⟨j, hj, rfl⟩ := List.getElem_of_mem hb
      have hj' : j < listed.size := by simpa using hj
      have := hall j (by rw [← inv.size]; exact hj')
      simp [hj'] at this ⊢
      exact this
     omega
   obtain ⟨j, hj, hleast⟩ : ∃ j, (j < l.length ∧ listed.getD j false = false) ∧ ∀ k, k < j → ¬ (k < l.length ∧ listed.getD k false = false) := by
    obtain ⟨j0, h0⟩ := hex
    induction j0 using Nat.strongRecOn with
    |_ n ih2 =>
     by_cases hk : ∃ k, k < n ∧ (k < l.length ∧ listed.getD k false = false)
     ·obtain ⟨k, hk1, hk2⟩ := hk
      exact ih2 k hk1 hk2
     ·exact ⟨n, h0, fun k hk1 hk2 => hk ⟨k, hk1, hk2⟩⟩
   have hjs : j < listed.size := by rw [inv.size]; exact hj.1
   have : j ∈ Region.ready .any l.toArray listed := by
    refine mem_ready.2 ⟨by have := hj.2; simp [hjs] at this ⊢; exact this, l[j], by simp [hj.1], fun e he hb => ?_⟩
    have hlt := relForm_edge hform (List.getElem?_eq_getElem hj.1) e he hb
    cases h : listed.getD e.on false
    ·exact absurd ⟨by omega, h⟩ (hleast e.on hlt)
    ·rfl
   rw [hr] at this
   cases this
  ·obtain ⟨h1, o, ho, hpre⟩ := mem_ready.1 hi
   have ho' : l[i]? = some o := by simpa using ho
   have hlt : i < l.length := (List.getElem?_eq_some_iff.1 ho').1
   have hls : i < listed.size := by rw [inv.size]; exact hlt
   obtain ⟨S, hS⟩ : ∃ S, Ss[i]? = some S := ⟨Ss[i]'(by omega), List.getElem?_eq_getElem (by omega)⟩
   have hr := rel i hlt o S ho' hS a w inv.cls inv.tmps inv.same (fun e he hb oe Se hoe hSe => inv.done e.on oe Se hoe hSe (hpre e he hb))
   have hnext : ∀ v w2, C w2 → (∀ S' ∈ Ss, ∀ v, S' w v → S' w2 v) → S w2 (match o.dst with | some _ => v | none => undef) → wpAny P .any l.toArray Q fuel (listed.setIfInBounds i true) (a.put o.dst v) w2 := by
    intro v w2 hC hst hv
    refine ih _ _ _ (by have := unlisted_set hls h1; omega) ⟨by simp [inv.size], by rw [put_defers]; exact inv.defers, by rw [put_size]; exact inv.tmps, ?_, ?_, hC⟩
    ·intro j oj Sj hj hSj hlj
     by_cases hij : i = j
     ·subst hij
      rw [ho'] at hj; cases hj
      rw [hS] at hSj; cases hSj
      unfold valOf
      cases hd : o.dst with
      |none => rw [hd] at hv; exact hv
      |some d =>
       rw [hd] at hv
       simp only
       rw [put_getD_same (by rw [inv.tmps]; exact (relForm_dst hform ho' hd).1)]
       exact hv
     ·rw [getD_set_ne false hij] at hlj
      have h2 := hst Sj (List.mem_of_getElem? hSj) _ (inv.done j oj Sj hj hSj hlj)
      have : valOf oj (a.put o.dst v) = valOf oj a := by
       unfold valOf
       cases hdj : oj.dst with
       |none => rfl
       |some d =>
        simp only
        refine put_getD_other fun hd => ?_
        exact (relForm_dst hform ho' hd).2 j oj hj (Ne.symm hij) hdj
      rw [this]
      exact h2
    ·intro t ht
     rw [put_getD_other (ht o (List.mem_of_getElem? ho'))]
     exact inv.same t ht
   unfold wpOp
   simp only [ho]
   split
   ·rename_i hw
    rw [if_pos hw] at hr
    refine Or.inl (wp_mono_both (fun a2 w2 h => ?_) (fun _ _ _ h => h.elim) hr)
    obtain ⟨v, rfl, hC, hR, hv⟩ := h
    exact hnext v w2 hC (fun S' hS' v hv => stab S' hS' w w2 v inv.cls hR hv) hv
   ·rename_i hw
    rw [if_neg hw] at hr
    refine hnext undef w inv.cls (fun _ _ _ h => h) ?_
    cases o.dst <;> exact hr
theorem putAll_size : ∀ (l : List Oper) (vs : List Value) (a : Act), (putAll l vs a).tmps.size = a.tmps.size
 |[], _, _ => rfl
 |_ :: _, [], _ => rfl
 |o :: l, v :: vs, a => by unfold putAll; rw [putAll_size l vs, put_size]
theorem putAll_defers : ∀ (l : List Oper) (vs : List Value) (a : Act), (putAll l vs a).defers = a.defers
 |[], _, _ => rfl
 |_ :: _, [], _ => rfl
 |o :: l, v :: vs, a => by unfold putAll; rw [putAll_defers l vs, put_defers]
theorem putAll_other : ∀ (l : List Oper) (vs : List Value) (a : Act) (t : Nat), (∀ o ∈ l, o.dst ≠ some t) → (putAll l vs a).tmps.getD t undef = a.tmps.getD t undef
 |[], _, _, _, _ => rfl
 |_ :: _, [], _, _, _ => rfl
 |o :: l, v :: vs, a, t, h => by
  unfold putAll
  rw [putAll_other l vs _ t (fun o' ho' => h o' (by simp [ho'])), put_getD_other (h o (by simp))]
theorem putAll_at : ∀ (l : List Oper) (vs : List Value) (a : Act), vs.length = l.length → (∀ (i j : Nat) oi oj d, l[i]? = some oi → l[j]? = some oj → oi.dst = some d → oj.dst = some d → i = j) → (∀ o ∈ l, ∀ d, o.dst = some d → d < a.tmps.size) →
  ∀ (i : Nat) (o : Oper) (v : Value) (d : Nat), l[i]? = some o → vs[i]? = some v → o.dst = some d → (putAll l vs a).tmps.getD d undef = v
 |[], _, _, _, _, _, i, _, _, _, h, _, _ => by simp at h
 |_ :: _, [], _, hl, _, _, _, _, _, _, _, _, _ => by simp at hl
 |o :: l, v :: vs, a, hl, hd, hs, i, o', v', d, ho, hv, hod => by
  unfold putAll
  cases i with
  |zero =>
   simp at ho hv
   subst ho; subst hv
   rw [putAll_other l vs _ d (fun o' ho' he => by
    obtain ⟨j, hj, rfl⟩ := List.getElem_of_mem ho'
    have := hd 0 (j + 1) o l[j] d rfl (by simp [hj]) hod he
    omega), hod]
   exact put_getD_same (hs o (by simp) d hod)
  |succ i =>
   simp at ho hv
   exact putAll_at l vs (a.put o.dst v) (by simpa using hl) (fun i j oi oj d hi hj h1 h2 => by
    have := hd (i + 1) (j + 1) oi oj d (by simpa using hi) (by simpa using hj) h1 h2
    omega) (fun o' ho' d' hd' => by rw [put_size]; exact hs o' (by simp [ho']) d' hd') i o' v' d ho hv hod
def relAll (w : World) : List (World → Value → Prop) → List Value → Prop
 |S :: Ss, v :: vs => S w v ∧ relAll w Ss vs
 |[], [] => True
 |_, _ => False
theorem relAll_of {w : World} : ∀ {Ss : List (World → Value → Prop)} {vs : List Value}, vs.length = Ss.length → (∀ (i : Nat) (S : World → Value → Prop) (v : Value), Ss[i]? = some S → vs[i]? = some v → S w v) → relAll w Ss vs
 |[], [], _, _ => trivial
 |[], _ :: _, h, _ => by simp at h
 |_ :: _, [], h, _ => by simp at h
 |S :: Ss, v :: vs, h, k => ⟨k 0 S v rfl rfl, relAll_of (by simpa using h) (fun i S' v' h1 h2 => k (i + 1) S' v' (by simpa using h1) (by simpa using h2))⟩
theorem wp_region_rel {id : Nat} {Q : Exit → Act → World → Prop} {a0 : Act} {w0 : World} (Ss : List (World → Value → Prop)) (C : World → Prop) (R : World → World → Prop)
  (hm : P.follows .mixedOrders = true) (hl : Ss.length = l.length) (hform : relForm l a0.tmps.size = true) (hC : C { w0 with drawn := w0.drawn + 1 })
  (stab : ∀ S ∈ Ss, ∀ w w' v, C w → R w w' → S w v → S w' v) (rel : ∀ i, i < l.length → RelOp P l Ss C R a0 i)
  (fin : ∀ vs w, C w → relAll w Ss vs → Q .normal (putAll l vs a0) w) : (Code.region id l.toArray true).wp P Q a0 w0 := by
 refine wp_region_any hm (rel_any hl hform stab rel ?_ _ _ _ _ (by simp [unlisted]) ⟨by simp, rfl, rfl, ?_, fun _ _ => rfl, hC⟩)
 ·intro a w listed inv hall
  have hvs := fin (l.map (fun o => valOf o a)) w inv.cls (relAll_of (by simp [hl]) (fun i S v h1 h2 => by
   rw [List.getElem?_map] at h2
   cases ho : l[i]? with
   |none => rw [ho] at h2; cases h2
   |some o =>
    rw [ho] at h2
    simp only [Option.map_some, Option.some.injEq] at h2
    rw [← h2]
    exact inv.done i o S ho h1 (hall i (List.getElem?_eq_some_iff.1 ho).1)))
  have : putAll l (l.map (fun o => valOf o a)) a0 = a := by
   have hdef : (putAll l (l.map (fun o => valOf o a)) a0).defers = a.defers := by rw [putAll_defers, inv.defers]
   have htm : (putAll l (l.map (fun o => valOf o a)) a0).tmps = a.tmps := by
    have hsz : (putAll l (l.map (fun o => valOf o a)) a0).tmps.size = a.tmps.size := by rw [putAll_size, inv.tmps]
    refine Array.ext hsz fun t h1 h2 => ?_
    have hg : (putAll l (l.map (fun o => valOf o a)) a0).tmps.getD t undef = a.tmps.getD t undef := by
     by_cases hex : ∃ o ∈ l, o.dst = some t
     ·obtain ⟨o, ho, hd⟩ := hex
      obtain ⟨i, hi, hio⟩ := List.getElem_of_mem ho
      have hio' : l[i]? = some o := by rw [List.getElem?_eq_getElem hi, hio]
      rw [putAll_at l _ a0 (by simp) (fun i j oi oj d hi hj h1 h2 => by
       by_cases hij : i = j
       ·exact hij
       ·exact absurd h2 ((relForm_dst hform hi h1).2 j oj hj (Ne.symm hij))) (fun o' ho' d hd' => by
       obtain ⟨k, hk, hko⟩ := List.getElem_of_mem ho'
       exact (relForm_dst hform (by rw [List.getElem?_eq_getElem hk, hko]) hd').1) i o (valOf o a) t hio' (by rw [List.getElem?_map, hio']; rfl) hd]
      unfold valOf
      rw [hd]
     ·have hex' : ∀ o ∈ l, o.dst ≠ some t := fun o ho hd => hex ⟨o, ho, hd⟩
      rw [putAll_other l _ a0 t hex', inv.same t hex']
    simpa [h1, h2] using hg
   cases a
   cases h : putAll l (l.map (fun o => valOf o _)) a0
   rw [h] at hdef htm
   simp only at hdef htm
   rw [hdef, htm]
  rw [this] at hvs
  exact hvs
 ·intro j o S _ _ h
  exfalso
  rcases Nat.lt_or_ge j l.length with h' | h'
  ·simp [h'] at h
  ·simp [h'] at h
def eqV (x : Value) : World → Value → Prop := fun _ v => v = x
def depOK (l : List Oper) (i j t : Nat) : Bool := match l[i]?, l[j]? with
 |some o, some oj => (o.after.any fun e => Region.binds .any e && e.on == j) && oj.dst == some t
 |_, _ => false
def freeOK (l : List Oper) (t : Nat) : Bool := l.all fun o => o.dst != some t
structure RelAt (l : List Oper) (Ss : List (World → Value → Prop)) (a0 : Act) (i : Nat) (a : Act) (w : World) : Prop where
 size : a.tmps.size = a0.tmps.size
 dep : ∀ (j t : Nat) (S : World → Value → Prop), depOK l i j t = true → Ss[i - 1 - j]? = some S → S w (a.tmps[t]?.getD undef)
 free : ∀ (t : Nat) (v : Value), freeOK l t = true → a0.tmps.getD t undef = v → a.tmps[t]?.getD undef = v
def RelOpP (P : Program) (l : List Oper) (done : List (World → Value → Prop)) (S : World → Value → Prop) (C : World → Prop) (R : World → World → Prop) (a0 : Act) (i : Nat) : Prop :=
 ∀ o, l[i]? = some o → ∀ (a : Act) (w : World), C w → RelAt l done a0 i a w →
  if Region.wanted o (yielded l.toArray a.tmps) = true then o.wp P a w (fun a2 w2 => ∃ v, a2 = a.put o.dst v ∧ C w2 ∧ R w w2 ∧ S w2 (match o.dst with | some _ => v | none => undef)) (fun _ _ _ => False) else S w undef
theorem relAt_of {Ss : List (World → Value → Prop)} {a0 : Act} {i : Nat} {a : Act} {w : World} {o : Oper} (ho : l[i]? = some o) (h1 : a.tmps.size = a0.tmps.size) (h2 : ∀ t, (∀ o ∈ l, o.dst ≠ some t) → a.tmps.getD t undef = a0.tmps.getD t undef)
  (h3 : ∀ e ∈ o.after, Region.binds .any e = true → ∀ oe Se, l[e.on]? = some oe → Ss[i - 1 - e.on]? = some Se → Se w (valOf oe a)) : RelAt l Ss a0 i a w := by
 refine ⟨h1, fun j t S hd hS => ?_, fun t v hf hv => ?_⟩
 ·unfold depOK at hd
  rw [ho] at hd
  cases hj : l[j]? with
  |none => rw [hj] at hd; cases hd
  |some oj =>
   rw [hj] at hd
   simp only [Bool.and_eq_true, beq_iff_eq] at hd
   obtain ⟨e, he, hb⟩ := Array.any_eq_true'.1 hd.1
   simp only [Bool.and_eq_true, beq_iff_eq] at hb
   obtain ⟨hb1, rfl⟩ := hb
   have := h3 e he hb1 oj S hj hS
   unfold valOf at this
   rw [hd.2] at this
   simpa using this
 ·have := h2 t (fun o ho' => by simpa using List.all_eq_true.1 hf o ho')
  rw [hv] at this
  simpa using this
def stabAll (C : World → Prop) (R : World → World → Prop) : List (World → Value → Prop) → Prop
 |[] => True
 |S :: Ss => (∀ w w' v, C w → R w w' → S w v → S w' v) ∧ stabAll C R Ss
theorem stab_of {C : World → Prop} {R : World → World → Prop} : ∀ {Ss : List (World → Value → Prop)}, stabAll C R Ss → ∀ S ∈ Ss, ∀ w w' v, C w → R w w' → S w v → S w' v
 |[], _, S, hS => by cases hS
 |T :: Ss, h, S, hS => by
  rcases List.mem_cons.1 hS with rfl | hS
  ·exact h.1
  ·exact stab_of h.2 S hS
theorem stab_val (x : Value) {C : World → Prop} {R : World → World → Prop} {Ss : List (World → Value → Prop)} (h : stabAll C R Ss) : stabAll C R (eqV x :: Ss) := ⟨fun _ _ _ _ _ h => h, h⟩
def relEx (P : Program) (l : List Oper) (C : World → Prop) (R : World → World → Prop) (a0 : Act) (F : Act → World → Prop) : Nat → List (World → Value → Prop) → Nat → Prop
 |_, done, 0 => stabAll C R done ∧ ∀ w, C w → ∀ vs, relAll w done.reverse vs → F (putAll l vs a0) w
 |i, done, n + 1 => ∃ S, RelOpP P l done S C R a0 i ∧ relEx P l C R a0 F (i + 1) (S :: done) n
theorem stab_mem {C : World → Prop} {R : World → World → Prop} : ∀ {Ss Ts : List (World → Value → Prop)}, (∀ S ∈ Ts, S ∈ Ss) → stabAll C R Ss → ∀ S ∈ Ts, ∀ w w' v, C w → R w w' → S w v → S w' v :=
 fun hm h S hS => stab_of h S (hm S hS)
theorem relEx_out {C : World → Prop} {R : World → World → Prop} {a0 : Act} {F : Act → World → Prop} (hform : relForm l a0.tmps.size = true) : ∀ (n i : Nat) (done : List (World → Value → Prop)), relEx P l C R a0 F i done n → done.length = i → i + n = l.length →
  ∃ Ss, (∃ r, Ss = done.reverse ++ r) ∧ Ss.length = l.length ∧ (∀ S ∈ Ss, ∀ w w' v, C w → R w w' → S w v → S w' v) ∧ (∀ vs w, C w → relAll w Ss vs → F (putAll l vs a0) w) ∧ ∀ k, i ≤ k → k < l.length → RelOp P l Ss C R a0 k
 |0, i, done, h, h1, h2 => ⟨done.reverse, ⟨[], by simp⟩, by simp; omega, stab_mem (fun S hS => by simpa using hS) h.1, fun vs w hC => h.2 w hC vs, fun k h3 h4 => by omega⟩
 |n + 1, i, done, h, h1, h2 => by
  obtain ⟨S, hop, hrest⟩ := h
  obtain ⟨Ss, ⟨r, hr⟩, g1, g2, g3, g4⟩ := relEx_out hform n (i + 1) (S :: done) hrest (by simp [h1]) (by omega)
  rw [List.reverse_cons] at hr
  refine ⟨Ss, ⟨[S] ++ r, by rw [hr, List.append_assoc]⟩, g1, g2, g3, fun k h3 h4 => ?_⟩
  by_cases e : k = i
  ·subst e
   intro o S' ho hS' a w hC k1 k2 k3
   have hS : Ss[k]? = some S := by rw [hr, List.append_assoc, List.getElem?_append_right (by simp; omega)]; simp [h1]
   rw [hS] at hS'; cases hS'
   refine hop o ho a w hC (relAt_of ho k1 k2 fun e he hb oe Se hoe hSe => k3 e he hb oe Se hoe ?_)
   have hlt := relForm_edge hform ho e he hb
   rw [hr, List.append_assoc, List.getElem?_append_left (by simp; omega), List.getElem?_reverse (by omega), h1]
   exact hSe
  ·exact g4 k (by omega) h4
theorem wp_region_each {id : Nat} {Q : Exit → Act → World → Prop} {a0 : Act} {w0 : World} (C : World → Prop) (R : World → World → Prop)
  (hm : P.follows .mixedOrders = true) (hform : relForm l a0.tmps.size = true) (hC : C { w0 with drawn := w0.drawn + 1 })
  (h : relEx P l C R a0 (fun a w => Q .normal a w) 0 [] l.length) : (Code.region id l.toArray true).wp P Q a0 w0 := by
 obtain ⟨Ss, _, g1, g2, g3, g4⟩ := relEx_out hform l.length 0 [] h rfl (by omega)
 exact wp_region_rel Ss C R hm g1 hform hC g2 (fun i hi => g4 i (Nat.zero_le _) hi) g3
theorem wp_region_calm {id : Nat} {Q : Exit → Act → World → Prop} {a0 : Act} {w0 : World} (hm : P.follows .mixedOrders = true) (hform : relForm l a0.tmps.size = true)
  (h : relEx P l (fun w' => Fp [] w0 w') (Fp []) a0 (fun a w => Q .normal a w) 0 [] l.length) : (Code.region id l.toArray true).wp P Q a0 w0 :=
 wp_region_each _ _ hm hform (Fp.drew w0) h
theorem ex_plain {C : World → Prop} {R : World → World → Prop} {a0 : Act} {F : Act → World → Prop} {i n : Nat} {done : List (World → Value → Prop)} {o : Oper} {x : Value} (ho : l[i]? = some o) (hg : o.guard = none) (hd : o.dst.isSome = true)
  (h : ∀ a w, C w → RelAt l done a0 i a w → ∀ K : Act → World → Prop, (∀ w2, C w2 → R w w2 → K (a.put o.dst x) w2) → o.wp P a w K (fun _ _ _ => False))
  (hn : relEx P l C R a0 F (i + 1) (eqV x :: done) n) : relEx P l C R a0 F i done (n + 1) := by
 refine ⟨eqV x, ?_, hn⟩
 intro o' ho' a w hC hA
 rw [ho] at ho'; cases ho'
 have hw : Region.wanted o (yielded l.toArray a.tmps) = true := by unfold Region.wanted; rw [hg]
 rw [if_pos hw]
 refine h a w hC hA _ fun w2 c r => ⟨x, rfl, c, r, ?_⟩
 cases hd' : o.dst with
 |none => rw [hd'] at hd; cases hd
 |some d => rfl
theorem ex_some {C : World → Prop} {R : World → World → Prop} {a0 : Act} {F : Act → World → Prop} {i n : Nat} {done : List (World → Value → Prop)} {o : Oper} (S : World → Value → Prop) (ho : l[i]? = some o) (hg : o.guard = none) (hd : o.dst.isSome = true)
  (h : ∀ a w, C w → RelAt l done a0 i a w → ∀ K : Act → World → Prop, (∀ v w2, C w2 → R w w2 → S w2 v → K (a.put o.dst v) w2) → o.wp P a w K (fun _ _ _ => False))
  (hn : relEx P l C R a0 F (i + 1) (S :: done) n) : relEx P l C R a0 F i done (n + 1) := by
 refine ⟨S, ?_, hn⟩
 intro o' ho' a w hC hA
 rw [ho] at ho'; cases ho'
 have hw : Region.wanted o (yielded l.toArray a.tmps) = true := by unfold Region.wanted; rw [hg]
 rw [if_pos hw]
 refine h a w hC hA _ fun v w2 c r s => ⟨v, rfl, c, r, ?_⟩
 cases hd' : o.dst with
 |none => rw [hd'] at hd; cases hd
 |some d => exact s
theorem ex_effect {C : World → Prop} {R : World → World → Prop} {a0 : Act} {F : Act → World → Prop} {i n : Nat} {done : List (World → Value → Prop)} {o : Oper} (S : World → Prop) (ho : l[i]? = some o) (hg : o.guard = none)
  (h : ∀ a w, C w → RelAt l done a0 i a w → ∀ K : Act → World → Prop, (∀ v w2, C w2 → R w w2 → S w2 → K (a.put o.dst v) w2) → o.wp P a w K (fun _ _ _ => False))
  (hn : relEx P l C R a0 F (i + 1) ((fun w _ => S w) :: done) n) : relEx P l C R a0 F i done (n + 1) := by
 refine ⟨fun w _ => S w, ?_, hn⟩
 intro o' ho' a w hC hA
 rw [ho] at ho'; cases ho'
 have hw : Region.wanted o (yielded l.toArray a.tmps) = true := by unfold Region.wanted; rw [hg]
 rw [if_pos hw]
 exact h a w hC hA _ fun v w2 c r s => ⟨v, rfl, c, r, s⟩
theorem yielded_of {a : Act} {j t : Nat} {oj : Oper} {b : Bool} (hj : l[j]? = some oj) (hd : oj.dst = some t) (h : a.tmps.getD t undef = .bool b) : yielded l.toArray a.tmps j = some b := by
 unfold yielded
 have h1 : l.toArray[j]? = some oj := by simpa using hj
 rw [h1]
 simp only [Option.bind_some, hd]
 rcases Nat.lt_or_ge t a.tmps.size with hlt | hge
 ·simp [hlt] at h ⊢
  rw [h]
 ·simp [hge] at h
  cases h
theorem ex_yes {C : World → Prop} {R : World → World → Prop} {a0 : Act} {F : Act → World → Prop} {i n : Nat} {done : List (World → Value → Prop)} {o oj : Oper} {x : Value} {b : Bool} (j t : Nat) (ho : l[i]? = some o) (hg : o.guard = some (j, b)) (hoj : l[j]? = some oj) (hdj : oj.dst = some t)
  (hdep : depOK l i j t = true) (hSj : done[i - 1 - j]? = some (eqV (.bool b))) (hd : o.dst.isSome = true)
  (h : ∀ a w, C w → RelAt l done a0 i a w → ∀ K : Act → World → Prop, (∀ w2, C w2 → R w w2 → K (a.put o.dst x) w2) → o.wp P a w K (fun _ _ _ => False))
  (hn : relEx P l C R a0 F (i + 1) (eqV x :: done) n) : relEx P l C R a0 F i done (n + 1) := by
 refine ⟨eqV x, ?_, hn⟩
 intro o' ho' a w hC hA
 rw [ho] at ho'; cases ho'
 have hy := yielded_of hoj hdj (by have := hA.dep j t _ hdep hSj; simpa [eqV] using this)
 have hw : Region.wanted o (yielded l.toArray a.tmps) = true := by unfold Region.wanted; rw [hg]; simp [hy]
 rw [if_pos hw]
 refine h a w hC hA _ fun w2 c r => ⟨x, rfl, c, r, ?_⟩
 cases hd' : o.dst with
 |none => rw [hd'] at hd; cases hd
 |some d => rfl
theorem ex_no {C : World → Prop} {R : World → World → Prop} {a0 : Act} {F : Act → World → Prop} {i n : Nat} {done : List (World → Value → Prop)} {o oj : Oper} {b want : Bool} (j t : Nat) (ho : l[i]? = some o) (hg : o.guard = some (j, want)) (hoj : l[j]? = some oj) (hdj : oj.dst = some t)
  (hdep : depOK l i j t = true) (hSj : done[i - 1 - j]? = some (eqV (.bool b))) (hne : (want != b) = true)
  (hn : relEx P l C R a0 F (i + 1) (eqV undef :: done) n) : relEx P l C R a0 F i done (n + 1) := by
 refine ⟨eqV undef, ?_, hn⟩
 intro o' ho' a w hC hA
 rw [ho] at ho'; cases ho'
 have hy := yielded_of hoj hdj (by have := hA.dep j t _ hdep hSj; simpa [eqV] using this)
 have hw : ¬ Region.wanted o (yielded l.toArray a.tmps) = true := by
  unfold Region.wanted; rw [hg]; simp [hy]
  intro e; rw [e] at hne; simp at hne
 rw [if_neg hw]
 rfl
theorem relAll_val {w : World} {x : Value} {Ss : List (World → Value → Prop)} {vs : List Value} (h : relAll w (eqV x :: Ss) vs) : ∃ r, vs = x :: r ∧ relAll w Ss r := by
 cases vs with
 |nil => exact h.elim
 |cons v r => obtain ⟨rfl, h2⟩ := h; exact ⟨r, rfl, h2⟩
theorem relAll_some {w : World} {S : World → Value → Prop} {Ss : List (World → Value → Prop)} {vs : List Value} (h : relAll w (S :: Ss) vs) : ∃ v r, vs = v :: r ∧ S w v ∧ relAll w Ss r := by
 cases vs with
 |nil => exact h.elim
 |cons v r => exact ⟨v, r, rfl, h.1, h.2⟩
theorem all_val {w : World} {x : Value} {Ss : List (World → Value → Prop)} {G : List Value → Prop} (h : ∀ r, relAll w Ss r → G (x :: r)) : ∀ vs, relAll w (eqV x :: Ss) vs → G vs := by
 intro vs hv
 obtain ⟨r, rfl, h2⟩ := relAll_val hv
 exact h r h2
theorem all_some {w : World} {S : World → Value → Prop} {Ss : List (World → Value → Prop)} {G : List Value → Prop} (h : ∀ v, S w v → ∀ r, relAll w Ss r → G (v :: r)) : ∀ vs, relAll w (S :: Ss) vs → G vs := by
 intro vs hv
 obtain ⟨v, r, rfl, h1, h2⟩ := relAll_some hv
 exact h v h1 r h2
theorem relAll_nil {w : World} {vs : List Value} (h : relAll w [] vs) : vs = [] := by
 cases vs with
 |nil => rfl
 |cons v r => exact h.elim
theorem all_nil {w : World} {G : List Value → Prop} (h : G []) : ∀ vs, relAll w [] vs → G vs := by
 intro vs hv
 rw [relAll_nil hv]
 exact h
end
section
open Go.RowKit
theorem RelAt.e {l : List Oper} {Ss : List (World → Value → Prop)} {a0 : Act} {i : Nat} {a : Act} {w : World} (h : RelAt l Ss a0 i a w) (j t : Nat) {x : Value} (hs : Ss[i - 1 - j]? = some (eqV x) := by rfl) (hd : depOK l i j t = true := by decide +kernel) : a.tmps[t]?.getD undef = x := h.dep j t (eqV x) hd hs
theorem RelAt.f {l : List Oper} {Ss : List (World → Value → Prop)} {a0 : Act} {i : Nat} {a : Act} {w : World} (h : RelAt l Ss a0 i a w) (t : Nat) {v : Value} (hv : a0.tmps.getD t undef = v := by rfl) (hd : freeOK l t = true := by decide +kernel) : a.tmps[t]?.getD undef = v := h.free t v hd hv
end
section
open Go.RowKit
theorem relAll_snoc {w : World} {S : World → Value → Prop} : ∀ {A : List (World → Value → Prop)} {us : List Value}, relAll w (A ++ [S]) us → ∃ us2 u, us = us2 ++ [u] ∧ relAll w A us2 ∧ S w u
 |[], us, h => by
  obtain ⟨v, r, rfl, h1, h2⟩ := relAll_some h
  have e : r = [] := relAll_nil h2
  subst e
  exact ⟨[], v, rfl, trivial, h1⟩
 |T :: A, us, h => by
  obtain ⟨v, r, rfl, h1, h2⟩ := relAll_some h
  obtain ⟨us2, u, rfl, h3, h4⟩ := relAll_snoc h2
  exact ⟨v :: us2, u, rfl, ⟨h1, h3⟩, h4⟩
def endP (C : World → Prop) (G : World → List Value → Prop) : List (World → Value → Prop) → List Value → Prop
 |[], vs => ∀ w, C w → G w vs
 |S :: Ss, vs => ∃ x, S = eqV x ∧ endP C G Ss (x :: vs)
theorem end_nil {C : World → Prop} {G : World → List Value → Prop} {vs : List Value} (h : ∀ w, C w → G w vs) : endP C G [] vs := h
theorem end_val {C : World → Prop} {G : World → List Value → Prop} {Ss : List (World → Value → Prop)} {x : Value} {vs : List Value} (h : endP C G Ss (x :: vs)) : endP C G (eqV x :: Ss) vs := ⟨x, rfl, h⟩
theorem endP_of {w : World} {C : World → Prop} {G : World → List Value → Prop} (hw : C w) : ∀ {d : List (World → Value → Prop)} {vs : List Value}, endP C G d vs → ∀ us, relAll w d.reverse us → G w (us ++ vs)
 |[], vs, h, us, hu => by
  have e : us = [] := relAll_nil hu
  subst e
  exact h w hw
 |S :: Ss, vs, ⟨x, hx, h⟩, us, hu => by
  subst hx
  rw [List.reverse_cons] at hu
  obtain ⟨us2, u, rfl, h1, h2⟩ := relAll_snoc hu
  rw [List.append_assoc]
  have e : u = x := h2
  subst e
  exact endP_of hw h us2 h1
theorem endP_stab {C : World → Prop} {R : World → World → Prop} {G : World → List Value → Prop} : ∀ {d : List (World → Value → Prop)} {vs : List Value}, endP C G d vs → stabAll C R d
 |[], _, _ => trivial
 |S :: Ss, vs, ⟨x, hx, h⟩ => by subst hx; exact stab_val _ (endP_stab h)
theorem ex_end {P : Program} {l : List Oper} {C : World → Prop} {R : World → World → Prop} {a0 : Act} {F : Act → World → Prop} {i : Nat} {done : List (World → Value → Prop)} (h : endP C (fun w vs => F (putAll l vs a0) w) done []) : relEx P l C R a0 F i done 0 := by
 refine ⟨endP_stab h, fun w hw vs hv => ?_⟩
 have := endP_of hw h vs hv
 rwa [List.append_nil] at this
end
end Go.Proofs.YtkjmgbifoaoefaaGreatDoor
