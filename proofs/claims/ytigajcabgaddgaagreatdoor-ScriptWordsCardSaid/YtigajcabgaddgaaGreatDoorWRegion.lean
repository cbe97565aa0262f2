/-
 A region that draws its order, walked once: each operation says what its value is good for, as long as the world goes on by steps that keep it so. Over any program.
-/
import Derived.Test.YtigajcabgaddgaaGreatDoorWMem
import Derived.Orders
set_option maxRecDepth 100000
set_option maxHeartbeats 8000000
namespace Go.Proofs.YtigajcabgaddgaaGreatDoor
open Go.RowKit
section
variable {P : Program} {l : List Oper}
def valOf (o : Oper) (a : Act) : Value := match o.dst with | some d => a.tmps.getD d undef | none => undef
def putAll : List Oper → List Value → Act → Act
 |o :: l, v :: vs, a => putAll l vs (a.put o.dst v)
 |_, _, a => a
theorem wp_mono_both {o : Oper} {a : Act} {w : World} {K K' : Act → World → Prop} {Q Q' : Exit → Act → World → Prop} (h : ∀ a w, K a w → K' a w) (hq : ∀ e a w, Q e a w → Q' e a w)
  (hh : o.wp P a w K Q) : o.wp P a w K' Q' := by
 unfold Oper.wp at *
 generalize (execOp a.eval o).run P w = r at *
 cases r with
 |ok n w' =>
  cases n <;> simp only [Oper.upon] at hh ⊢
  case value => exact h _ _ hh
  case skip => exact h _ _ hh
  case defer => exact h _ _ hh
  case enter =>
   refine Calls.mono hh (fun e w'' he => ?_)
   cases e
   ·exact h _ _ he
   ·exact hq _ _ _ he
   ·obtain ⟨a0, w0, h0⟩ := he
    exact ⟨a0, w0, hq _ _ _ h0⟩
  case row => exact Rows.mono hh (fun _ _ he => h _ _ he)
 |halt x w' => cases x <;> simp only [Oper.upon] at hh ⊢ <;> first | exact hq _ _ _ hh | exact hh
def relForm (l : List Oper) (size : Nat) : Bool :=
 ((List.range l.length).all fun i => match l[i]? with
  |some o => (o.after.all fun e => !Region.binds .any e || decide (e.on < i)) && (match o.dst with | some d => decide (d < size) && ((List.range l.length).all fun j => j == i || (match l[j]? with | some oj => oj.dst != some d | none => true)) | none => true)
  |none => true)
theorem relForm_edge {size i : Nat} {o : Oper} (h : relForm l size = true) (ho : l[i]? = some o) : ∀ e ∈ o.after, Region.binds .any e = true → e.on < i := by
 intro e he hb
 unfold relForm at h
 have h1 := List.all_eq_true.1 h i (List.mem_range.2 (List.getElem?_eq_some_iff.1 ho).1)
 rw [ho] at h1
 simp only [Bool.and_eq_true] at h1
 have h2 := Array.all_eq_true_iff_forall_mem.1 h1.1 e he
 rw [hb] at h2
 simpa using h2
theorem relForm_dst {size i d : Nat} {o : Oper} (h : relForm l size = true) (ho : l[i]? = some o) (hd : o.dst = some d) : d < size ∧ ∀ j oj, l[j]? = some oj → j ≠ i → oj.dst ≠ some d := by
 unfold relForm at h
 have h1 := List.all_eq_true.1 h i (List.mem_range.2 (List.getElem?_eq_some_iff.1 ho).1)
 rw [ho] at h1
 simp only [Bool.and_eq_true, hd] at h1
 refine ⟨by simpa using h1.2.1, fun j oj hj hne he => ?_⟩
 have h2 := List.all_eq_true.1 h1.2.2 j (List.mem_range.2 (List.getElem?_eq_some_iff.1 hj).1)
 rw [hj] at h2
 simp [hne, he] at h2
theorem put_getD_same {a : Act} {d : Nat} {v : Value} (h : d < a.tmps.size) : (a.put (some d) v).tmps.getD d undef = v := by
 simp [Act.put, h]
theorem put_getD_other {a : Act} {dst : Option Nat} {t : Nat} {v : Value} (h : dst ≠ some t) : (a.put dst v).tmps.getD t undef = a.tmps.getD t undef := by
 cases dst with
 |none => rfl
 |some d =>
  have : d ≠ t := fun e => h (by rw [e])
  simp [Act.put, this]
theorem put_size (a : Act) (dst : Option Nat) (v : Value) : (a.put dst v).tmps.size = a.tmps.size := by
 cases dst <;> simp [Act.put]
theorem put_defers (a : Act) (dst : Option Nat) (v : Value) : (a.put dst v).defers = a.defers := by
 cases dst <;> rfl
def unlisted (listed : Array Bool) : Nat := (listed.toList.filter (fun b => !b)).length
theorem unlisted_set {listed : Array Bool} {i : Nat} (hi : i < listed.size) (h : listed.getD i true = false) : unlisted (listed.setIfInBounds i true) + 1 = unlisted listed := by
 unfold unlisted
 rw [Array.toList_setIfInBounds]
 have h1 : listed.toList[i]? = some false := by
  rw [Array.getElem?_toList]
  simp [hi] at h ⊢
  exact h
 generalize listed.toList = L at h1
 clear h hi
 induction L generalizing i with
 |nil => simp at h1
 |cons b r ih =>
  cases i with
  |zero =>
   simp at h1
   subst h1
   simp
  |succ i =>
   simp at h1
   have := ih h1
   cases b <;> simp <;> omega
theorem unlisted_zero {listed : Array Bool} (h : unlisted listed = 0) : ∀ j, j < listed.size → listed.getD j false = true := by
 intro j hj
 unfold unlisted at h
 have h1 := List.filter_eq_nil_iff.1 (List.eq_nil_of_length_eq_zero h) listed[j] (by simp)
 simp [hj]
 simpa using h1
theorem putAll_size : ∀ (l : List Oper) (vs : List Value) (a : Act), (putAll l vs a).tmps.size = a.tmps.size
 |[], _, _ => rfl
 |_ :: _, [], _ => rfl
 |o :: l, v :: vs, a => by unfold putAll; rw [putAll_size l vs, put_size]
theorem putAll_defers : ∀ (l : List Oper) (vs : List Value) (a : Act), (putAll l vs a).defers = a.defers
 |[], _, _ => rfl
 |_ :: _, [], _ => rfl
 |o :: l, v :: vs, a => by unfold putAll; rw [putAll_defers l vs, put_defers]
theorem putAll_other : ∀ (l : List Oper) (vs : List Value) (a : Act) (t : Nat), (∀ o ∈ l, o.dst ≠ some t) → (putAll l vs a).tmps.getD t undef = a.tmps.getD t undef
 |[], _, _, _, _ => rfl
 |_ :: _, [], _, _, _ => rfl
 |o :: l, v :: vs, a, t, h => by
  unfold putAll
  rw [putAll_other l vs _ t (fun o' ho' => h o' (by simp [ho'])), put_getD_other (h o (by simp))]
theorem putAll_at : ∀ (l : List Oper) (vs : List Value) (a : Act), vs.length = l.length → (∀ (i j : Nat) oi oj d, l[i]? = some oi → l[j]? = some oj → oi.dst = some d → oj.dst = some d → i = j) → (∀ o ∈ l, ∀ d, o.dst = some d → d < a.tmps.size) →
  ∀ (i : Nat) (o : Oper) (v : Value) (d : Nat), l[i]? = some o → vs[i]? = some v → o.dst = some d → (putAll l vs a).tmps.getD d undef = v
 |[], _, _, _, _, _, i, _, _, _, h, _, _ => by simp at h
 |_ :: _, [], _, hl, _, _, _, _, _, _, _, _, _ => by simp at hl
 |o :: l, v :: vs, a, hl, hd, hs, i, o', v', d, ho, hv, hod => by
  unfold putAll
  cases i with
  |zero =>
   simp at ho hv
   subst ho; subst hv
   rw [putAll_other l vs _ d (fun o' ho' he => by
    obtain ⟨j, hj, rfl⟩ := List.getElem_of_mem ho'
    have := hd 0 (j + 1) o l[j] d rfl (by simp [hj]) hod he
    omega), hod]
   exact put_getD_same (hs o (by simp) d hod)
  |succ i =>
   simp at ho hv
   exact putAll_at l vs (a.put o.dst v) (by simpa using hl) (fun i j oi oj d hi hj h1 h2 => by
    have := hd (i + 1) (j + 1) oi oj d (by simpa using hi) (by simpa using hj) h1 h2
    omega) (fun o' ho' d' hd' => by rw [put_size]; exact hs o' (by simp [ho']) d' hd') i o' v' d ho hv hod
def relAll (w : World) : List (World → Value → Prop) → List Value → Prop
 |S :: Ss, v :: vs => S w v ∧ relAll w Ss vs
 |[], [] => True
 |_, _ => False
theorem relAll_of {w : World} : ∀ {Ss : List (World → Value → Prop)} {vs : List Value}, vs.length = Ss.length → (∀ (i : Nat) (S : World → Value → Prop) (v : Value), Ss[i]? = some S → vs[i]? = some v → S w v) → relAll w Ss vs
 |[], [], _, _ => trivial
 |[], _ :: _, h, _ => by simp at h
 |_ :: _, [], h, _ => by simp at h
 |S :: Ss, v :: vs, h, k => ⟨k 0 S v rfl rfl, relAll_of (by simpa using h) (fun i S' v' h1 h2 => k (i + 1) S' v' (by simpa using h1) (by simpa using h2))⟩
def eqV (x : Value) : World → Value → Prop := fun _ v => v = x
def depOK (l : List Oper) (i j t : Nat) : Bool := match l[i]?, l[j]? with
 |some o, some oj => (o.after.any fun e => Region.binds .any e && e.on == j) && oj.dst == some t
 |_, _ => false
theorem relAll_val {w : World} {x : Value} {Ss : List (World → Value → Prop)} {vs : List Value} (h : relAll w (eqV x :: Ss) vs) : ∃ r, vs = x :: r ∧ relAll w Ss r := by
 cases vs with
 |nil => exact h.elim
 |cons v r => obtain ⟨rfl, h2⟩ := h; exact ⟨r, rfl, h2⟩
theorem relAll_some {w : World} {S : World → Value → Prop} {Ss : List (World → Value → Prop)} {vs : List Value} (h : relAll w (S :: Ss) vs) : ∃ v r, vs = v :: r ∧ S w v ∧ relAll w Ss r := by
 cases vs with
 |nil => exact h.elim
 |cons v r => exact ⟨v, r, rfl, h.1, h.2⟩
theorem all_val {w : World} {x : Value} {Ss : List (World → Value → Prop)} {G : List Value → Prop} (h : ∀ r, relAll w Ss r → G (x :: r)) : ∀ vs, relAll w (eqV x :: Ss) vs → G vs := by
 intro vs hv
 obtain ⟨r, rfl, h2⟩ := relAll_val hv
 exact h r h2
theorem all_some {w : World} {S : World → Value → Prop} {Ss : List (World → Value → Prop)} {G : List Value → Prop} (h : ∀ v, S w v → ∀ r, relAll w Ss r → G (v :: r)) : ∀ vs, relAll w (S :: Ss) vs → G vs := by
 intro vs hv
 obtain ⟨v, r, rfl, h1, h2⟩ := relAll_some hv
 exact h v h1 r h2
theorem relAll_nil {w : World} {vs : List Value} (h : relAll w [] vs) : vs = [] := by
 cases vs with
 |nil => rfl
 |cons v r => exact h.elim
theorem all_nil {w : World} {G : List Value → Prop} (h : G []) : ∀ vs, relAll w [] vs → G vs := by
 intro vs hv
 rw [relAll_nil hv]
 exact h
end
section
open Go.RowKit
end
section
open Go.RowKit
end
end Go.Proofs.YtigajcabgaddgaaGreatDoor
