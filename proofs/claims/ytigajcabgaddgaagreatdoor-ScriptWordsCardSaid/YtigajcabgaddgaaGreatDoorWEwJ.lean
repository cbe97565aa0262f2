/-
 A region that draws its order, met by the evaluator's run of it. Code, met by the evaluator's run of it. Ranges over functions, met by the evaluator's run of them; all code. Functions and rounds, met by the evaluator's run of them.
-/
import Derived.Test.YtigajcabgaddgaaGreatDoorWEwE
set_option maxRecDepth 100000
set_option maxHeartbeats 8000000
namespace Go.Proofs.YtigajcabgaddgaaGreatDoor
section
set_option linter.unusedSectionVars false
open Go.RowKit
variable [Val]
theorem tmGet_putT (tm : ET AV) (d : Option Tmp) (v : AV) (t : Nat) : tmGet (eputT tm d v) t = if d = some t then v else tmGet tm t := by
 cases d with
 |none => rw [if_neg (by simp)]; rfl
 |some d =>
  show tmGet (tm.set (d + 1) v) t = _
  rw [tmGet_set]
  by_cases e : t = d
  ·rw [if_pos e, if_pos (by rw [e])]
  ·rw [if_neg e, if_neg (by intro h; cases h; exact e rfl)]
section
variable {P : Program} {G : Globs} {R : ERec} {N : Nat} {l : List Oper} {T : Nat → ET AV} {H : Nat → ET Blk} {X : Nat → Nat} {M : Nat → Nat × Nat}
theorem Trace.at (tr : Trace P G R N l l 0 T H X M) {i : Nat} {o : Oper} (ho : l[i]? = some o) : estep P G R N l (T i) o ⟨H i, X i, 0, 0⟩ = .ok (T (i + 1)) ⟨H (i + 1), X (i + 1), (M i).1, (M i).2⟩ := by
 have := tr.step i o ho
 rwa [Nat.zero_add] at this
theorem Trace.mem (tr : Trace P G R N l l 0 T H X M) (hL : RLoc R) {x p : Nat} : ∀ m, p ≤ m → m ≤ l.length → (∀ j, p ≤ j → j < m → ¬ Bit (M j).2 x) → (H m).get (x + 1) = (H p).get (x + 1) := by
 intro m
 induction m with
 |zero => intro h _ _; rw [Nat.le_zero.1 h]
 |succ m ih =>
  intro h hm hj
  by_cases e : p = m + 1
  ·rw [e]
  ·have ho : l[m]? = some l[m] := List.getElem?_eq_getElem (by omega)
   have l1 := loc_step P hL G N l _ _ _ _ _ (tr.at ho)
   exact (l1.off x (hj m (by omega) (by omega))).trans (ih (by omega) (by omega) fun j h1 h2 => hj j h1 (by omega))
theorem Trace.nx (tr : Trace P G R N l l 0 T H X M) (hL : RLoc R) {p : Nat} : ∀ m, p ≤ m → m ≤ l.length → X p ≤ X m := by
 intro m
 induction m with
 |zero => intro h _; rw [Nat.le_zero.1 h]; exact Nat.le_refl _
 |succ m ih =>
  intro h hm
  by_cases e : p = m + 1
  ·rw [e]; exact Nat.le_refl _
  ·have ho : l[m]? = some l[m] := List.getElem?_eq_getElem (by omega)
   exact Nat.le_trans (ih (by omega) (by omega)) (loc_step P hL G N l _ _ _ _ _ (tr.at ho)).nx
theorem Trace.slot (tr : Trace P G R N l l 0 T H X M) {t p : Nat} : ∀ m, p ≤ m → m ≤ l.length → (∀ j oj, p ≤ j → j < m → l[j]? = some oj → oj.dst ≠ some t) → tmGet (T m) t = tmGet (T p) t := by
 intro m
 induction m with
 |zero => intro h _ _; rw [Nat.le_zero.1 h]
 |succ m ih =>
  intro h hm hj
  by_cases e : p = m + 1
  ·rw [e]
  ·have ho : l[m]? = some l[m] := List.getElem?_eq_getElem (by omega)
   obtain ⟨-, g, v, -, h1, -⟩ := step_parts (tr.at ho)
   rw [h1, tmGet_putT, if_neg (hj m _ (by omega) (by omega) ho)]
   exact ih (by omega) (by omega) fun j oj h1 h2 => hj j oj h1 (by omega)
end
theorem ERel.same {P : Program} {w0 w : World} {ρ : ERho} {hp hq : ET Blk} (h : ERel P w0 ρ hp w) (e : ∀ x, hq.get (x + 1) = hp.get (x + 1)) : ERel P w0 ρ hq w :=
 ⟨h.fp, fun i b hb => h.blk i b ((e i).symm.trans hb), fun i j b c r q hb hc => h.inj i j b c r q ((e i).symm.trans hb) ((e j).symm.trans hc)⟩
theorem getD_set_self {listed : Array Bool} {i : Nat} (h : i < listed.size) : (listed.setIfInBounds i true).getD i false = true := by
 simp [h]
structure Way (P : Program) (w0 : World) (ρ : ERho) (l : List Oper) (T : Nat → ET AV) (H : Nat → ET Blk) (X : Nat → Nat) (M : Nat → Nat × Nat) (D : Nat → Prop) (σ : ERho) (tD : ET AV) (hD : ET Blk) (ts : Array Value) (w : World) : Prop where
 tr : TR σ tD ts
 rel : ERel P w0 σ hD w
 le : ELe ρ σ
 off : ∀ x, (∀ j, j < l.length → D j → ¬ (X j ≤ x ∧ x < X (j + 1))) → σ x = ρ x
 slot : ∀ t m, m ≤ l.length → (∀ j oj, l[j]? = some oj → D j → m ≤ j → oj.dst ≠ some t) → (∀ j oj, l[j]? = some oj → ¬ D j → j < m → oj.dst ≠ some t) → tmGet tD t = tmGet (T m) t
 mem : ∀ x m, m ≤ l.length → (∀ j, j < l.length → D j → m ≤ j → ¬ Bit (M j).2 x) → (∀ j, ¬ D j → j < m → ¬ Bit (M j).2 x) → hD.get (x + 1) = (H m).get (x + 1)
 closed : ∀ k o, l[k]? = some o → D k → ∀ e ∈ o.after, Region.binds .any e = true → D e.on
theorem draw_ok {P : Program} {w0 : World} {ρ : ERho} {R : ERec} (hR : RSound P w0 R) (hL : RLoc R) {G : Globs} (hG : GlobR w0 G) {F : Fence} (hF : Fen F) {n N : Nat} {l : List Oper} {tm tm' : ET AV} {s s' : ESt} (h : edraw P G R N l tm s = .ok tm' s')
  {a : Act} (ht : TR ρ tm a.tmps) (hn : a.tmps.size = N) {w : World} (hw : ERel P w0 ρ s.hp w) (hf : ∀ j, s.nx ≤ j → j < s'.nx → ρ j = none) {Q : Exit → Act → World → Prop}
  (hK : ∀ σ a' w', EExt ρ σ s.nx s'.nx → ERel P w0 σ s'.hp w' → TR σ tm' a'.tmps → a'.tmps.size = N → a'.defers = a.defers → Q .normal a' w') :
  wpAnyIn F n P .any l.toArray Q l.toArray.size (Array.replicate l.toArray.size false) a w := by
 unfold edraw at h
 cases hform : eform l N with
 |false => rw [hform] at h; exact (efail_ok (e := [91]) (s := s) h).elim
 |true =>
  rw [hform] at h
  have hrel : relForm l N = true := by
   unfold eform at hform
   rw [Bool.and_eq_true] at hform
   exact hform.1
  obtain ⟨T, H, X, M, e1, e2, e3, e4, e5, e6, -, tr⟩ := draws_trace l 0 [] tm s tm' s' h rfl
  rw [Nat.zero_add] at e4 e5 e6
  have uniq : ∀ {i j : Nat} {o oj : Oper} {t : Tmp}, l[i]? = some o → l[j]? = some oj → o.dst = some t → oj.dst = some t → i = j := fun {i j o oj t} ho hj h1 h2 => by
   by_cases e : j = i
   ·exact e.symm
   ·exact absurd h2 ((relForm_dst hrel ho h1).2 j oj hj e)
  have aparts : ∀ {i j : Nat} {o oj : Oper}, l[i]? = some o → l[j]? = some oj → i ≠ j → ¬ Bef l i j → ¬ Bef l j i → ∀ x, Bit (M j).2 x → ¬ (Bit (M i).1 x ∨ Bit (M i).2 x) := fun {i j o oj} ho hj hne h1 h2 x hx hi => by
   rcases Nat.lt_or_gt_of_ne hne with hlt | hlt
   ·rcases tr.apart j oj hj i (by omega) with h3 | ⟨h3, h4⟩
    ·rw [Nat.zero_add] at h3; exact h2 h3
    ·rw [Nat.zero_add] at h3 h4
     exact h3 x hx hi
   ·rcases tr.apart i o ho j (by omega) with h3 | ⟨h3, h4⟩
    ·rw [Nat.zero_add] at h3; exact h1 h3
    ·rw [Nat.zero_add] at h3 h4
     rcases hi with hi | hi
     ·exact h4 x hi hx
     ·exact h3 x hi (Or.inr hx)
  refine any_sched (N := N) hrel (fun listed a' w' => a'.tmps.size = N ∧ a'.defers = a.defers ∧ ∃ σ tD hD, Way P w0 ρ l T H X M (fun k => listed.getD k false = true) σ tD hD a'.tmps w') ?_ ?_ _ _ _ _ ?_ (by simp) ⟨hn, rfl, ρ, tm, s.hp, ?_⟩
  ·rintro listed a1 w1 i o hsz ⟨hn1, hd1, σ, tD, hD, wy⟩ ho hnot hpre K hnext
   have hi : i < l.length := (List.getElem?_eq_some_iff.1 ho).1
   have hnD : ¬ listed.getD i false = true := by rw [hnot]; simp
   have bdone : ∀ j, Bef l i j → listed.getD j false = true := fun j hb => bef_done hrel (fun k => listed.getD k false = true) wy.closed i j o ho hpre hb
   have bnot : ∀ j oj, l[j]? = some oj → listed.getD j false = true → ¬ Bef l j i := fun j oj hj hDj hb => hnD (bef_done hrel (fun k => listed.getD k false = true) wy.closed j i oj hj (fun e he hbe => wy.closed j oj hj hDj e he hbe) hb)
   have hst := tr.at ho
   have l1 := loc_step P hL G N l _ _ _ _ _ hst
   have agree : ∀ x, (Bit (M i).1 x ∨ Bit (M i).2 x) → hD.get (x + 1) = (H i).get (x + 1) := fun x hx => wy.mem x i (by omega) (fun j hj hDj hij hb => by
     have hj' : l[j]? = some l[j] := List.getElem?_eq_getElem hj
     have hne : i ≠ j := fun e => by subst e; exact hnD hDj
     refine aparts ho hj' hne (fun h => ?_) (bnot j _ hj' hDj) x hb hx
     have := bef_lt hrel i j o ho h
     omega) fun j hDj hij hb => by
     have hj' : l[j]? = some l[j] := List.getElem?_eq_getElem (by omega)
     exact aparts ho hj' (by omega) (fun h => hDj (bdone j h)) (fun h => by have := bef_lt hrel j i _ hj' h; omega) x hb hx
   have slots : ∀ t, t ∈ eslots o ++ eguardSlot l o → tmGet (T i) t = tmGet tD t := fun t htm => (wy.slot t i (by omega) (fun j oj hj hDj hij hd => by
     rcases form_slot hform ho hj htm hd with h1 | h1 | h1
     ·subst h1; exact hnD hDj
     ·have := bef_lt hrel i j o ho h1
      omega
     ·exact bnot j oj hj hDj h1) fun j oj hj hDj hij hd => by
     rcases form_slot hform ho hj htm hd with h1 | h1 | h1
     ·omega
     ·exact hDj (bdone j h1)
     ·have := bef_lt hrel j i oj hj h1
      omega).symm
   obtain ⟨hp', r1, r2, r3⟩ := l1.run hD (fun x hx => agree x (Or.inl hx)) (fun x hx => agree x (Or.inr hx))
   obtain ⟨hdN, v, hTv, hst2⟩ := step_same (tD := tD) r1 (fun x hx => by
     cases x with
     |tmp t => exact slots t (List.mem_append_left _ (List.mem_filterMap.2 ⟨.tmp t, by simpa using hx, rfl⟩))
     |_ => rfl) (by
     unfold ewant
     cases hg : o.guard with
     |none => rfl
     |some jb =>
      obtain ⟨j, b⟩ := jb
      simp only
      cases hj : l[j]? with
      |none => rfl
      |some oj =>
       simp only
       cases hd : oj.dst with
       |none => rfl
       |some d =>
        simp only
        rw [slots d (List.mem_append_right _ (by unfold eguardSlot; rw [hg]; simp [hj, hd]))])
   have fresh : ∀ j, X i ≤ j → j < X (i + 1) → σ j = none := fun j h1 h2 => by
    rw [wy.off j fun k hk hDk hr => ?_]
    ·refine hf j ?_ ?_
     ·rw [← e3]; exact Nat.le_trans (tr.nx hL i (by omega) (by omega)) h1
     ·rw [← e6]; exact Nat.lt_of_lt_of_le h2 (tr.nx hL l.length (by omega) (Nat.le_refl _))
    ·have hne : k ≠ i := fun e => by subst e; exact hnD hDk
     rcases Nat.lt_or_gt_of_ne hne with hlt | hlt
     ·have := tr.nx hL (p := k + 1) i (by omega) (by omega)
      omega
     ·have := tr.nx hL (p := i + 1) k (by omega) (by omega)
      omega
   have hls : i < listed.size := by rw [hsz]; exact hi
   have dset : ∀ k, (listed.setIfInBounds i true).getD k false = true ↔ k = i ∨ listed.getD k false = true := fun k => by
    by_cases e : k = i
    ·subst e
     exact ⟨fun _ => Or.inl rfl, fun _ => getD_set_self hls⟩
    ·rw [getD_set_ne false (Ne.symm e)]
     exact ⟨fun h => Or.inr h, fun h => h.resolve_left e⟩
   refine step_ok hR hG hF ho hst2 wy.tr hn1 wy.rel fresh fun τ x w2 he hw2 ht2 => hnext _ _ ⟨by rw [put_size]; exact hn1, by rw [put_defers]; exact hd1, τ, _, hp', ht2, hw2, wy.le.trans he.1, fun y hy => ?_, fun t m hm hh1 hh2 => ?_, fun y m hm hh1 hh2 => ?_, fun k ok hk hDk e he2 hb => ?_⟩
   ·rw [he.2 y (hy i hi ((dset i).2 (Or.inl rfl)))]
    exact wy.off y fun j hj hDj => hy j hj ((dset j).2 (Or.inr hDj))
   ·rw [tmGet_putT]
    by_cases ed : o.dst = some t
    ·rw [if_pos ed]
     have him : i < m := by
      by_cases hlt : i < m
      ·exact hlt
      ·exact absurd ed (hh1 i o ho ((dset i).2 (Or.inl rfl)) (by omega))
     have := tr.slot (t := t) (p := i + 1) m (by omega) hm fun j oj h1 h2 hj hd => by
      have := uniq ho hj ed hd
      omega
     rw [this, hTv, tmGet_putT, if_pos ed]
    ·rw [if_neg ed]
     refine wy.slot t m hm (fun j oj hj hDj => hh1 j oj hj ((dset j).2 (Or.inr hDj))) fun j oj hj hDj hlt hd => ?_
     by_cases e : j = i
     ·subst e
      rw [ho] at hj
      cases hj
      exact ed hd
     ·exact hh2 j oj hj (fun h => ((dset j).1 h).elim e hDj) hlt hd
   ·by_cases hb : Bit (M i).2 y
    ·rw [r2 y hb]
     have him : i < m := by
      by_cases hlt : i < m
      ·exact hlt
      ·exact absurd hb (hh1 i hi ((dset i).2 (Or.inl rfl)) (by omega))
     refine (tr.mem hL (p := i + 1) m (by omega) hm fun j h1 h2 hbj => ?_).symm
     have hj' : l[j]? = some l[j] := List.getElem?_eq_getElem (by omega)
     by_cases hDj : listed.getD j false = true
     ·refine aparts ho hj' (by omega) (fun h => ?_) (bnot j _ hj' hDj) y hbj (Or.inr hb)
      have := bef_lt hrel i j o ho h
      omega
     ·exact hh2 j (fun h => ((dset j).1 h).elim (by omega) hDj) h2 hbj
    ·rw [r3 y hb]
     refine wy.mem y m hm (fun j hj hDj => hh1 j hj ((dset j).2 (Or.inr hDj))) fun j hDj hlt => ?_
     by_cases e : j = i
     ·subst e; exact hb
     ·exact hh2 j (fun h => ((dset j).1 h).elim e hDj) hlt
   ·rcases (dset k).1 hDk with e1 | e1
    ·subst e1
     rw [ho] at hk
     cases hk
     exact (dset _).2 (Or.inr (hpre e he2 hb))
    ·exact (dset _).2 (Or.inr (wy.closed k ok hk e1 e he2 hb))
  ·rintro listed a1 w1 hsz ⟨hn1, hd1, σ, tD, hD, wy⟩ hall
   have hm : ∀ x, s'.hp.get (x + 1) = hD.get (x + 1) := fun x => by
    rw [← e5]
    refine (wy.mem x l.length (Nat.le_refl _) (fun j hj _ hlt => absurd hj (by omega)) fun j hDj hlt => absurd (hall j hlt) hDj).symm
   have hs : ∀ t, tmGet tm' t = tmGet tD t := fun t => by
    rw [← e4]
    refine (wy.slot t l.length (Nat.le_refl _) (fun j oj hj _ hlt => absurd (List.getElem?_eq_some_iff.1 hj).1 (by omega)) fun j oj hj hDj hlt => absurd (hall j hlt) hDj).symm
   refine hK σ a1 w1 ⟨wy.le, fun j hj => wy.off j fun k hk _ hr => ?_⟩ (wy.rel.same hm) (fun t => by rw [hs]; exact wy.tr t) hn1 hd1
   have h1 := tr.nx hL (p := 0) k (by omega) (by omega)
   have h2 := tr.nx hL (p := k + 1) l.length (by omega) (Nat.le_refl _)
   omega
  ·rw [unlisted]
   simp
  ·have no : ∀ (p : Prop) k, (Array.replicate l.toArray.size false).getD k false = true → p := fun p k h => by
    exfalso
    simp only [Array.getD_eq_getD_getElem?, Array.getElem?_replicate] at h
    split at h <;> simp at h
   refine ⟨ht, hw, ELe.refl _, fun _ _ => rfl, fun t m hm _ hh => ?_, fun x m hm _ hh => ?_, fun k o _ h => no _ k h⟩
   ·rw [← e1]
    refine (tr.slot (p := 0) m (by omega) hm fun j oj _ hlt hj => hh j oj hj (fun h => no _ j h) hlt).symm
   ·rw [← e2]
    exact (tr.mem hL (p := 0) m (by omega) hm fun j _ hlt => hh j (fun h => no _ j h) hlt).symm
end
section
set_option linter.unusedSectionVars false
open Go.RowKit
variable [Val]
section
variable {P : Program} {w0 : World}
theorem ops_ok {R : ERec} (hR : RSound P w0 R) (hL : RLoc R) {G : Globs} (hG : GlobR w0 G) {F : Fence} (hF : Fen F) {n N : Nat} {l : List Oper} {Q : Exit → Act → World → Prop} {d : List Deferred} {tm' : ET AV} {s' : ESt} :
  ∀ (r : List Oper) (i : Nat) (ρ : ERho) (tm : ET AV) (s : ESt) (a : Act) (w : World), l.drop i = r → eops P G R N l r tm s = .ok tm' s' → TR ρ tm a.tmps → a.tmps.size = N → a.defers = d → ERel P w0 ρ s.hp w → (∀ j, s.nx ≤ j → j < s'.nx → ρ j = none) →
  (∀ σ a' w', EExt ρ σ s.nx s'.nx → ERel P w0 σ s'.hp w' → TR σ tm' a'.tmps → a'.tmps.size = N → a'.defers = d → Q .normal a' w') → wpOpsIn F n P l.toArray Q (List.range' i r.length) a w
 |[], i, ρ, tm, s, a, w, _, h, ht, hn, hd, hw, hf, hK => by
  obtain ⟨rfl, rfl⟩ := epure_ok (a := tm) h
  exact hK ρ a w (EExt.refl _ _ _) hw ht hn hd
 |o :: r, i, ρ, tm, s, a, w, hr, h, ht, hn, hd, hw, hf, hK => by
  obtain ⟨tm1, s1, h1, h2⟩ := ebind_ok (m := estep P G R N l tm o) (f := eops P G R N l r) h
  have l1 := loc_step P hL G N l _ _ _ _ _ h1
  have l2 := loc_ops P hL G N l r tm1 _ _ _ h2
  have ho : l[i]? = some o := by
   have := congrArg (·[0]?) hr
   simpa using this
  have hr' : l.drop (i + 1) = r := by
   rw [← List.tail_drop, hr]
   rfl
  rw [List.length_cons, List.range'_succ, wpOpsIn_cons]
  refine step_ok hR hG hF ho h1 ht hn hw (fun j a b => hf j a (Nat.lt_of_lt_of_le b l2.nx)) fun σ x w1 he hw1 ht1 => ?_
  refine ops_ok hR hL hG hF r (i + 1) σ tm1 s1 _ w1 hr' h2 ht1 (by rw [put_size]; exact hn) (by rw [put_defers]; exact hd) hw1 (fun j a b => ?_) fun τ a' w' he' hw' ht' hn' hd' => hK τ a' w' (he.trans he' l1.nx l2.nx) hw' ht' hn' hd'
  rw [he.2 j (by omega)]
  exact hf j (Nat.le_trans l1.nx a) b
inductive DM (ρ : ERho) : List AV → List Deferred → Prop
 |nil : DM ρ [] []
 |cons (d : Nat) (q : RI) (mk : List AV) (ds : List Deferred) (h : ρ d = some q) (hs : DM ρ mk ds) : DM ρ (.yl d :: mk) ({ target := .collected q.b, args := #[] } :: ds)
 |call (f : FuncId) (l y : List AV) (xs ys : List Value) (mk : List AV) (ds : List Deferred) (hx : VRs ρ l xs) (hy : VRs ρ y ys) (hs : DM ρ mk ds) : DM ρ (.fn f l y :: mk) ({ target := .fn (.func f) ys.toArray, args := xs.toArray } :: ds)
theorem DM.up {ρ σ : ERho} (hl : ELe ρ σ) : ∀ {mk : List AV} {ds : List Deferred}, DM ρ mk ds → DM σ mk ds
 |_, _, .nil => .nil
 |_, _, .cons d q mk ds h hs => .cons d q mk ds (hl d q h) (hs.up hl)
 |_, _, .call f l y xs ys mk ds hx hy hs => .call f l y xs ys mk ds (hx.up hl) (hy.up hl) (hs.up hl)
theorem DM.none {ρ : ERho} {ds : List Deferred} (h : DM ρ [] ds) : ds = [] := by
 generalize hm : ([] : List AV) = m at h
 cases h with
 |nil => rfl
 |_ => cases hm
def exitO : EOut → Exit
 |.nm => .normal
 |.ex i => .exit i
 |.rt => .ret
def COK (P : Program) (w0 : World) (F : Fence) (n N : Nat) (c : Code) (m : EM ERun) (tm : ET AV) (mk : List AV) : Prop :=
 ∀ s r s', m s = .ok r s' → ∀ ρ a w, TR ρ tm a.tmps → a.tmps.size = N → DM ρ mk a.defers → ERel P w0 ρ s.hp w → (∀ j, s.nx ≤ j → j < s'.nx → ρ j = none) →
  ∀ Q : Exit → Act → World → Prop, (∀ σ a' w', EExt ρ σ s.nx s'.nx → ERel P w0 σ s'.hp w' → TR σ r.tm a'.tmps → a'.tmps.size = N → DM σ r.ms a'.defers → Q (exitO r.o) a' w') → c.wpIn F n P Q a w
theorem stepD_cases (G : Globs) (R : ERec) (N : Nat) (l : List Oper) (tm : ET AV) (mk : List AV) (o : Oper) : (∃ c, o.op = .defer c) ∨ estepD P G R N l tm mk o = ebind (estep P G R N l tm o) fun tm' => epure (tm', mk) := by
 obtain ⟨dst, op, type, pos, after, guard⟩ := o
 cases op <;> first | exact Or.inr rfl | exact Or.inl ⟨_, rfl⟩
theorem stepD_defer {G : Globs} {R : ERec} {N : Nat} {l : List Oper} {tm : ET AV} {mk : List AV} {o : Oper} {c : Call} (hc : o.op = .defer c) {s s' : ESt} {x : ET AV × List AV} (h : estepD P G R N l tm mk o s = .ok x s') :
  o.guard = none ∧ ebind (edefer tm c) (fun d => ebind (eput1 N tm o.dst .un) fun tm' => epure (tm', d :: mk)) s = .ok x s' := by
 obtain ⟨dst, op, type, pos, after, guard⟩ := o
 cases hc
 cases guard with
 |none => exact ⟨rfl, h⟩
 |some g => exact (efail_ok (e := [79]) (s := s) h).elim
theorem stepD_ok {R : ERec} (hR : RSound P w0 R) {G : Globs} (hG : GlobR w0 G) {n N : Nat} {l : List Oper} {i : Nat} {o : Oper} (hi : l[i]? = some o) {ρ : ERho} {tm : ET AV} {mk : List AV} {x : ET AV × List AV} {s s' : ESt} (h : estepD P G R N l tm mk o s = .ok x s')
  {a : Act} (ht : TR ρ tm a.tmps) (hn : a.tmps.size = N) (hd : DM ρ mk a.defers) {w : World} (hw : ERel P w0 ρ s.hp w) (hf : ∀ j, s.nx ≤ j → j < s'.nx → ρ j = none) {K : Act → World → Prop} {Q : Exit → Act → World → Prop}
  (hK : ∀ σ a' w', EExt ρ σ s.nx s'.nx → ERel P w0 σ s'.hp w' → TR σ x.1 a'.tmps → a'.tmps.size = N → DM σ x.2 a'.defers → K a' w') : wpOpIn Fence.wide n P l.toArray Q i K a w := by
 rcases stepD_cases (P := P) G R N l tm mk o with ⟨c, hc⟩ | he
 ·obtain ⟨hg, h⟩ := stepD_defer hc h
  ·obtain ⟨d, s1, h1, h2⟩ := ebind_ok (s := s) h
   obtain ⟨tm', s2, h3, h4⟩ := ebind_ok h2
   obtain ⟨rfl, rfl⟩ := epure_ok h4
   obtain ⟨rfl, rfl, hlt⟩ := eput1_ok h3
   unfold edefer at h1
   cases hcl : c.callee with
   |value f =>
    rw [hcl] at h1
    simp only at h1
    have hv := evO_vr ht f
    obtain ⟨fv, hfv⟩ : ∃ fv, evO tm f = fv := ⟨_, rfl⟩
    obtain ⟨fx, hfx⟩ : ∃ fx, a.eval f = fx := ⟨_, rfl⟩
    rw [hfv, hfx] at hv
    rw [hfv] at h1
    cases hv with
    |fn k lx ly xs ys hx hy =>
     obtain ⟨rfl, rfl⟩ := epure_ok (s := s) h1
     unfold wpOpIn
     rw [List.getElem?_toArray, hi]
     simp only
     have hwant : Region.wanted o (yielded l.toArray a.tmps) = true := by
      unfold Region.wanted
      rw [hg]
     rw [hwant]
     refine ⟨fun f _ => trivial, ?_⟩
     have hsem : (o.semAt Fence.wide.round a.eval).run P w = .ok (.defer { target := .fn (.func k) ys.toArray, args := xs.toArray ++ c.args.map a.eval }) w := by
      show (execOp a.eval o).run P w = _
      unfold execOp
      rw [hc]
      simp only [resolve, hcl, hfx, Deferred.ofValue]
      rfl
     rw [hsem]
     rw [Oper.uponIn_defer]
     have hargs := args_vrs ht c.args
     refine hK ρ _ w (EExt.refl _ _ _) hw (ht.putT (a := { a with defers := _ :: a.defers }) hn hlt .un) (by rw [put_size]; exact hn) ?_
     rw [put_defers]
     have hxa : VRs ρ (lapp lx (lmap (evO tm) c.args.toList)) (xs ++ (c.args.map a.eval).toList) := by rw [lapp_eq]; exact hx.append hargs
     have := DM.call k _ ly _ ys mk a.defers hxa hy hd
     rw [show (xs ++ (c.args.map a.eval).toList).toArray = xs.toArray ++ c.args.map a.eval from by apply Array.ext'; simp] at this
     exact this
    |_ => exact (efail_ok (e := [78]) (s := s) h1).elim
   |_ => rw [hcl] at h1; exact (efail_ok (e := [78]) (s := s) h1).elim
 ·rw [he] at h
  obtain ⟨tm', s1, h1, h2⟩ := ebind_ok (s := s) h
  obtain ⟨rfl, rfl⟩ := epure_ok h2
  exact step_ok hR hG (Or.inl rfl) hi h1 ht hn hw hf fun σ x w1 hx hw1 ht1 => hK σ _ w1 hx hw1 ht1 (by rw [put_size]; exact hn) (by rw [put_defers]; exact hd.up hx.1)
theorem opsD_ok {R : ERec} (hR : RSound P w0 R) (hL : RLoc R) {G : Globs} (hG : GlobR w0 G) {n N : Nat} {l : List Oper} {Q : Exit → Act → World → Prop} {y : ET AV × List AV} {s' : ESt} :
  ∀ (r : List Oper) (i : Nat) (ρ : ERho) (tm : ET AV) (mk : List AV) (s : ESt) (a : Act) (w : World), l.drop i = r → eopsD P G R N l r tm mk s = .ok y s' → TR ρ tm a.tmps → a.tmps.size = N → DM ρ mk a.defers → ERel P w0 ρ s.hp w → (∀ j, s.nx ≤ j → j < s'.nx → ρ j = none) →
  (∀ σ a' w', EExt ρ σ s.nx s'.nx → ERel P w0 σ s'.hp w' → TR σ y.1 a'.tmps → a'.tmps.size = N → DM σ y.2 a'.defers → Q .normal a' w') → wpOpsIn Fence.wide n P l.toArray Q (List.range' i r.length) a w
 |[], i, ρ, tm, mk, s, a, w, _, h, ht, hn, hd, hw, hf, hK => by
  obtain ⟨rfl, rfl⟩ := epure_ok (a := (tm, mk)) h
  exact hK ρ a w (EExt.refl _ _ _) hw ht hn hd
 |o :: r, i, ρ, tm, mk, s, a, w, hr, h, ht, hn, hd, hw, hf, hK => by
  obtain ⟨x, s1, h1, h2⟩ := ebind_ok (m := estepD P G R N l tm mk o) (f := fun x => eopsD P G R N l r x.1 x.2) h
  have l1 := loc_stepD P hL G N l _ _ _ _ _ _ h1
  have l2 := loc_opsD P hL G N l r x.1 x.2 _ _ _ h2
  have ho : l[i]? = some o := by
   have := congrArg (·[0]?) hr
   simpa using this
  have hr' : l.drop (i + 1) = r := by
   rw [← List.tail_drop, hr]
   rfl
  rw [List.length_cons, List.range'_succ, wpOpsIn_cons]
  refine stepD_ok hR hG ho h1 ht hn hd hw (fun j a b => hf j a (Nat.lt_of_lt_of_le b l2.nx)) fun σ a1 w1 he hw1 ht1 hn1 hd1 => ?_
  refine opsD_ok hR hL hG r (i + 1) σ x.1 x.2 s1 a1 w1 hr' h2 ht1 hn1 hd1 hw1 (fun j a b => ?_) fun τ a' w' he' hw' ht' hn' hd' => hK τ a' w' (he.trans he' l1.nx l2.nx) hw' ht' hn' hd'
  rw [he.2 j (by omega)]
  exact hf j (Nat.le_trans l1.nx a) b
theorem cok_region {R : ERec} (hR : RSound P w0 R) (hL : RLoc R) {G : Globs} (hG : GlobR w0 G) (hm : P.follows .mixedOrders = true) {F : Fence} (hF : Fen F) {n N : Nat} (id : Nat) (ops : Array Oper) (inr draw : Bool) (hi : inr = false → F = Fence.wide) (tm : ET AV) (mk : List AV) :
  COK P w0 F n N (.region id ops draw) (eregion P G R N inr draw ops.toList tm mk) tm mk := by
 intro s r s' h ρ a w ht hn hd hw hf Q hK
 unfold eregion at h
 cases draw with
 |false =>
  refine wpIn_region ?_
  cases hb : iand (Bool.not inr) (ehasD ops.toList) with
  |false =>
   rw [hb] at h
   obtain ⟨tm', s1, h1, h2⟩ := ebind_ok (s := s) h
   obtain ⟨rfl, rfl⟩ := epure_ok h2
   have := ops_ok hR hL hG hF (n := n) (Q := Q) (l := ops.toList) (d := a.defers) ops.toList 0 ρ tm s a w rfl h1 ht hn rfl hw hf fun σ a' w' he hw' ht' hn' hd' => hK σ a' w' he hw' ht' hn' (by rw [hd']; exact hd.up he.1)
   rw [← List.range_eq_range'] at this
   exact this
  |true =>
   rw [hb] at h
   rw [iand_eq, Bool.and_eq_true] at hb
   obtain rfl := hi (by simpa using hb.1)
   obtain ⟨x, s1, h1, h2⟩ := ebind_ok (s := s) h
   obtain ⟨rfl, rfl⟩ := epure_ok h2
   have := opsD_ok hR hL hG (n := n) (Q := Q) (l := ops.toList) ops.toList 0 ρ tm mk s a w rfl h1 ht hn hd hw hf fun σ a' w' he hw' ht' hn' hd' => hK σ a' w' he hw' ht' hn' hd'
   rw [← List.range_eq_range'] at this
   exact this
 |true =>
  obtain ⟨tm', s1, h1, h2⟩ := ebind_ok (s := s) h
  obtain ⟨rfl, rfl⟩ := epure_ok h2
  refine wpIn_region_any hm ?_
  have := draw_ok hR hL hG hF (n := n) (Q := Q) h1 ht hn hw.drew hf fun σ a' w' he hw' ht' hn' hd' => hK σ a' w' he hw' ht' hn' (by rw [hd']; exact hd.up he.1)
  exact this
theorem wpIn_loop_k {F : Fence} {n : Nat} {c : Code} {Q : Exit → Act → World → Prop} (J : Nat → Act → World → Prop) (hr : ∀ k a w, J k a w → ∃ j, k = j + 1 ∧ c.wpIn F n P (Exit.then (J j) Q) a w) {k : Nat} {a : Act} {w : World} (h0 : J k a w) : (Code.loop c).wpIn F n P Q a w := by
 intro b kk cs hro hb hroom
 have key : ∀ k a w, J k a w → ∃ e a' w', Q e a' w' ∧ ArrivesIn (Machine.fenced P F) P (lone (b.atR a (.code c :: .inLoop c :: kk)) cs w) b kk cs e a' w' := by
  intro k
  induction k with
  |zero =>
   intro a w h
   obtain ⟨j, h1, _⟩ := hr 0 a w h
   cases h1
  |succ k ih =>
   intro a w h
   obtain ⟨j, h1, h2⟩ := hr _ a w h
   cases h1
   obtain ⟨e, a1, w1, hq, harr⟩ := h2 b (.inLoop c :: kk) cs hro hb hroom
   cases e with
   |normal =>
    obtain ⟨e2, a2, w2, hq2, harr2⟩ := ih a1 w1 hq
    exact ⟨e2, a2, w2, hq2, .of_steps (StepsIn.trans harr (.one (fenced_calm hb hroom rfl) stepR_inLoop)) harr2⟩
   |exit id => exact ⟨_, a1, w1, hq, .pass (x := .inLoop c) rfl (fun _ _ => .inl (by simp)) harr⟩
   |goto l => exact ⟨_, a1, w1, hq, .pass (x := .inLoop c) rfl (fun _ _ => .inl (by simp)) harr⟩
   |ret => exact ⟨_, a1, w1, hq, .pass (x := .inLoop c) rfl (fun _ _ => .inl (by simp)) harr⟩
   |panic ch => exact ⟨_, a1, w1, hq, .pass (x := .inLoop c) rfl (fun _ _ => .inl (by simp)) harr⟩
   |outgrown => exact ⟨_, a1, w1, hq, .pass (x := .inLoop c) rfl (fun _ _ => .inl (by simp)) harr⟩
 obtain ⟨e, a', w', hq, harr⟩ := key k a w h0
 exact ⟨e, a', w', hq, .of_steps (.one (fenced_calm hb hroom rfl) stepR_loop) harr⟩
theorem cok_loop {F : Fence} {n N : Nat} {c : Code} {body : ET AV → List AV → EM ERun} (hl : ∀ tm mk, Loc (body tm mk)) (hb : ∀ tm mk, COK P w0 F n N c (body tm mk) tm mk) (k : Nat) (tm : ET AV) (mk : List AV) :
  COK P w0 F n N (.loop c) (eloop body k tm mk) tm mk := by
 intro s r s' h ρ a w ht hn hd hw hf Q hK
 refine wpIn_loop_k (fun k a1 w1 => ∃ σ tm1 mk1 s1, eloop body k tm1 mk1 s1 = .ok r s' ∧ EExt ρ σ s.nx s1.nx ∧ s.nx ≤ s1.nx ∧ ERel P w0 σ s1.hp w1 ∧ TR σ tm1 a1.tmps ∧ a1.tmps.size = N ∧ DM σ mk1 a1.defers) ?_ (k := k)
  ⟨ρ, tm, mk, s, h, EExt.refl _ _ _, Nat.le_refl _, hw, ht, hn, hd⟩
 rintro k a1 w1 ⟨σ, tm1, mk1, s1, h1, he1, hx1, hw1, ht1, hn1, hd1⟩
 cases k with
 |zero => exact (efail_ok (e := [95]) (s := s1) h1).elim
 |succ k =>
  refine ⟨k, rfl, ?_⟩
  obtain ⟨r2, s2, h2, h3⟩ := ebind_ok (m := body tm1 mk1) h1
  have l2 := hl tm1 mk1 _ _ _ h2
  have hnx : s2.nx ≤ s'.nx := by
   cases hro : r2.o with
   |nm => rw [hro] at h3; exact (loc_loop hl k _ _ _ _ _ h3).nx
   |_ => rw [hro] at h3; obtain ⟨_, rfl⟩ := epure_ok (a := r2) h3; exact Nat.le_refl _
  refine hb tm1 mk1 s1 r2 s2 h2 σ a1 w1 ht1 hn1 hd1 hw1 (fun j h4 h5 => ?_) _ fun τ a2 w2 he2 hw2 ht2 hn2 hd2 => ?_
  ·rw [he1.2 j (by omega)]
   exact hf j (by omega) (by omega)
  ·have he := he1.trans he2 hx1 l2.nx
   cases hro : r2.o with
   |nm =>
    rw [hro] at h3
    exact ⟨τ, r2.tm, r2.ms, s2, h3, he, Nat.le_trans hx1 l2.nx, hw2, ht2, hn2, hd2⟩
   |ex i =>
    rw [hro] at h3
    obtain ⟨rfl, rfl⟩ := epure_ok (a := r2) h3
    have := hK τ a2 w2 he hw2 ht2 hn2 hd2
    rw [hro] at this
    exact this
   |rt =>
    rw [hro] at h3
    obtain ⟨rfl, rfl⟩ := epure_ok (a := r2) h3
    have := hK τ a2 w2 he hw2 ht2 hn2 hd2
    rw [hro] at this
    exact this
end
end
section
set_option linter.unusedSectionVars false
open Go.RowKit
variable [Val]
section
variable {P : Program} {w0 : World}
def REnt (P : Program) (R : ERec) : Prop := ∀ f l s v s', R.en f = true → R.fn f l s = .ok v s' → ∀ args w, (callFunc f args).run P w = .ok (.enter f args) w
theorem turn_put {w : World} {g : Nat} {o0 : Obj} (h : w.heap[g]? = some o0) (o : Obj) : Turn g o w (w.putObj g o) := ⟨⟨rfl, rfl, rfl, by simp, fun k _ hk => World.putObj_heap_other (by simpa using hk)⟩, by simp, World.putObj_heap_same (heap_lt h)⟩
theorem stOf_busy {st : Nat} (h : Nat.beq st 1 = false) : stOf st ≠ .busy := by
 match st, h with
 |0, _ => intro e; cases e
 |2, _ => intro e; cases e
 |(n + 3), _ => intro e; cases e
theorem cok_range {R : ERec} (hR : RSound P w0 R) (hE : REnt P R) (hL : RLoc R) {n N : Nat} (f : FuncId) (g : Operand) (ps : Array Tmp) (assign body : Code) (tm : ET AV) (mk : List AV) :
  COK P w0 Fence.wide n N (.rangeFunc g ps assign body) (erangeFunc R f N false g ps.toList assign body tm mk) tm mk := by
 intro s r s' h ρ a w ht hn hd hw hf Q hK
 unfold erangeFunc at h
 have hg := evO_vr ht g
 obtain ⟨gv, hgv⟩ : ∃ gv, evO tm g = gv := ⟨_, rfl⟩
 obtain ⟨gx, hgx⟩ : ∃ gx, a.eval g = gx := ⟨_, rfl⟩
 rw [hgv, hgx] at hg
 rw [hgv] at h
 cases hg with
 |fn k x y xs ys hx hy =>
  obtain ⟨hen, h⟩ := ecase_ok (s := s) h
  obtain ⟨d, s1, h1, h2⟩ := ebind_ok (s := s) h
  obtain ⟨l, s2, h3, h4⟩ := ebind_ok h2
  obtain ⟨v, s3, h5, h6⟩ := ebind_ok h4
  obtain ⟨b, s4, h7, h8⟩ := ebind_ok h6
  have n1 := (loc_new _ _ _ _ h1).nx
  have n2 := (loc_new _ _ _ _ h3).nx
  have n3 := (hL.fn _ _ _ _ _ h5).nx
  obtain ⟨hb, rfl⟩ := eget_ok h7
  have hi1 := enew_ok h1
  have hi2 := enew_ok h3
  have hend : ∃ (st : Nat) (j : Option (Option Nat)) (f' : FuncId) (tm' : ET AV) (n' : Nat) (ps' : List Nat) (a' b' : Code) (d' : Nat), b = .lp st j f' tm' n' ps' a' b' d' ∧ Nat.beq st 1 = false ∧ s'.hp = s3.hp.set (l + 1) (.lp 3 j f' tm' n' ps' a' b' d') ∧ s'.nx = s3.nx ∧
    r = (match j with | none => ⟨.nm, tm, .yl d :: mk⟩ | some none => ⟨.rt, tm, .yl d :: mk⟩ | some (some i) => ⟨.ex i, tm, .yl d :: mk⟩) := by
   cases b with
   |lp st j f' tm' n' ps' a' b' d' =>
    simp only at h8
    cases hst : Nat.beq st 1 with
    |true => rw [hst] at h8; exact (efail_ok (e := [92]) h8).elim
    |false =>
     rw [hst] at h8
     obtain ⟨u, s5, h9, h10⟩ := ebind_ok (m := eset l (.lp 3 j f' tm' n' ps' a' b' d')) (f := fun _ => ejump ⟨.nm, tm, .yl d :: mk⟩ j) h8
     have h11 := eset_ok h9
     subst h11
     refine ⟨_, _, _, _, _, _, _, _, _, rfl, hst, ?_⟩
     cases j with
     |none => obtain ⟨rfl, rfl⟩ := epure_ok (a := (⟨.nm, tm, .yl d :: mk⟩ : ERun)) h10; exact ⟨rfl, rfl, rfl⟩
     |some j => cases j with
      |none => obtain ⟨rfl, rfl⟩ := epure_ok (a := (⟨.rt, tm, .yl d :: mk⟩ : ERun)) h10; exact ⟨rfl, rfl, rfl⟩
      |some i => obtain ⟨rfl, rfl⟩ := epure_ok (a := (⟨.ex i, tm, .yl d :: mk⟩ : ERun)) h10; exact ⟨rfl, rfl, rfl⟩
   |_ => exact (efail_ok (e := [92]) h8).elim
  obtain ⟨st, j, f', tm', n', ps', a', b', d', rfl, hst, hhp, hnx, hrr⟩ := hend
  have hf1 : ρ s.nx = none := hf _ (Nat.le_refl _) (by rw [hnx]; have h9 : s1.nx = s.nx + 1 := congrArg ESt.nx hi1.2; omega)
  obtain ⟨ed, en1, hw1, he1⟩ := new_obj h1 hw hf1 (o := .deferred (some [])) fun _ _ => rfl
  obtain ⟨σ1, hσ1⟩ : ∃ σ1, eup ρ s.nx ⟨w.heap.size, 0, 0⟩ = σ1 := ⟨_, rfl⟩
  rw [hσ1] at hw1 he1
  have hs1d : σ1 d = some ⟨w.heap.size, 0, 0⟩ := by rw [← hσ1, ed]; exact eup_same _ _ _
  refine wpIn_rangeFunc fun fn _ => ?_
  have hf2 : σ1 s1.nx = none := by
   rw [he1.2 _ (by omega)]
   exact hf _ n1 (by rw [hnx]; have h9 : s2.nx = s1.nx + 1 := congrArg ESt.nx hi2.2; omega)
  obtain ⟨el, en2, hw2, he2⟩ := new_obj h3 hw1 hf2 (o := .loop { state := .ready, pending := none, fn := fn, tmps := a.tmps, params := ps, assign := assign, body := body, defers := w.heap.size }) fun σ hle => ⟨a.tmps, ⟨w.heap.size, 0, 0⟩, fn, hle d _ hs1d, ht.up (he1.1.trans hle), hn, rfl⟩
  rw [World.size_alloc] at hw2 he2
  obtain ⟨W2, hW2⟩ : ∃ W2, (w.alloc (.deferred (some []))).alloc (.loop { state := .ready, pending := none, fn := fn, tmps := a.tmps, params := ps, assign := assign, body := body, defers := w.heap.size }) = W2 := ⟨_, rfl⟩
  rw [hW2] at hw2
  obtain ⟨σ2, hσ2⟩ : ∃ σ2, eup σ1 s1.nx ⟨w.heap.size + 1, 0, 0⟩ = σ2 := ⟨_, rfl⟩
  rw [hσ2] at hw2 he2
  have hs2l : σ2 l = some ⟨w.heap.size + 1, 0, 0⟩ := by rw [← hσ2, el]; exact eup_same _ _ _
  have hargs : VRs σ2 (lapp x (.yl l :: y)) (xs ++ (.func (.yield (w.heap.size + 1)) #[] #[]) :: ys) := by
   rw [lapp_eq]
   exact (hx.up (he1.1.trans he2.1)).append (.cons _ _ _ _ (.yl l ⟨w.heap.size + 1, 0, 0⟩ hs2l) (hy.up (he1.1.trans he2.1)))
  have hcall := hR.fn σ2 k _ _ hargs s2 v s3 h5 _ hw2 (fun q h9 h10 => by
   rw [he2.2 q (by omega), he1.2 q (by omega)]
   exact hf q (by omega) (by omega))
  rw [hE _ _ _ _ _ hen h5] at hcall
  refine ⟨w.heap.size + 1, [{ target := .collected w.heap.size, args := #[] }], W2, { target := .fn (.func k) ys.toArray, args := xs.toArray ++ #[.func (.yield (w.heap.size + 1)) #[] #[]] }, W2, k, xs.toArray ++ #[.func (.yield (w.heap.size + 1)) #[] #[]] ++ ys.toArray, W2, by rw [← hW2]; exact run_enterLoop_outer _ _ _ _ _, ?_, ?_, ?_, (fun e => by cases e), ?_⟩
  ·simp only [resolve, hgx]
   simp [go_sem]
  ·intro _ _; trivial
  ·show (callFunc k _).run P _ = _
   exact hE _ _ _ _ _ hen h5 _ _
  ·rw [show (xs.toArray ++ #[Value.func (.yield (w.heap.size + 1)) #[] #[]] ++ ys.toArray) = (xs ++ (.func (.yield (w.heap.size + 1)) #[] #[]) :: ys).toArray from by apply Array.ext'; simp]
   refine (hcall (n - 1)).mono fun e w3 he => ?_
   obtain ⟨v', rfl, σ3, -, hw3, he3⟩ := he
   obtain ⟨q, o, hq, -, hcell, ts, qd, gg, hq1, hq2, hq3, rfl⟩ := hw3.blk l _ hb
   have hq' := he3.1 l _ hs2l
   rw [hq] at hq'
   cases hq'
   refine ⟨_, _, run_endLoop (P := P) hcell (stOf_busy hst), ?_⟩
   have hw4 := hw3.set hb hq (turn_put hcell (.loop { state := .exhausted, pending := jumpOf j, fn := gg, tmps := ts, params := ps'.toArray, assign := a', body := b', defers := qd.b })) (b' := .lp 3 j f' tm' n' ps' a' b' d') ⟨ts, qd, gg, hq1, hq2, hq3, rfl⟩
   rw [← hhp] at hw4
   have he : EExt ρ σ3 s.nx s'.nx := by
    rw [hnx]
    exact (he1.trans he2 n1 n2).trans he3 (Nat.le_trans n1 n2) n3
   have hfin := hK σ3 { a with defers := [{ target := .collected w.heap.size, args := #[] }] ++ a.defers } _ he hw4
   have hd3 : DM σ3 (.yl d :: mk) ([{ target := .collected w.heap.size, args := #[] }] ++ a.defers) := .cons d ⟨w.heap.size, 0, 0⟩ _ _ (he3.1 _ _ (he2.1 _ _ hs1d)) (hd.up he.1)
   cases j with
   |none => subst hrr; exact hfin (ht.up he.1) hn hd3
   |some j => cases j with
    |none => subst hrr; exact wpIn_ret (hfin (ht.up he.1) hn hd3)
    |some i => subst hrr; exact wpIn_exit (hfin (ht.up he.1) hn hd3)
 |_ => exact (efail_ok (e := [93 - 1]) (s := s) (by first | exact h | (exfalso; cases h))).elim
theorem code_ok {R : ERec} (hR : RSound P w0 R) (hE : REnt P R) (hL : RLoc R) {G : Globs} (hG : GlobR w0 G) (hm : P.follows .mixedOrders = true) (f N : Nat) (inr : Bool) {F : Fence} (hF : Fen F) (hi : inr = false → F = Fence.wide) (c : Code) :
  ∀ (n : Nat) (tm : ET AV) (mk : List AV), COK P w0 F n N c (evCode P G R f N inr c tm mk) tm mk := by
 induction c with
 |skip =>
  intro n tm mk s r s' h ρ a w ht hn hd hw hf Q hK
  obtain ⟨rfl, rfl⟩ := epure_ok (a := (⟨.nm, tm, mk⟩ : ERun)) h
  exact wpIn_skip (hK ρ a w (EExt.refl _ _ _) hw ht hn hd)
 |label i =>
  intro n tm mk s r s' h ρ a w ht hn hd hw hf Q hK
  obtain ⟨rfl, rfl⟩ := epure_ok (a := (⟨.nm, tm, mk⟩ : ERun)) h
  exact wpIn_label (hK ρ a w (EExt.refl _ _ _) hw ht hn hd)
 |ret =>
  intro n tm mk s r s' h ρ a w ht hn hd hw hf Q hK
  obtain ⟨rfl, rfl⟩ := epure_ok (a := (⟨.rt, tm, mk⟩ : ERun)) h
  exact wpIn_ret (hK ρ a w (EExt.refl _ _ _) hw ht hn hd)
 |exit i =>
  intro n tm mk s r s' h ρ a w ht hn hd hw hf Q hK
  obtain ⟨rfl, rfl⟩ := epure_ok (a := (⟨.ex i, tm, mk⟩ : ERun)) h
  exact wpIn_exit (hK ρ a w (EExt.refl _ _ _) hw ht hn hd)
 |region id ops draw => exact fun n tm mk => cok_region hR hL hG hm hF id ops inr draw hi tm mk
 |seq x y ihx ihy =>
  intro n tm mk s r s' h ρ a w ht hn hd hw hf Q hK
  obtain ⟨r1, s1, h1, h2⟩ := ebind_ok (m := evCode P G R f N inr x tm mk) h
  have l1 := (loc_code' P hL G f N inr x tm mk _ _ _ h1).nx
  cases hro : r1.o with
  |nm =>
   rw [hro] at h2
   have h2' : evCode P G R f N inr y r1.tm r1.ms s1 = .ok r s' := h2
   have l2 := (loc_code' P hL G f N inr y _ _ _ _ _ h2').nx
   refine wpIn_seq (ihx n tm mk s r1 s1 h1 ρ a w ht hn hd hw (fun j a b => hf j a (by omega)) _ fun σ a1 w1 he hw1 ht1 hn1 hd1 => ?_)
   rw [hro]
   refine ihy n r1.tm r1.ms s1 r s' h2' σ a1 w1 ht1 hn1 hd1 hw1 (fun j a b => ?_) Q fun τ a2 w2 he2 hw2 ht2 hn2 hd2 => hK τ a2 w2 (he.trans he2 l1 l2) hw2 ht2 hn2 hd2
   rw [he.2 j (by omega)]
   exact hf j (by omega) b
  |ex i =>
   rw [hro] at h2
   obtain ⟨rfl, rfl⟩ := epure_ok (a := r1) h2
   refine wpIn_seq (ihx n tm mk s _ _ h1 ρ a w ht hn hd hw hf _ fun σ a1 w1 he hw1 ht1 hn1 hd1 => ?_)
   have := hK σ a1 w1 he hw1 ht1 hn1 hd1
   rw [hro] at this ⊢
   exact this
  |rt =>
   rw [hro] at h2
   obtain ⟨rfl, rfl⟩ := epure_ok (a := r1) h2
   refine wpIn_seq (ihx n tm mk s _ _ h1 ρ a w ht hn hd hw hf _ fun σ a1 w1 he hw1 ht1 hn1 hd1 => ?_)
   have := hK σ a1 w1 he hw1 ht1 hn1 hd1
   rw [hro] at this ⊢
   exact this
 |cond c x y ihx ihy =>
  intro n tm mk s r s' h ρ a w ht hn hd hw hf Q hK
  have h' : (match evO tm c with
   |.bo t => Bool.rec (evCode P G R f N inr y tm mk) (evCode P G R f N inr x tm mk) t
   |_ => efail [94] : EM ERun) s = .ok r s' := h
  have hc := evO_vr ht c
  obtain ⟨cv, hcv⟩ : ∃ cv, evO tm c = cv := ⟨_, rfl⟩
  obtain ⟨cx, hcx⟩ : ∃ cx, a.eval c = cx := ⟨_, rfl⟩
  rw [hcv, hcx] at hc
  rw [hcv] at h'
  cases hc with
  |bo t =>
   cases t with
   |false => exact wpIn_cond_false hcx (ihy n tm mk s r s' h' ρ a w ht hn hd hw hf Q hK)
   |true => exact wpIn_cond_true hcx (ihx n tm mk s r s' h' ρ a w ht hn hd hw hf Q hK)
  |_ => exact (efail_ok (e := [94]) (s := s) h').elim
 |block id x ih =>
  intro n tm mk s r s' h ρ a w ht hn hd hw hf Q hK
  obtain ⟨r1, s1, h1, h2⟩ := ebind_ok (m := evCode P G R f N inr x tm mk) h
  refine wpIn_block (ih n tm mk s r1 s1 h1 ρ a w ht hn hd hw (fun j a b => hf j a ?_) _ fun σ a1 w1 he hw1 ht1 hn1 hd1 => ?_)
  ·cases hro : r1.o with
   |ex i =>
    rw [hro] at h2
    cases hbe : Nat.beq i id with
    |false => simp only [hbe] at h2; obtain ⟨_, rfl⟩ := epure_ok (a := r1) h2; exact b
    |true => simp only [hbe] at h2; obtain ⟨_, rfl⟩ := epure_ok (a := (⟨.nm, r1.tm, r1.ms⟩ : ERun)) h2; exact b
   |_ => rw [hro] at h2; obtain ⟨_, rfl⟩ := epure_ok (a := r1) h2; exact b
  ·cases hro : r1.o with
   |nm =>
    rw [hro] at h2
    obtain ⟨rfl, rfl⟩ := epure_ok (a := r1) h2
    have := hK σ a1 w1 he hw1 ht1 hn1 hd1
    rw [hro] at this
    exact this
   |rt =>
    rw [hro] at h2
    obtain ⟨rfl, rfl⟩ := epure_ok (a := r1) h2
    have := hK σ a1 w1 he hw1 ht1 hn1 hd1
    rw [hro] at this
    exact this
   |ex i =>
    rw [hro] at h2
    show if i = id then Q .normal a1 w1 else Q (.exit i) a1 w1
    cases hbe : Nat.beq i id with
    |false =>
     simp only [hbe] at h2
     obtain ⟨rfl, rfl⟩ := epure_ok (a := r1) h2
     rw [if_neg fun e => by subst e; rw [show Nat.beq i i = true from Nat.beq_refl i] at hbe; cases hbe]
     have := hK σ a1 w1 he hw1 ht1 hn1 hd1
     rw [hro] at this
     exact this
    |true =>
     simp only [hbe] at h2
     obtain ⟨rfl, rfl⟩ := epure_ok (a := (⟨.nm, r1.tm, r1.ms⟩ : ERun)) h2
     rw [if_pos (nbeq_t hbe)]
     exact hK σ a1 w1 he hw1 ht1 hn1 hd1
 |loop x ih => exact fun n tm mk => cok_loop (fun tm mk => loc_code' P hL G f N inr x tm mk) (fun tm mk => ih n tm mk) 100000 tm mk
 |rangeFunc g ps x y _ _ =>
  intro n tm mk
  cases inr with
  |true => exact fun s r s' h => (efail_ok (e := [93]) (s := s) h).elim
  |false =>
   rw [hi rfl]
   exact cok_range hR hE hL f g ps x y tm mk
 |scope x _ => exact fun n tm mk s r s' h => (efail_ok (e := [96]) (s := s) h).elim
 |goto i => exact fun n tm mk s r s' h => (efail_ok (e := [97]) (s := s) h).elim
 |refuse y => exact fun n tm mk s r s' h => (efail_ok (e := [98]) (s := s) h).elim
end
end
section
set_option linter.unusedSectionVars false
open Go.RowKit
variable [Val]
section
variable {P : Program} {w0 : World}
theorem load_calm {ρ : ERho} {G : Globs} (hG : GlobR w0 G) {t : TypeId} {a v : AV} {x : Value} (ha : VR ρ a x) {s s' : ESt} (hm : eload P G t a s = .ok v s') : s'.hp = s.hp ∧ s'.nx = s.nx ∧ ∀ w, ERel P w0 ρ s.hp w → ∃ ad y, x = .pointer (some ad) ∧ (loadVar t ad).run P w = .ok y w ∧ VR ρ v y := by
 cases ha with
 |pt i o r hr =>
  obtain ⟨y, s1, h1, h2⟩ := ebind_ok (s := s) hm
  obtain ⟨hb, rfl⟩ := ecells_ok h1
  obtain ⟨rfl, -⟩ := vpart_ok h2
  refine ⟨rfl, rfl, fun w hw => ?_⟩
  obtain ⟨c, f, z, hc, -, -, -, hl⟩ := hp_cells hw hb hr
  obtain ⟨u, hu, hv⟩ := read_run h2 hc hl
  exact ⟨_, u, rfl, hu, hv⟩
 |gp g o =>
  obtain ⟨y, s1, h1, h2⟩ := ebind_ok (s := s) hm
  obtain ⟨hg, rfl⟩ := eag_ok h1
  obtain ⟨h3, h4⟩ := ecase_ok h2
  obtain ⟨h5, rfl⟩ := eopt_ok h4
  refine ⟨rfl, rfl, fun w hw => ?_⟩
  obtain ⟨u, hu, hlt, hv⟩ := hG g o v h5
  have hc : w.cell? ⟨g, o, none⟩ = some u := (hw.fp.cell hlt (by simp)).trans hu
  cases y with
  |true => cases h3
  |false =>
   refine ⟨_, u, rfl, ?_, hv _⟩
   unfold loadVar
   simp only [Sem.run_bind, Result.andThen_ok, run_ag hg]
   simp [hc]
 |_ => exact (efail_ok (e := [7]) (s := s) hm).elim
noncomputable def resA (P : Program) (G : Globs) (tm : ET AV) : ResultVar → EM AV
 |.tmp t => epure (tmGet tm t)
 |.cell a t => eload P G t (tmGet tm a)
def resS (ts : Array Value) : ResultVar → Sem Value
 |.tmp t => pure (ts.getD t undef)
 |.cell a t => do loadVar t (← asAddr (ts.getD a undef))
theorem results_run (fn : Func) (ts : Array Value) : results fn ts = (do
  let vs ← fn.results.mapM (resS ts)
  pure (if h : vs.size = 1 then vs[0] else .tuple vs)) := by
 have h : ∀ g : ResultVar → Sem Value, (∀ r, g r = resS ts r) → (do
   let vs ← fn.results.mapM g
   pure (if h : vs.size = 1 then vs[0] else .tuple vs) : Sem Value) = (do
   let vs ← fn.results.mapM (resS ts)
   pure (if h : vs.size = 1 then vs[0] else .tuple vs)) := fun g hg => by rw [show g = resS ts from funext hg]
 exact h _ fun r => by cases r <;> rfl
theorem results_ok {ρ : ERho} {G : Globs} (hG : GlobR w0 G) {tm : ET AV} {ts : Array Value} (ht : TR ρ tm ts) : ∀ (rs : List ResultVar) (vs : List AV) (s s' : ESt), eresults P G rs tm s = .ok vs s' → s'.hp = s.hp ∧ s'.nx = s.nx ∧
  ∀ w, ERel P w0 ρ s.hp w → ∃ xs : List Value, (rs.mapM (resS ts)).run P w = .ok xs w ∧ VRs ρ vs xs
 |[], vs, s, s', h => by
  obtain ⟨rfl, rfl⟩ := epure_ok (a := ([] : List AV)) h
  exact ⟨rfl, rfl, fun w _ => ⟨[], by simp, .nil⟩⟩
 |r :: rs, vs, s, s', h => by
  obtain ⟨v, s1, h1, h2⟩ := ebind_ok (m := resA P G tm r) (f := fun v => ebind (eresults P G rs tm) fun vs => epure (v :: vs)) (by cases r <;> exact h)
  obtain ⟨us, s2, h3, h4⟩ := ebind_ok (m := eresults P G rs tm) h2
  obtain ⟨rfl, rfl⟩ := epure_ok h4
  obtain ⟨e1, e2, hr⟩ := results_ok hG ht rs us s1 _ h3
  have hd : s1.hp = s.hp ∧ s1.nx = s.nx ∧ ∀ w, ERel P w0 ρ s.hp w → ∃ y, (resS ts r).run P w = .ok y w ∧ VR ρ v y := by
   cases r with
   |tmp t =>
    obtain ⟨rfl, rfl⟩ := epure_ok (a := tmGet tm t) h1
    exact ⟨rfl, rfl, fun w _ => ⟨_, rfl, ht t⟩⟩
   |cell a t =>
    obtain ⟨h5, h6, h7⟩ := load_calm hG (ht a) h1
    refine ⟨h5, h6, fun w hw => ?_⟩
    obtain ⟨ad, y, h8, h9, h10⟩ := h7 w hw
    refine ⟨y, ?_, h10⟩
    simp only [resS, h8, asAddr, Sem.run_bind, Sem.run_pure, Result.andThen_ok, h9]
  obtain ⟨d1, d2, d3⟩ := hd
  refine ⟨e1.trans d1, e2.trans d2, fun w hw => ?_⟩
  obtain ⟨y, hy, hv⟩ := d3 w hw
  obtain ⟨xs, hxs, hvs⟩ := hr w (by rw [d1]; exact hw)
  refine ⟨y :: xs, ?_, .cons _ _ _ _ hv hvs⟩
  rw [List.mapM_cons, Sem.run_bind, hy]
  simp only [Result.andThen_ok, Sem.run_bind, hxs, Sem.run_pure]
theorem tuple_vr {ρ : ERho} {vs : List AV} {xs : List Value} (h : VRs ρ vs xs) : VR ρ (etuple vs) (if h : xs.toArray.size = 1 then xs.toArray[0] else .tuple xs.toArray) := by
 cases h with
 |nil => exact .un
 |cons v x l ys h hs =>
  cases hs with
  |nil => exact h
  |cons v2 x2 l2 ys2 h2 hs2 =>
   rw [dif_neg (by simp)]
   exact .tu _ _ (.cons _ _ _ _ h (.cons _ _ _ _ h2 hs2))
theorem earg_get (t : Nat) : ∀ (l : List AV) (i : Nat) (tm : ET AV), tmGet (earg l i tm) t = if i ≤ t ∧ t < i + l.length then l.getD (t - i) .un else tmGet tm t
 |[], i, tm => by rw [if_neg (by simp only [List.length_nil]; omega)]; rfl
 |v :: l, i, tm => by
  show tmGet (earg l (i + 1) (tm.set (i + 1) v)) t = _
  rw [earg_get t l (i + 1), tmGet_set]
  simp only [List.length_cons]
  by_cases e : t = i
  ·subst e
   rw [if_neg (by omega), if_pos rfl, if_pos (by omega)]
   simp
  ·by_cases h : i + 1 ≤ t ∧ t < i + 1 + l.length
   ·rw [if_pos h, if_pos (by omega), show t - i = (t - (i + 1)) + 1 by omega]
    simp
   ·rw [if_neg h, if_neg e, if_neg (by omega)]
theorem earg_tr {ρ : ERho} {l : List AV} {xs : List Value} (h : VRs ρ l xs) (k : Nat) : TR ρ (earg l 0 .lf) (xs.toArray ++ Array.replicate k undef) := fun t => by
 rw [earg_get]
 have hlen := h.length
 by_cases ht : t < l.length
 ·rw [if_pos (by omega)]
  have h1 : l[t]? = some l[t] := List.getElem?_eq_getElem ht
  obtain ⟨x, hx, hv⟩ := h.nth h1
  rw [Nat.sub_zero, List.getD_eq_getElem?_getD, h1, Array.getD_eq_getD_getElem?, Array.getElem?_append_left (by simp; omega)]
  simp only [List.getElem?_toArray, hx]
  exact hv
 ·rw [if_neg (by omega), Array.getD_eq_getD_getElem?, Array.getElem?_append_right (by simp; omega), Array.getElem?_replicate]
  have : tmGet (.lf : ET AV) t = .un := by unfold tmGet; rw [ET.get_lf]
  rw [this]
  split <;> exact .un
theorem marks_ok {R : ERec} (hR : RSound P w0 R) (hL : RLoc R) {fn : Func} {ts : Array Value} {K : Ending → World → Prop} {n : Nat} : ∀ (mk : List AV) (ds : List Deferred) (ρ : ERho) (s s' : ESt) (u : Unit) (w : World), emarks R mk s = .ok u s' → DM ρ mk ds → ERel P w0 ρ s.hp w → (∀ j, s.nx ≤ j → j < s'.nx → ρ j = none) →
  (∀ σ w', EExt ρ σ s.nx s'.nx → ERel P w0 σ s'.hp w' → LeavesIn Fence.wide n P fn ts K [] .returning w') → LeavesInM Fence.wide n P fn ts K ds .returning w := by
 intro mk
 induction mk with
 |nil =>
  intro ds ρ s s' u w h hd hw _ hK
  obtain rfl := hd.none
  obtain ⟨_, rfl⟩ := epure_ok (a := ()) h
  exact hK ρ w (EExt.refl _ _ _) hw
 |cons x mk ih =>
  intro ds ρ s s' u w h hd hw hf hK
  cases hd with
  |cons d q _ ds hq hs =>
   obtain ⟨b, s1, h1, h2⟩ := ebind_ok (m := eget d) h
   obtain ⟨hb, rfl⟩ := eget_ok h1
   cases b with
   |df =>
    obtain ⟨u2, s2, h3, h4⟩ := ebind_ok (m := eset d .dn) (f := fun _ => emarks R mk) h2
    have h5 := eset_ok h3
    subst h5
    obtain ⟨q2, o, hq2, _, hcell, rfl⟩ := hw.blk d _ hb
    rw [hq] at hq2
    cases hq2
    have hw2 := hw.set hb hq (turn_put hcell (.deferred none)) (b' := .dn) rfl
    exact ⟨by simp, Or.inl ⟨q.b, _, rfl, run_takeDeferred hcell, ih ds ρ _ s' u _ h4 hs hw2 hf hK⟩⟩
   |_ => exact (efail_ok (e := [99]) h2).elim
  |call f l y xs ys _ ds hx hy hs =>
   obtain ⟨v, s1, h1, h2⟩ := ebind_ok (m := R.df f (lapp l y)) (f := fun _ => emarks R mk) h
   have l1 := (hL.df _ _ _ _ _ h1).nx
   have l2 := (loc_marks hL mk _ _ _ h2).nx
   have hxy : VRs ρ (lapp l y) (xs ++ ys) := by rw [lapp_eq]; exact hx.append hy
   obtain ⟨hen, hcall⟩ := hR.df ρ f _ _ hxy s v s1 h1 w hw (fun j a b => hf j a (by omega))
   have hap : xs.toArray ++ ys.toArray = (xs ++ ys).toArray := by simp
   refine ⟨by simp, Or.inr ⟨(fun e => by cases e), .func f, ys.toArray, f, (xs ++ ys).toArray, rfl, ?_, (fun _ _ => trivial), ?_⟩⟩
   ·show (callFunc f (xs.toArray ++ ys.toArray)).run P w = _
    rw [hap]
    exact hen
   ·refine CallsDIn.mono (hcall (n - 1)) fun e u' w' ⟨hu, x, he, σ, _, hw', hx'⟩ => ?_
    subst hu he
    show LeavesInM Fence.wide n P fn ts K ds (settle .returning) w'
    refine ih ds σ s1 s' u w' h2 (hs.up hx'.1) hw' (fun j a b => ?_) fun τ w2 he2 hw2 => hK τ w2 (hx'.trans he2 l1 l2) hw2
    rw [hx'.2 j (by omega)]
    exact hf j (by omega) b
def ISound (P : Program) (w0 : World) (I : Intr) : Prop := ∀ f g, I f = some g → ∀ ρ l xs, VRs ρ l xs → EVN P w0 ρ (g l) (callFunc f xs.toArray)
theorem fun_ent {R : ERec} {G : Globs} {I : Intr} {f : FuncId} (hi : I f = none) {l : List AV} {s s' : ESt} {v : AV} (h : evFun P G R I f l s = .ok v s') (args : Array Value) (w : World) : (callFunc f args).run P w = .ok (.enter f args) w := by
 unfold evFun at h
 rw [hi] at h
 cases hfn : P.funcs[f]? with
 |none => rw [hfn] at h; exact (efail_ok (e := [103, f]) (s := s) h).elim
 |some fn =>
  simp only [hfn] at h
  cases hb : fn.body with
  |none => rw [hb] at h; exact (efail_ok (e := [102, f]) (s := s) h).elim
  |some c =>
   simp only [hb] at h
   cases hc : iand (Nat.ble (llen l) fn.ntmps) (Bool.not (fn.name == "runtime.NumGoroutine")) with
   |false => rw [hc] at h; exact (efail_ok (e := [100, f]) (s := s) h).elim
   |true =>
    rw [iand_eq, Bool.and_eq_true] at hc
    have hn : (fn.name == "runtime.NumGoroutine") = false := by simpa using hc.2
    unfold callFunc
    simp only [Sem.run_bind, run_program, Result.andThen_ok, hfn, hn, hb]
    rfl
theorem fun_ok {R : ERec} (hR : RSound P w0 R) (hE : REnt P R) (hL : RLoc R) {G : Globs} (hG : GlobR w0 G) (hm : P.follows .mixedOrders = true) {I : Intr} {ρ : ERho} {f : FuncId} (hi : I f = none) {l : List AV} {xs : List Value} (hx : VRs ρ l xs) {s s' : ESt} {v : AV} (h : evFun P G R I f l s = .ok v s')
  {w : World} (hw : ERel P w0 ρ s.hp w) (hf : ∀ j, s.nx ≤ j → j < s'.nx → ρ j = none) (n : Nat) : CallsIn Fence.wide n P f xs.toArray w fun e w' => ∃ x, e = .returned x ∧ KOK P w0 ρ v s s' x w' := by
 unfold evFun at h
 rw [hi] at h
 cases hfn : P.funcs[f]? with
 |none => rw [hfn] at h; exact (efail_ok (e := [103, f]) (s := s) h).elim
 |some fn =>
  simp only [hfn] at h
  cases hb : fn.body with
  |none => rw [hb] at h; exact (efail_ok (e := [102, f]) (s := s) h).elim
  |some c =>
   simp only [hb] at h
   cases hc : iand (Nat.ble (llen l) fn.ntmps) (Bool.not (fn.name == "runtime.NumGoroutine")) with
   |false => rw [hc] at h; exact (efail_ok (e := [100, f]) (s := s) h).elim
   |true =>
    rw [hc] at h
    rw [iand_eq, Bool.and_eq_true] at hc
    have hle := nble_iff.1 hc.1
    rw [llen_eq, hx.length] at hle
    obtain ⟨r, s1, h1, h2⟩ := ebind_ok (m := evCode P G R f fn.ntmps false c (earg l 0 .lf) []) (s := s) h
    have l1 := (loc_code' P hL G f fn.ntmps false c _ _ _ _ _ h1).nx
    refine callsIn_of_wp_marks hfn hb trivial ?_
    have hend : (r.o = .nm ∨ r.o = .rt) ∧ ∃ u s2 vs, emarks R r.ms s1 = .ok u s2 ∧ eresults P G fn.results.toList r.tm s2 = .ok vs s' ∧ v = etuple vs := by
     have h3 : ∀ {ss : ESt} , ebind (emarks R r.ms) (fun _ => ebind (eresults P G fn.results.toList r.tm) fun vs => epure (etuple vs)) ss = .ok v s' → ∃ u s2 vs, emarks R r.ms ss = .ok u s2 ∧ eresults P G fn.results.toList r.tm s2 = .ok vs s' ∧ v = etuple vs := fun {ss} h3 => by
      obtain ⟨u, s2, h4, h5⟩ := ebind_ok h3
      obtain ⟨vs, s3, h6, h7⟩ := ebind_ok h5
      obtain ⟨rfl, rfl⟩ := epure_ok h7
      exact ⟨u, s2, vs, h4, h6, rfl⟩
     cases hro : r.o with
     |ex i => rw [hro] at h2; exact (efail_ok (e := [101]) h2).elim
     |nm => rw [hro] at h2; exact ⟨Or.inl rfl, h3 h2⟩
     |rt => rw [hro] at h2; exact ⟨Or.inr rfl, h3 h2⟩
    obtain ⟨hro, u, s2, vs, h4, h6, rfl⟩ := hend
    have l2 := (loc_marks hL _ _ _ _ h4).nx
    have l3 := (loc_results P G r.tm _ _ _ _ h6).nx
    refine code_ok hR hE hL hG hm f fn.ntmps false (Or.inl rfl) (fun _ => rfl) c n _ _ s r s1 h1 ρ _ w (earg_tr hx _) (by simp; omega) .nil hw (fun j a b => hf j a (by omega)) _ fun σ a1 w1 he hw1 ht1 hn1 hd1 => ?_
    have hgo : LeavesInM Fence.wide n P fn a1.tmps (fun e w' => ∃ x, e = .returned x ∧ KOK P w0 ρ (etuple vs) s s' x w') a1.defers .returning w1 := by
     obtain ⟨e2, e3, hres⟩ := results_ok (P := P) (w0 := w0) hG ht1 fn.results.toList vs s2 s' h6
     refine marks_ok hR hL r.ms a1.defers σ s1 s2 u w1 h4 hd1 hw1 (fun j a b => ?_) fun τ w2 he2 hw2 => ?_
     ·rw [he.2 j (by omega)]
      exact hf j (by omega) (by omega)
     ·obtain ⟨e4, e5, hres2⟩ := results_ok (P := P) (w0 := w0) hG (ht1.up he2.1) fn.results.toList vs s2 s' h6
      obtain ⟨ys, hys, hvs⟩ := hres2 w2 hw2
      refine ⟨_, ?_, _, rfl, τ, tuple_vr hvs, by rw [e4]; exact hw2, by rw [e5]; exact he.trans he2 l1 l2⟩
      rw [results_run, Sem.run_bind, Array.mapM_eq_mapM_toList, Sem.run_map, hys]
      rfl
    rcases hro with hro | hro
    ·rw [hro]; exact hgo
    ·rw [hro]; exact hgo
theorem def_ent {R : ERec} {G : Globs} {f : FuncId} {l : List AV} {s s' : ESt} {v : AV} (h : evDef P G R f l s = .ok v s') (args : Array Value) (w : World) : (callFunc f args).run P w = .ok (.enter f args) w := by
 unfold evDef at h
 cases hfn : P.funcs[f]? with
 |none => rw [hfn] at h; exact (efail_ok (e := [133, f]) (s := s) h).elim
 |some fn =>
  simp only [hfn] at h
  cases hb : fn.body with
  |none => rw [hb] at h; exact (efail_ok (e := [132, f]) (s := s) h).elim
  |some c =>
   simp only [hb] at h
   cases hc : iand (Nat.ble (llen l) fn.ntmps) (Bool.not (fn.name == "runtime.NumGoroutine")) with
   |false => rw [hc] at h; exact (efail_ok (e := [130, f]) (s := s) h).elim
   |true =>
    rw [iand_eq, Bool.and_eq_true] at hc
    have hn : (fn.name == "runtime.NumGoroutine") = false := by simpa using hc.2
    unfold callFunc
    simp only [Sem.run_bind, run_program, Result.andThen_ok, hfn, hn, hb]
    rfl
theorem def_ok {R : ERec} (hR : RSound P w0 R) (hE : REnt P R) (hL : RLoc R) {G : Globs} (hG : GlobR w0 G) (hm : P.follows .mixedOrders = true) {ρ : ERho} {f : FuncId} {l : List AV} {xs : List Value} (hx : VRs ρ l xs) {s s' : ESt} {v : AV} (h : evDef P G R f l s = .ok v s')
  {w : World} (hw : ERel P w0 ρ s.hp w) (hf : ∀ j, s.nx ≤ j → j < s'.nx → ρ j = none) (n : Nat) : CallsDIn Fence.wide n P f xs.toArray .returning w fun e u w' => u = .returning ∧ ∃ x, e = .returned x ∧ KOK P w0 ρ v s s' x w' := by
 unfold evDef at h
 cases hfn : P.funcs[f]? with
 |none => rw [hfn] at h; exact (efail_ok (e := [133, f]) (s := s) h).elim
 |some fn =>
  simp only [hfn] at h
  cases hb : fn.body with
  |none => rw [hb] at h; exact (efail_ok (e := [132, f]) (s := s) h).elim
  |some c =>
   simp only [hb] at h
   cases hc : iand (Nat.ble (llen l) fn.ntmps) (Bool.not (fn.name == "runtime.NumGoroutine")) with
   |false => rw [hc] at h; exact (efail_ok (e := [130, f]) (s := s) h).elim
   |true =>
    rw [hc] at h
    rw [iand_eq, Bool.and_eq_true] at hc
    have hle := nble_iff.1 hc.1
    rw [llen_eq, hx.length] at hle
    obtain ⟨r, s1, h1, h2⟩ := ebind_ok (m := evCode P G R f fn.ntmps false c (earg l 0 .lf) []) (s := s) h
    have l1 := (loc_code' P hL G f fn.ntmps false c _ _ _ _ _ h1).nx
    have hend : (r.o = .nm ∨ r.o = .rt) ∧ r.ms = [] ∧ ∃ vs, eresults P G fn.results.toList r.tm s1 = .ok vs s' ∧ v = etuple vs := by
     obtain ⟨ro, rt, rm⟩ := r
     cases ro with
     |ex i => exact (efail_ok (e := [131]) (s := s1) h2).elim
     |nm =>
      cases rm with
      |cons _ _ => exact (efail_ok (e := [131]) (s := s1) h2).elim
      |nil =>
       obtain ⟨vs, s3, h6, h7⟩ := ebind_ok (s := s1) h2
       obtain ⟨rfl, rfl⟩ := epure_ok h7
       exact ⟨Or.inl rfl, rfl, vs, h6, rfl⟩
     |rt =>
      cases rm with
      |cons _ _ => exact (efail_ok (e := [131]) (s := s1) h2).elim
      |nil =>
       obtain ⟨vs, s3, h6, h7⟩ := ebind_ok (s := s1) h2
       obtain ⟨rfl, rfl⟩ := epure_ok h7
       exact ⟨Or.inr rfl, rfl, vs, h6, rfl⟩
    obtain ⟨hro, hms, vs, h6, rfl⟩ := hend
    have l3 := (loc_results P G r.tm _ _ _ _ h6).nx
    refine callsDIn_of_wp hfn hb trivial ?_
    refine code_ok hR hE hL hG hm f fn.ntmps false (Or.inl rfl) (fun _ => rfl) c n _ _ s r s1 h1 ρ _ w (earg_tr hx _) (by simp; omega) .nil hw (fun j a b => hf j a (by omega)) _ fun σ a1 w1 he hw1 ht1 hn1 hd1 => ?_
    have hnil : a1.defers = [] := by
     rw [hms] at hd1
     exact hd1.none
    obtain ⟨e2, e3, hres⟩ := results_ok (P := P) (w0 := w0) hG ht1 fn.results.toList vs s1 s' h6
    obtain ⟨ys, hys, hvs⟩ := hres w1 hw1
    have hgo : a1.defers = [] ∧ ∃ v, (results fn a1.tmps).run P w1 = .ok v w1 ∧ ∃ x, (Ending.returned v : Ending) = .returned x ∧ KOK P w0 ρ (etuple vs) s s' x w1 := by
     refine ⟨hnil, _, ?_, _, rfl, σ, tuple_vr hvs, by rw [e2]; exact hw1, by rw [e3]; exact he⟩
     rw [results_run, Sem.run_bind, Array.mapM_eq_mapM_toList, Sem.run_map, hys]
     rfl
    rcases hro with hro | hro
    ·rw [hro]; exact hgo
    ·rw [hro]; exact hgo
end
end
end Go.Proofs.YtigajcabgaddgaaGreatDoor
