/-
 One operation of a region, carried out: the evaluator's step and the calculus's. A region that draws its order: any order comes to what the written order comes to, where each operation is apart from those that it may change places with. A region that draws its order: the evaluator's run of it is sound. A region that draws its order, met by the evaluator's run of it. Code, met by the evaluator's run of it.
-/
import Derived.Test.YtkjmgbifoaoefaaGreatDoorQEwA
set_option maxRecDepth 100000
set_option maxHeartbeats 8000000
namespace Go.Proofs.YtkjmgbifoaoefaaGreatDoor
section
open Go.RowKit
variable {P : Program} {w0 : World} {ρ : ERho}
theorem lmap_same {α β : Type} {f g : α → β} : ∀ {l : List α}, (∀ x ∈ l, f x = g x) → lmap f l = lmap g l
 |[], _ => rfl
 |a :: l, h => by
  rw [lmap_eq, lmap_eq]
  exact List.map_congr_left h
theorem map_same {α β : Type} {f g : α → β} {x : Option α} (h : ∀ y, x = some y → f y = g y) : x.map f = x.map g := by
 cases x with
 |none => rfl
 |some y => exact congrArg some (h y rfl)
theorem evOp_same {G : Globs} {R : ERec} {tm tm' : ET AV} {o : Oper} (h : ∀ x ∈ o.op.operands, evO tm x = evO tm' x) : evOp P G R tm o = evOp P G R tm' o := by
 have ps : ∀ qs : Array (Nat × Operand), (∀ x ∈ qs.map (·.2), evO tm x = evO tm' x) → lmap (fun p => (p.1, evO tm p.2)) qs.toList = lmap (fun p => (p.1, evO tm' p.2)) qs.toList := fun qs hq =>
  lmap_same fun p hp => by rw [hq p.2 (Array.mem_map.2 ⟨p, by simpa using hp, rfl⟩)]
 have asg : ∀ xs : Array Operand, (∀ x ∈ xs, evO tm x = evO tm' x) → lmap (evO tm) xs.toList = lmap (evO tm') xs.toList := fun xs hx => lmap_same fun x hx' => hx x (by simpa using hx')
 unfold evOp
 obtain ⟨dst, op, type, pos, after, guard⟩ := o
 cases op <;> simp only [Op.operands] at h <;> try simp only
 case build t qs => rw [ps qs fun x hx => h x (by simpa using hx)]
 case buildSlice t n qs => rw [ps qs fun x hx => h x (by simpa using hx)]
 case makeFunc fn x y =>
  cases fn <;> try rfl
  simp only
  rw [asg x fun z hz => h z (by simp [hz]), asg y fun z hz => h z (by simp [hz])]
 case call c =>
  have hargs : ∀ x ∈ c.args, evO tm x = evO tm' x := fun x hx => h x (by
   cases hc : c.callee <;> simp [Call.operands, hc, hx])
  unfold ecall
  rw [asg c.args hargs]
  cases hc : c.callee with
  |value f => simp only; rw [h f (by simp [Call.operands, hc])]
  |_ => rfl
 case slice t x lo hi mx =>
  rw [h x (by simp), map_same (f := evO tm) (g := evO tm') (x := lo) fun y hy => h y (by simp [hy]), map_same (f := evO tm) (g := evO tm') (x := hi) fun y hy => h y (by simp [hy]), map_same (f := evO tm) (g := evO tm') (x := mx) fun y hy => h y (by simp [hy])]
 all_goals (first | rfl | (simp_all; done))
def Fen (F : Fence) : Prop := F = Fence.wide ∨ ∃ l, F = Fence.wide.inRound l
theorem Fen.fn {F : Fence} (h : Fen F) (f : FuncId) : F.fn f := by rcases h with rfl | ⟨l, rfl⟩ <;> trivial
theorem Fen.depth {F : Fence} (h : Fen F) (n : Nat) : F.depth.isSome = true → 1 ≤ n := by rcases h with rfl | ⟨l, rfl⟩ <;> (intro e; cases e)
theorem Fen.calls {F : Fence} (h : Fen F) {n : Nat} {f : FuncId} {args : Array Value} {w : World} {K : Ending → World → Prop} (hc : CallsIn Fence.wide n P f args w K) : CallsIn F n P f args w K := by
 rcases h with rfl | ⟨l, rfl⟩
 ·exact hc
 ·exact CallsIn.inRound l hc
theorem Fen.round {F : Fence} (h : Fen F) {n : Nat} {l : Nat} {f : FuncId} {ts : Array Value} {asg bo : Code} {w : World} {K : Ending → World → Prop} (hc : RoundIn Fence.wide n P l f ts asg bo w K) : RoundIn F n P l f ts asg bo w K := by
 rcases h with rfl | ⟨l, rfl⟩
 ·exact hc
 ·exact hc
theorem upon_of {F : Fence} (hF : Fen F) {n : Nat} {o : Oper} {a : Act} {next : Act → World → Prop} {Q : Exit → Act → World → Prop} {K : Value → World → Prop} (hK : ∀ x w, K x w → next (a.put o.dst x) w) :
  ∀ {r : Result Next}, NX P K r → o.uponIn F n P a next Q r
 |.ok (.value v) w, h => hK v w h
 |.ok .skip w, h => hK undef w h
 |.ok (.enter f args) w, h => ⟨hF.depth n, (hF.calls (h (n - 1))).mono fun e w' ⟨v, he, hk⟩ => by subst he; exact hK v w' hk⟩
 |.ok (.round l f ts asg bo) w, h => ⟨hF.depth n, (hF.round (h (n - 1))).mono fun e w' ⟨v, he, hk⟩ => by subst he; exact hK v w' hk⟩
theorem op_defer {G : Globs} {R : ERec} {tm : ET AV} {o : Oper} {s s' : ESt} {v : AV} (h : evOp P G R tm o s = .ok v s') : ∀ c, o.op ≠ .defer c := fun c e => by
 unfold evOp at h
 rw [e] at h
 exact (efail_ok (e := [87]) (s := s) h).elim
noncomputable def eputT (tm : ET AV) (d : Option Tmp) (v : AV) : ET AV := match d with
 |none => tm
 |some d => tm.set (d + 1) v
theorem eput1_ok {N : Nat} {tm tm' : ET AV} {d : Option Tmp} {v : AV} {s s' : ESt} (h : eput1 N tm d v s = .ok tm' s') : s' = s ∧ tm' = eputT tm d v ∧ ∀ e, d = some e → e < N := by
 cases d with
 |none =>
  obtain ⟨rfl, rfl⟩ := epure_ok h
  exact ⟨rfl, rfl, fun _ e => by cases e⟩
 |some d =>
  unfold eput1 at h
  simp only at h
  cases hb : Nat.blt d N with
  |false => rw [hb] at h; exact (efail_ok (e := [88]) (s := s) h).elim
  |true =>
   rw [hb] at h
   obtain ⟨rfl, rfl⟩ := epure_ok (s := s) h
   exact ⟨rfl, rfl, fun e he => by cases he; exact nblt_iff.1 hb⟩
theorem eput1_run {N : Nat} {d : Option Tmp} (h : ∀ e, d = some e → e < N) (tm : ET AV) (v : AV) (s : ESt) : eput1 N tm d v s = .ok (eputT tm d v) s := by
 cases d with
 |none => rfl
 |some d =>
  unfold eput1
  simp only
  rw [nblt_iff.2 (h d rfl)]
  rfl
theorem TR.putT {tm : ET AV} {a : Act} (h : TR ρ tm a.tmps) {d : Option Tmp} {N : Nat} (hN : a.tmps.size = N) (hd : ∀ e, d = some e → e < N) {v : AV} {x : Value} (hv : VR ρ v x) : TR ρ (eputT tm d v) (a.put d x).tmps := by
 cases d with
 |none => exact h
 |some d => exact h.put (by rw [hN]; exact hd d rfl) hv
theorem want_ok {l : List Oper} {tm : ET AV} {o : Oper} {g : Bool} (h : ewant l tm o = some g) {a : Act} (ht : TR ρ tm a.tmps) : Region.wanted o (yielded l.toArray a.tmps) = g := by
 unfold ewant at h
 unfold Region.wanted yielded
 cases hg : o.guard with
 |none => rw [hg] at h; cases h; rfl
 |some jb =>
  obtain ⟨j, b⟩ := jb
  rw [hg] at h
  simp only at h ⊢
  rw [List.getElem?_toArray]
  cases hj : l[j]? with
  |none => rw [hj] at h; cases h; rfl
  |some oj =>
   rw [hj] at h
   simp only [Option.bind_some] at h ⊢
   cases hd : oj.dst with
   |none => rw [hd] at h; cases h; rfl
   |some d =>
    rw [hd] at h
    simp only [Option.bind_some] at h ⊢
    have hv := ht d
    obtain ⟨v, hvv⟩ : ∃ v, tmGet tm d = v := ⟨_, rfl⟩
    rw [hvv] at h hv
    rw [Array.getD_eq_getD_getElem?] at hv
    cases hx : a.tmps[d]? with
    |none =>
     rw [hx] at hv
     cases hv <;> first | (cases h; rfl) | (cases h; done)
    |some y =>
     rw [hx] at hv
     simp only [Option.getD_some] at hv
     cases hv <;> first | (cases h; rfl) | (cases h; done) | (rename_i c; cases c <;> cases b <;> cases h <;> rfl)
theorem step_parts {G : Globs} {R : ERec} {N : Nat} {l : List Oper} {tm tm' : ET AV} {o : Oper} {s s' : ESt} (h : estep P G R N l tm o s = .ok tm' s') : (∀ e, o.dst = some e → e < N) ∧ ∃ g v, ewant l tm o = some g ∧ tm' = eputT tm o.dst v ∧
  if g = true then evOp P G R tm o s = .ok v s' else v = .un ∧ s' = s := by
 unfold estep at h
 cases hg : ewant l tm o with
 |none => rw [hg] at h; exact (efail_ok (e := [109]) (s := s) h).elim
 |some g =>
  rw [hg] at h
  cases g with
  |false =>
   obtain ⟨rfl, rfl, hd⟩ := eput1_ok (s := s) h
   exact ⟨hd, false, .un, rfl, rfl, by simp⟩
  |true =>
   obtain ⟨v, s1, h1, h2⟩ := ebind_ok (s := s) h
   obtain ⟨rfl, rfl, hd⟩ := eput1_ok h2
   exact ⟨hd, true, v, rfl, rfl, by simpa using h1⟩
theorem step_same {G : Globs} {R : ERec} {N : Nat} {l : List Oper} {tm tm' tD : ET AV} {o : Oper} {s s' : ESt} (h : estep P G R N l tm o s = .ok tm' s') (hx : ∀ x ∈ o.op.operands, evO tm x = evO tD x) (hg : ewant l tm o = ewant l tD o) :
  (∀ e, o.dst = some e → e < N) ∧ ∃ v, tm' = eputT tm o.dst v ∧ estep P G R N l tD o s = .ok (eputT tD o.dst v) s' := by
 obtain ⟨hd, g, v, h1, h2, h3⟩ := step_parts h
 refine ⟨hd, v, h2, ?_⟩
 unfold estep
 rw [← hg, h1]
 cases g with
 |false =>
  obtain ⟨rfl, rfl⟩ : v = .un ∧ s' = s := by simpa using h3
  exact eput1_run hd _ _ _
 |true =>
  have h4 : evOp P G R tm o s = .ok v s' := by simpa using h3
  rw [evOp_same hx] at h4
  show ebind (evOp P G R tD o) (fun v => eput1 N tD o.dst v) s = _
  unfold ebind
  rw [h4]
  exact eput1_run hd _ _ _
theorem step_ok {R : ERec} (hR : RSound P w0 R) {G : Globs} (hG : GlobR w0 G) {F : Fence} (hF : Fen F) {n N : Nat} {l : List Oper} {i : Nat} {o : Oper} (hi : l[i]? = some o) {tm tm' : ET AV} {s s' : ESt} (h : estep P G R N l tm o s = .ok tm' s')
  {a : Act} (ht : TR ρ tm a.tmps) (hn : a.tmps.size = N) {w : World} (hw : ERel P w0 ρ s.hp w) (hf : ∀ j, s.nx ≤ j → j < s'.nx → ρ j = none) {K : Act → World → Prop} {Q : Exit → Act → World → Prop}
  (hK : ∀ σ x w', EExt ρ σ s.nx s'.nx → ERel P w0 σ s'.hp w' → TR σ tm' (a.put o.dst x).tmps → K (a.put o.dst x) w') : wpOpIn F n P l.toArray Q i K a w := by
 obtain ⟨hd, g, v, h1, rfl, h3⟩ := step_parts h
 unfold wpOpIn
 rw [List.getElem?_toArray, hi]
 simp only
 rw [want_ok h1 ht]
 cases g with
 |false =>
  obtain ⟨rfl, rfl⟩ : v = .un ∧ s' = s := by simpa using h3
  exact ⟨fun f _ => hF.fn f, hK ρ undef w (EExt.refl _ _ _) hw (ht.putT hn hd .un)⟩
 |true =>
  have h4 : evOp P G R tm o s = .ok v s' := by simpa using h3
  refine ⟨fun f _ => hF.fn f, ?_⟩
  rw [Oper.semAt_eq _ _ _ (op_defer h4)]
  refine upon_of hF (K := KOK P w0 ρ v s s') (fun x w' hk => ?_) (op_next hR hG ht o s v s' h4 w hw hf)
  obtain ⟨σ, hv, hw', he⟩ := hk
  exact hK σ x w' he hw' ((ht.up he.1).putT hn hd hv)
end
section
open Go.RowKit
section
variable {P : Program} {l : List Oper}
theorem any_sched {F : Fence} {n N : Nat} {Q : Exit → Act → World → Prop} (hform : relForm l N = true) (Inv : Array Bool → Act → World → Prop)
  (hstep : ∀ (listed : Array Bool) (a : Act) (w : World) (i : Nat) (o : Oper), listed.size = l.length → Inv listed a w → l[i]? = some o → listed.getD i false = false → (∀ e ∈ o.after, Region.binds .any e = true → listed.getD e.on false = true) →
   ∀ K : Act → World → Prop, (∀ a' w', Inv (listed.setIfInBounds i true) a' w' → K a' w') → wpOpIn F n P l.toArray Q i K a w)
  (fin : ∀ (listed : Array Bool) (a : Act) (w : World), listed.size = l.length → Inv listed a w → (∀ j, j < l.length → listed.getD j false = true) → Q .normal a w) :
  ∀ (fuel : Nat) (listed : Array Bool) (a : Act) (w : World), unlisted listed = fuel → listed.size = l.length → Inv listed a w → wpAnyIn F n P .any l.toArray Q fuel listed a w := by
 intro fuel
 induction fuel with
 |zero =>
  intro listed a w hu hsz inv
  have hall := unlisted_zero hu
  rw [hsz] at hall
  refine ⟨?_, fin listed a w hsz inv hall⟩
  apply List.eq_nil_iff_forall_not_mem.2
  intro j hj
  obtain ⟨h1, o, ho, _⟩ := mem_ready.1 hj
  have hlt : j < l.length := by simpa using (Array.getElem?_eq_some_iff.1 ho).1
  have h2 := hall j hlt
  have hls : j < listed.size := by rw [hsz]; exact hlt
  simp [hls] at h1 h2
  rw [h1] at h2
  cases h2
 |succ fuel ih =>
  intro listed a w hu hsz inv
  refine ⟨fun hr => ?_, fun i hi => ?_⟩
  ·exfalso
   have hex : ∃ j, j < l.length ∧ listed.getD j false = false := by
    by_cases hex : ∃ j, j < l.length ∧ listed.getD j false = false
    ·exact hex
    ·exfalso
     have hall : ∀ j, j < l.length → listed.getD j false = true := fun j hj => by
      cases h : listed.getD j false
      ·exact absurd ⟨j, hj, h⟩ hex
      ·rfl
     have : unlisted listed = 0 := by
      unfold unlisted
      rw [List.length_eq_zero_iff, List.filter_eq_nil_iff]
      intro b hb
      obtain ⟨j, hj, rfl⟩ := List.getElem_of_mem hb
      have hj' : j < listed.size := by simpa using hj
      have := hall j (by rw [← hsz]; exact hj')
      simp [hj'] at this ⊢
      exact this
     omega
   obtain ⟨j, hj, hleast⟩ : ∃ j, (j < l.length ∧ listed.getD j false = false) ∧ ∀ k, k < j → ¬ (k < l.length ∧ listed.getD k false = false) := by
    obtain ⟨j0, h0⟩ := hex
    induction j0 using Nat.strongRecOn with
    |_ n ih2 =>
     by_cases hk : ∃ k, k < n ∧ (k < l.length ∧ listed.getD k false = false)
     ·obtain ⟨k, hk1, hk2⟩ := hk
      exact ih2 k hk1 hk2
     ·exact ⟨n, h0, fun k hk1 hk2 => hk ⟨k, hk1, hk2⟩⟩
   have hjs : j < listed.size := by rw [hsz]; exact hj.1
   have : j ∈ Region.ready .any l.toArray listed := by
    refine mem_ready.2 ⟨by have := hj.2; simp [hjs] at this ⊢; exact this, l[j], by simp [hj.1], fun e he hb => ?_⟩
    have hlt := relForm_edge hform (List.getElem?_eq_getElem hj.1) e he hb
    cases h : listed.getD e.on false
    ·exact absurd ⟨by omega, h⟩ (hleast e.on hlt)
    ·rfl
   rw [hr] at this
   cases this
  ·obtain ⟨h1, o, ho, hpre⟩ := mem_ready.1 hi
   have ho' : l[i]? = some o := by simpa using ho
   have hls : i < listed.size := by rw [hsz]; exact (List.getElem?_eq_some_iff.1 ho').1
   refine hstep listed a w i o hsz inv ho' (by simp [hls] at h1 ⊢; exact h1) hpre _ fun a' w' hi' => ?_
   exact ih _ _ _ (by have := unlisted_set hls h1; omega) (by simp [hsz]) hi'
end
noncomputable def befN (l : List Oper) (i : Nat) : Nat := Option.rec 0 (fun x => x) (lnth (ebefore l) i)
def Bef (l : List Oper) (i j : Nat) : Prop := Bit (befN l i) j
noncomputable def aheadRow (acc : List Nat) (o : Oper) : Nat := o.after.toList.foldl (fun s e => Bool.rec s (Nat.lor s (Nat.lor (Nat.shiftLeft 1 e.on) (Option.rec 0 (fun x => x) (lnth acc e.on)))) (Region.binds .any e)) 0
theorem aheadRow_bits (acc : List Nat) (j : Nat) : ∀ (es : List Edge) (s : Nat), Bit (es.foldl (fun s e => Bool.rec s (Nat.lor s (Nat.lor (Nat.shiftLeft 1 e.on) (Option.rec 0 (fun x => x) (lnth acc e.on)))) (Region.binds .any e)) s) j →
  Bit s j ∨ ∃ e ∈ es, Region.binds .any e = true ∧ (j = e.on ∨ ∃ b, acc[e.on]? = some b ∧ Bit b j)
 |[], s, h => Or.inl h
 |e :: es, s, h => by
  rw [List.foldl_cons] at h
  rcases aheadRow_bits acc j es _ h with h1 | ⟨e', he, h1⟩
  ·cases hb : Region.binds .any e with
   |false => rw [hb] at h1; exact Or.inl h1
   |true =>
    rw [hb] at h1
    rcases bit_or.1 h1 with h2 | h2
    ·exact Or.inl h2
    ·refine Or.inr ⟨e, by simp, hb, ?_⟩
     rcases bit_or.1 h2 with h3 | h3
     ·exact Or.inl (bit_one.1 h3)
     ·rw [lnth_eq] at h3
      cases ha : acc[e.on]? with
      |none => rw [ha] at h3; simp [Bit] at h3
      |some b => rw [ha] at h3; exact Or.inr ⟨b, rfl, h3⟩
  ·exact Or.inr ⟨e', by simp [he], h1⟩
theorem rows_fold (f : List Nat → Oper → Nat) : ∀ (l : List Oper) (acc : List Nat), ∃ r, l.foldl (fun acc o => acc ++ [f acc o]) acc = acc ++ r ∧ r.length = l.length ∧ ∀ k o, l[k]? = some o → ∃ p, r[k]? = some (f p o) ∧ p = (acc ++ r).take (acc.length + k)
 |[], acc => ⟨[], by simp, rfl, fun k o h => by simp at h⟩
 |o :: l, acc => by
  obtain ⟨r, h1, h2, h3⟩ := rows_fold f l (acc ++ [f acc o])
  refine ⟨f acc o :: r, by rw [List.foldl_cons, h1]; simp, by simp [h2], fun k o' hk => ?_⟩
  cases k with
  |zero =>
   simp only [List.getElem?_cons_zero, Option.some.injEq] at hk
   subst hk
   exact ⟨acc, by simp, by simp⟩
  |succ k =>
   rw [List.getElem?_cons_succ] at hk
   obtain ⟨p, h4, h5⟩ := h3 k o' hk
   refine ⟨p, by simpa using h4, ?_⟩
   rw [h5]
   simp only [List.length_append, List.length_cons, List.length_nil, List.append_assoc, List.cons_append, List.nil_append]
   congr 1
   omega
theorem bef_edge {l : List Oper} {i j : Nat} {o : Oper} (ho : l[i]? = some o) (h : Bef l i j) : ∃ e ∈ o.after, Region.binds .any e = true ∧ (j = e.on ∨ Bef l e.on j) := by
 obtain ⟨r, h1, h2, h3⟩ := rows_fold aheadRow l []
 obtain ⟨p, h4, h5⟩ := h3 i o ho
 have he : ebefore l = r := by
  have : ebefore l = l.foldl (fun acc o => acc ++ [aheadRow acc o]) [] := rfl
  rw [this, h1]
  simp
 unfold Bef befN at h
 rw [lnth_eq, he, h4] at h
 have h6 : Bit (aheadRow p o) j := h
 rcases aheadRow_bits p j _ 0 h6 with h7 | ⟨e, he1, he2, h7⟩
 ·simp [Bit] at h7
 ·refine ⟨e, by simpa using he1, he2, ?_⟩
  rcases h7 with h7 | ⟨b, h8, h9⟩
  ·exact Or.inl h7
  ·refine Or.inr ?_
   unfold Bef befN
   rw [lnth_eq, he]
   have h10 : r[e.on]? = some b := by
    rw [h5] at h8
    simp only [List.nil_append, List.length_nil, Nat.zero_add] at h8
    rw [List.getElem?_take] at h8
    split at h8
    ·exact h8
    ·cases h8
   rw [h10]
   exact h9
theorem bef_lt {l : List Oper} {N : Nat} (hform : relForm l N = true) : ∀ (i j : Nat) (o : Oper), l[i]? = some o → Bef l i j → j < i := by
 intro i
 induction i using Nat.strongRecOn with
 |_ i ih =>
  intro j o ho h
  obtain ⟨e, he, hb, h1⟩ := bef_edge ho h
  have hlt := relForm_edge hform ho e he hb
  rcases h1 with rfl | h1
  ·exact hlt
  ·cases hoe : l[e.on]? with
   |none =>
    exfalso
    have := (List.getElem?_eq_some_iff.1 ho).1
    rw [List.getElem?_eq_none_iff] at hoe
    omega
   |some oe => exact Nat.lt_trans (ih e.on hlt j oe hoe h1) hlt
theorem bef_done {l : List Oper} {N : Nat} (hform : relForm l N = true) (D : Nat → Prop) (hD : ∀ k o, l[k]? = some o → D k → ∀ e ∈ o.after, Region.binds .any e = true → D e.on) :
  ∀ (i j : Nat) (o : Oper), l[i]? = some o → (∀ e ∈ o.after, Region.binds .any e = true → D e.on) → Bef l i j → D j := by
 intro i
 induction i using Nat.strongRecOn with
 |_ i ih =>
  intro j o ho hr h
  obtain ⟨e, he, hb, h1⟩ := bef_edge ho h
  rcases h1 with rfl | h1
  ·exact hr e he hb
  ·have hlt := relForm_edge hform ho e he hb
   cases hoe : l[e.on]? with
   |none =>
    exfalso
    have := (List.getElem?_eq_some_iff.1 ho).1
    rw [List.getElem?_eq_none_iff] at hoe
    omega
   |some oe => exact ih e.on hlt j oe hoe (hD e.on oe hoe (hr e he hb)) h1
theorem form_slot {l : List Oper} {N i j : Nat} {o oj : Oper} {t : Tmp} (h : eform l N = true) (ho : l[i]? = some o) (hj : l[j]? = some oj) (ht : t ∈ eslots o ++ eguardSlot l o) (hd : oj.dst = some t) : i = j ∨ Bef l i j ∨ Bef l j i := by
 unfold eform at h
 rw [Bool.and_eq_true] at h
 have h1 := List.all_eq_true.1 h.2 i (List.mem_range.2 (List.getElem?_eq_some_iff.1 ho).1)
 rw [ho] at h1
 have h2 := List.all_eq_true.1 (List.all_eq_true.1 h1 t ht) j (List.mem_range.2 (List.getElem?_eq_some_iff.1 hj).1)
 rw [hj] at h2
 simp only [hd, bne_self_eq_false, Bool.false_or, Bool.or_eq_true, beq_iff_eq] at h2
 rcases h2 with (h2 | h2) | h2
 ·exact Or.inl h2
 ·exact Or.inr (Or.inl h2)
 ·exact Or.inr (Or.inr h2)
end
section
open Go.RowKit
theorem apart_from (b r w : Nat) : ∀ (ms : List (Nat × Nat)) (k : Nat), (List.rec (fun _ => true) (fun m _ ih k => iand (ior (Nat.testBit b k) (iand (Nat.beq (Nat.land w (Nat.lor m.1 m.2)) 0) (Nat.beq (Nat.land r m.2) 0))) (ih (Nat.succ k))) ms : Nat → Bool) k = true →
  ∀ j m, ms[j]? = some m → Bit b (k + j) ∨ ((∀ x, Bit w x → ¬ (Bit m.1 x ∨ Bit m.2 x)) ∧ ∀ x, Bit r x → ¬ Bit m.2 x)
 |[], _, _, j, m, hm => by simp at hm
 |m0 :: ms, k, h, j, m, hm => by
  have h' : iand (ior (Nat.testBit b k) (iand (Nat.beq (Nat.land w (Nat.lor m0.1 m0.2)) 0) (Nat.beq (Nat.land r m0.2) 0))) ((List.rec (fun _ => true) (fun m _ ih k => iand (ior (Nat.testBit b k) (iand (Nat.beq (Nat.land w (Nat.lor m.1 m.2)) 0) (Nat.beq (Nat.land r m.2) 0))) (ih (Nat.succ k))) ms : Nat → Bool) (k + 1)) = true := h
  rw [iand_eq, Bool.and_eq_true] at h'
  cases j with
  |zero =>
   simp only [List.getElem?_cons_zero, Option.some.injEq] at hm
   subst hm
   have h1 := h'.1
   rw [ior_eq, Bool.or_eq_true, iand_eq, Bool.and_eq_true] at h1
   rcases h1 with h1 | ⟨h1, h2⟩
   ·exact Or.inl h1
   ·refine Or.inr ⟨fun x hx hm => ?_, fun x hx hm => ?_⟩
    ·have h3 : w &&& (m0.1 ||| m0.2) = 0 := nbeq_t h1
     have h4 : Bit (w &&& (m0.1 ||| m0.2)) x := by
      unfold Bit
      rw [Nat.testBit_and, Bool.and_eq_true]
      exact ⟨hx, bit_or.2 hm⟩
     rw [h3] at h4
     simp [Bit] at h4
    ·have h3 : r &&& m0.2 = 0 := nbeq_t h2
     have h4 : Bit (r &&& m0.2) x := by
      unfold Bit
      rw [Nat.testBit_and, Bool.and_eq_true]
      exact ⟨hx, hm⟩
     rw [h3] at h4
     simp [Bit] at h4
  |succ j =>
   rw [List.getElem?_cons_succ] at hm
   have := apart_from b r w ms (k + 1) h'.2 j m hm
   rwa [show k + 1 + j = k + (j + 1) by omega] at this
theorem apart_ok {b r w : Nat} {ms : List (Nat × Nat)} (h : eapart b r w ms = true) {j : Nat} {m : Nat × Nat} (hm : ms[j]? = some m) : Bit b j ∨ ((∀ x, Bit w x → ¬ (Bit m.1 x ∨ Bit m.2 x)) ∧ ∀ x, Bit r x → ¬ Bit m.2 x) := by
 have := apart_from b r w ms 0 h j m hm
 rwa [Nat.zero_add] at this
structure Trace (P : Program) (G : Globs) (R : ERec) (N : Nat) (l : List Oper) (r : List Oper) (i : Nat) (T : Nat → ET AV) (H : Nat → ET Blk) (X : Nat → Nat) (M : Nat → Nat × Nat) : Prop where
 step : ∀ k o, r[k]? = some o → estep P G R N l (T (i + k)) o ⟨H (i + k), X (i + k), 0, 0⟩ = .ok (T (i + k + 1)) ⟨H (i + k + 1), X (i + k + 1), (M (i + k)).1, (M (i + k)).2⟩
 apart : ∀ k o, r[k]? = some o → ∀ j, j < i + k → Bef l (i + k) j ∨ ((∀ x, Bit (M (i + k)).2 x → ¬ (Bit (M j).1 x ∨ Bit (M j).2 x)) ∧ ∀ x, Bit (M (i + k)).1 x → ¬ Bit (M j).2 x)
theorem draws_trace {P : Program} {G : Globs} {R : ERec} {N : Nat} {l : List Oper} : ∀ (r : List Oper) (i : Nat) (ms : List (Nat × Nat)) (tm : ET AV) (s : ESt) (tm' : ET AV) (s' : ESt), edraws P G R N l (ebefore l) r i ms tm s = .ok tm' s' → ms.length = i →
  ∃ T H X M, T i = tm ∧ H i = s.hp ∧ X i = s.nx ∧ T (i + r.length) = tm' ∧ H (i + r.length) = s'.hp ∧ X (i + r.length) = s'.nx ∧ (∀ j m, ms[j]? = some m → M j = m) ∧ Trace P G R N l r i T H X M
 |[], i, ms, tm, s, tm', s', h, _ => by
  obtain ⟨rfl, rfl⟩ := epure_ok (a := tm) h
  exact ⟨fun _ => tm', fun _ => s'.hp, fun _ => s'.nx, fun j => ms.getD j (0, 0), rfl, rfl, rfl, rfl, rfl, rfl, fun j m hm => by simp [List.getD_eq_getElem?_getD, hm], ⟨fun k o hk => by simp at hk, fun k o hk => by simp at hk⟩⟩
 |o :: r, i, ms, tm, s, tm', s', h, hl => by
  have h' : (ERes.rec (fun e => .no e) (fun tm1 s1 => (Bool.rec (efail [90, i]) (edraws P G R N l (ebefore l) r (Nat.succ i) (lapp ms [(s1.rd, s1.wr)]) tm1)
   (eapart (Option.rec 0 (fun x => x) (lnth (ebefore l) i)) s1.rd s1.wr ms) : EM (ET AV)) ⟨s1.hp, s1.nx, Nat.lor s.rd s1.rd, Nat.lor s.wr s1.wr⟩) (estep P G R N l tm o ⟨s.hp, s.nx, 0, 0⟩) : ERes (ET AV)) = .ok tm' s' := h
  cases hs : estep P G R N l tm o ⟨s.hp, s.nx, 0, 0⟩ with
  |no e => simp only [hs] at h'; cases h'
  |ok tm1 s1 =>
   simp only [hs] at h'
   cases ha : eapart (befN l i) s1.rd s1.wr ms with
   |false =>
    unfold befN at ha
    rw [ha] at h'
    exact (efail_ok (e := [90, i]) h').elim
   |true =>
    have ha' := ha
    unfold befN at ha
    rw [ha] at h'
    have h2 : edraws P G R N l (ebefore l) r (i + 1) (lapp ms [(s1.rd, s1.wr)]) tm1 ⟨s1.hp, s1.nx, Nat.lor s.rd s1.rd, Nat.lor s.wr s1.wr⟩ = .ok tm' s' := h'
    rw [lapp_eq] at h2
    obtain ⟨T, H, X, M, e1, e2, e3, e4, e5, e6, e7, tr⟩ := draws_trace r (i + 1) _ _ _ _ _ h2 (by simp [hl])
    have hM : M i = (s1.rd, s1.wr) := e7 i _ (by rw [List.getElem?_append_right (by omega), hl]; simp)
    have hms : ∀ j m, ms[j]? = some m → M j = m := fun j m hm => e7 j m (by rw [List.getElem?_append_left (List.getElem?_eq_some_iff.1 hm).1]; exact hm)
    have hne : ∀ k, (if i + 1 + k = i then tm else T (i + 1 + k)) = T (i + 1 + k) := fun k => if_neg (by omega)
    refine ⟨fun k => if k = i then tm else T k, fun k => if k = i then s.hp else H k, fun k => if k = i then s.nx else X k, M, if_pos rfl, if_pos rfl, if_pos rfl, ?_, ?_, ?_, hms, ⟨fun k o' hk => ?_, fun k o' hk j hj => ?_⟩⟩
    ·simp only [List.length_cons]; rw [if_neg (by omega), show i + (r.length + 1) = i + 1 + r.length by omega]; exact e4
    ·simp only [List.length_cons]; rw [if_neg (by omega), show i + (r.length + 1) = i + 1 + r.length by omega]; exact e5
    ·simp only [List.length_cons]; rw [if_neg (by omega), show i + (r.length + 1) = i + 1 + r.length by omega]; exact e6
    ·cases k with
     |zero =>
      simp only [List.getElem?_cons_zero, Option.some.injEq] at hk
      subst hk
      simp only [Nat.add_zero, if_pos, if_neg (show ¬ i + 1 = i by omega)]
      rw [e1, e2, e3, hM]
      exact hs
     |succ k =>
      rw [List.getElem?_cons_succ] at hk
      have := tr.step k o' hk
      simp only [if_neg (show ¬ i + (k + 1) = i by omega), if_neg (show ¬ i + (k + 1) + 1 = i by omega)]
      rw [show i + (k + 1) = i + 1 + k by omega]
      exact this
    ·cases k with
     |zero =>
      rw [Nat.add_zero] at hj ⊢
      obtain ⟨m, hm⟩ : ∃ m, ms[j]? = some m := ⟨ms[j]'(by omega), List.getElem?_eq_getElem _⟩
      rw [hM, hms j m hm]
      exact apart_ok ha' hm
     |succ k =>
      rw [List.getElem?_cons_succ] at hk
      have := tr.apart k o' hk j (by omega)
      rwa [show i + 1 + k = i + (k + 1) by omega] at this
end
section
open Go.RowKit
theorem tmGet_putT (tm : ET AV) (d : Option Tmp) (v : AV) (t : Nat) : tmGet (eputT tm d v) t = if d = some t then v else tmGet tm t := by
 cases d with
 |none => rw [if_neg (by simp)]; rfl
 |some d =>
  show tmGet (tm.set (d + 1) v) t = _
  rw [tmGet_set]
  by_cases e : t = d
  ·rw [if_pos e, if_pos (by rw [e])]
  ·rw [if_neg e, if_neg (by intro h; cases h; exact e rfl)]
section
variable {P : Program} {G : Globs} {R : ERec} {N : Nat} {l : List Oper} {T : Nat → ET AV} {H : Nat → ET Blk} {X : Nat → Nat} {M : Nat → Nat × Nat}
theorem Trace.at (tr : Trace P G R N l l 0 T H X M) {i : Nat} {o : Oper} (ho : l[i]? = some o) : estep P G R N l (T i) o ⟨H i, X i, 0, 0⟩ = .ok (T (i + 1)) ⟨H (i + 1), X (i + 1), (M i).1, (M i).2⟩ := by
 have := tr.step i o ho
 rwa [Nat.zero_add] at this
theorem Trace.mem (tr : Trace P G R N l l 0 T H X M) (hL : RLoc R) {x p : Nat} : ∀ m, p ≤ m → m ≤ l.length → (∀ j, p ≤ j → j < m → ¬ Bit (M j).2 x) → (H m).get (x + 1) = (H p).get (x + 1) := by
 intro m
 induction m with
 |zero => intro h _ _; rw [Nat.le_zero.1 h]
 |succ m ih =>
  intro h hm hj
  by_cases e : p = m + 1
  ·rw [e]
  ·have ho : l[m]? = some l[m] := List.getElem?_eq_getElem (by omega)
   have l1 := loc_step P hL G N l _ _ _ _ _ (tr.at ho)
   exact (l1.off x (hj m (by omega) (by omega))).trans (ih (by omega) (by omega) fun j h1 h2 => hj j h1 (by omega))
theorem Trace.nx (tr : Trace P G R N l l 0 T H X M) (hL : RLoc R) {p : Nat} : ∀ m, p ≤ m → m ≤ l.length → X p ≤ X m := by
 intro m
 induction m with
 |zero => intro h _; rw [Nat.le_zero.1 h]; exact Nat.le_refl _
 |succ m ih =>
  intro h hm
  by_cases e : p = m + 1
  ·rw [e]; exact Nat.le_refl _
  ·have ho : l[m]? = some l[m] := List.getElem?_eq_getElem (by omega)
   exact Nat.le_trans (ih (by omega) (by omega)) (loc_step P hL G N l _ _ _ _ _ (tr.at ho)).nx
theorem Trace.slot (tr : Trace P G R N l l 0 T H X M) {t p : Nat} : ∀ m, p ≤ m → m ≤ l.length → (∀ j oj, p ≤ j → j < m → l[j]? = some oj → oj.dst ≠ some t) → tmGet (T m) t = tmGet (T p) t := by
 intro m
 induction m with
 |zero => intro h _ _; rw [Nat.le_zero.1 h]
 |succ m ih =>
  intro h hm hj
  by_cases e : p = m + 1
  ·rw [e]
  ·have ho : l[m]? = some l[m] := List.getElem?_eq_getElem (by omega)
   obtain ⟨-, g, v, -, h1, -⟩ := step_parts (tr.at ho)
   rw [h1, tmGet_putT, if_neg (hj m _ (by omega) (by omega) ho)]
   exact ih (by omega) (by omega) fun j oj h1 h2 => hj j oj h1 (by omega)
end
theorem ERel.same {P : Program} {w0 w : World} {ρ : ERho} {hp hq : ET Blk} (h : ERel P w0 ρ hp w) (e : ∀ x, hq.get (x + 1) = hp.get (x + 1)) : ERel P w0 ρ hq w :=
 ⟨h.fp, fun i b hb => h.blk i b ((e i).symm.trans hb), fun i j b c r q hb hc => h.inj i j b c r q ((e i).symm.trans hb) ((e j).symm.trans hc)⟩
theorem getD_set_self {listed : Array Bool} {i : Nat} (h : i < listed.size) : (listed.setIfInBounds i true).getD i false = true := by
 simp [h]
structure Way (P : Program) (w0 : World) (ρ : ERho) (l : List Oper) (T : Nat → ET AV) (H : Nat → ET Blk) (X : Nat → Nat) (M : Nat → Nat × Nat) (D : Nat → Prop) (σ : ERho) (tD : ET AV) (hD : ET Blk) (ts : Array Value) (w : World) : Prop where
 tr : TR σ tD ts
 rel : ERel P w0 σ hD w
 le : ELe ρ σ
 off : ∀ x, (∀ j, j < l.length → D j → ¬ (X j ≤ x ∧ x < X (j + 1))) → σ x = ρ x
 slot : ∀ t m, m ≤ l.length → (∀ j oj, l[j]? = some oj → D j → m ≤ j → oj.dst ≠ some t) → (∀ j oj, l[j]? = some oj → ¬ D j → j < m → oj.dst ≠ some t) → tmGet tD t = tmGet (T m) t
 mem : ∀ x m, m ≤ l.length → (∀ j, j < l.length → D j → m ≤ j → ¬ Bit (M j).2 x) → (∀ j, ¬ D j → j < m → ¬ Bit (M j).2 x) → hD.get (x + 1) = (H m).get (x + 1)
 closed : ∀ k o, l[k]? = some o → D k → ∀ e ∈ o.after, Region.binds .any e = true → D e.on
theorem draw_ok {P : Program} {w0 : World} {ρ : ERho} {R : ERec} (hR : RSound P w0 R) (hL : RLoc R) {G : Globs} (hG : GlobR w0 G) {F : Fence} (hF : Fen F) {n N : Nat} {l : List Oper} {tm tm' : ET AV} {s s' : ESt} (h : edraw P G R N l tm s = .ok tm' s')
  {a : Act} (ht : TR ρ tm a.tmps) (hn : a.tmps.size = N) {w : World} (hw : ERel P w0 ρ s.hp w) (hf : ∀ j, s.nx ≤ j → j < s'.nx → ρ j = none) {Q : Exit → Act → World → Prop}
  (hK : ∀ σ a' w', EExt ρ σ s.nx s'.nx → ERel P w0 σ s'.hp w' → TR σ tm' a'.tmps → a'.tmps.size = N → a'.defers = a.defers → Q .normal a' w') :
  wpAnyIn F n P .any l.toArray Q l.toArray.size (Array.replicate l.toArray.size false) a w := by
 unfold edraw at h
 cases hform : eform l N with
 |false => rw [hform] at h; exact (efail_ok (e := [91]) (s := s) h).elim
 |true =>
  rw [hform] at h
  have hrel : relForm l N = true := by
   unfold eform at hform
   rw [Bool.and_eq_true] at hform
   exact hform.1
  obtain ⟨T, H, X, M, e1, e2, e3, e4, e5, e6, -, tr⟩ := draws_trace l 0 [] tm s tm' s' h rfl
  rw [Nat.zero_add] at e4 e5 e6
  have uniq : ∀ {i j : Nat} {o oj : Oper} {t : Tmp}, l[i]? = some o → l[j]? = some oj → o.dst = some t → oj.dst = some t → i = j := fun {i j o oj t} ho hj h1 h2 => by
   by_cases e : j = i
   ·exact e.symm
   ·exact absurd h2 ((relForm_dst hrel ho h1).2 j oj hj e)
  have aparts : ∀ {i j : Nat} {o oj : Oper}, l[i]? = some o → l[j]? = some oj → i ≠ j → ¬ Bef l i j → ¬ Bef l j i → ∀ x, Bit (M j).2 x → ¬ (Bit (M i).1 x ∨ Bit (M i).2 x) := fun {i j o oj} ho hj hne h1 h2 x hx hi => by
   rcases Nat.lt_or_gt_of_ne hne with hlt | hlt
   ·rcases tr.apart j oj hj i (by omega) with h3 | ⟨h3, h4⟩
    ·rw [Nat.zero_add] at h3; exact h2 h3
    ·rw [Nat.zero_add] at h3 h4
     exact h3 x hx hi
   ·rcases tr.apart i o ho j (by omega) with h3 | ⟨h3, h4⟩
    ·rw [Nat.zero_add] at h3; exact h1 h3
    ·rw [Nat.zero_add] at h3 h4
     rcases hi with hi | hi
     ·exact h4 x hi hx
     ·exact h3 x hi (Or.inr hx)
  refine any_sched (N := N) hrel (fun listed a' w' => a'.tmps.size = N ∧ a'.defers = a.defers ∧ ∃ σ tD hD, Way P w0 ρ l T H X M (fun k => listed.getD k false = true) σ tD hD a'.tmps w') ?_ ?_ _ _ _ _ ?_ (by simp) ⟨hn, rfl, ρ, tm, s.hp, ?_⟩
  ·rintro listed a1 w1 i o hsz ⟨hn1, hd1, σ, tD, hD, wy⟩ ho hnot hpre K hnext
   have hi : i < l.length := (List.getElem?_eq_some_iff.1 ho).1
   have hnD : ¬ listed.getD i false = true := by rw [hnot]; simp
   have bdone : ∀ j, Bef l i j → listed.getD j false = true := fun j hb => bef_done hrel (fun k => listed.getD k false = true) wy.closed i j o ho hpre hb
   have bnot : ∀ j oj, l[j]? = some oj → listed.getD j false = true → ¬ Bef l j i := fun j oj hj hDj hb => hnD (bef_done hrel (fun k => listed.getD k false = true) wy.closed j i oj hj (fun e he hbe => wy.closed j oj hj hDj e he hbe) hb)
   have hst := tr.at ho
   have l1 := loc_step P hL G N l _ _ _ _ _ hst
   have agree : ∀ x, (Bit (M i).1 x ∨ Bit (M i).2 x) → hD.get (x + 1) = (H i).get (x + 1) := fun x hx => wy.mem x i (by omega) (fun j hj hDj hij hb => by
     have hj' : l[j]? = some l[j] := List.getElem?_eq_getElem hj
     have hne : i ≠ j := fun e => by subst e; exact hnD hDj
     refine aparts ho hj' hne (fun h => ?_) (bnot j _ hj' hDj) x hb hx
     have := bef_lt hrel i j o ho h
     omega) fun j hDj hij hb => by
     have hj' : l[j]? = some l[j] := List.getElem?_eq_getElem (by omega)
     exact aparts ho hj' (by omega) (fun h => hDj (bdone j h)) (fun h => by have := bef_lt hrel j i _ hj' h; omega) x hb hx
   have slots : ∀ t, t ∈ eslots o ++ eguardSlot l o → tmGet (T i) t = tmGet tD t := fun t htm => (wy.slot t i (by omega) (fun j oj hj hDj hij hd => by
     rcases form_slot hform ho hj htm hd with h1 | h1 | h1
     ·subst h1; exact hnD hDj
     ·have := bef_lt hrel i j o ho h1
      omega
     ·exact bnot j oj hj hDj h1) fun j oj hj hDj hij hd => by
     rcases form_slot hform ho hj htm hd with h1 | h1 | h1
     ·omega
     ·exact hDj (bdone j h1)
     ·have := bef_lt hrel j i oj hj h1
      omega).symm
   obtain ⟨hp', r1, r2, r3⟩ := l1.run hD (fun x hx => agree x (Or.inl hx)) (fun x hx => agree x (Or.inr hx))
   obtain ⟨hdN, v, hTv, hst2⟩ := step_same (tD := tD) r1 (fun x hx => by
     cases x with
     |tmp t => exact slots t (List.mem_append_left _ (List.mem_filterMap.2 ⟨.tmp t, by simpa using hx, rfl⟩))
     |_ => rfl) (by
     unfold ewant
     cases hg : o.guard with
     |none => rfl
     |some jb =>
      obtain ⟨j, b⟩ := jb
      simp only
      cases hj : l[j]? with
      |none => rfl
      |some oj =>
       simp only
       cases hd : oj.dst with
       |none => rfl
       |some d =>
        simp only
        rw [slots d (List.mem_append_right _ (by unfold eguardSlot; rw [hg]; simp [hj, hd]))])
   have fresh : ∀ j, X i ≤ j → j < X (i + 1) → σ j = none := fun j h1 h2 => by
    rw [wy.off j fun k hk hDk hr => ?_]
    ·refine hf j ?_ ?_
     ·rw [← e3]; exact Nat.le_trans (tr.nx hL i (by omega) (by omega)) h1
     ·rw [← e6]; exact Nat.lt_of_lt_of_le h2 (tr.nx hL l.length (by omega) (Nat.le_refl _))
    ·have hne : k ≠ i := fun e => by subst e; exact hnD hDk
     rcases Nat.lt_or_gt_of_ne hne with hlt | hlt
     ·have := tr.nx hL (p := k + 1) i (by omega) (by omega)
      omega
     ·have := tr.nx hL (p := i + 1) k (by omega) (by omega)
      omega
   have hls : i < listed.size := by rw [hsz]; exact hi
   have dset : ∀ k, (listed.setIfInBounds i true).getD k false = true ↔ k = i ∨ listed.getD k false = true := fun k => by
    by_cases e : k = i
    ·subst e
     exact ⟨fun _ => Or.inl rfl, fun _ => getD_set_self hls⟩
    ·rw [getD_set_ne false (Ne.symm e)]
     exact ⟨fun h => Or.inr h, fun h => h.resolve_left e⟩
   refine step_ok hR hG hF ho hst2 wy.tr hn1 wy.rel fresh fun τ x w2 he hw2 ht2 => hnext _ _ ⟨by rw [put_size]; exact hn1, by rw [put_defers]; exact hd1, τ, _, hp', ht2, hw2, wy.le.trans he.1, fun y hy => ?_, fun t m hm hh1 hh2 => ?_, fun y m hm hh1 hh2 => ?_, fun k ok hk hDk e he2 hb => ?_⟩
   ·rw [he.2 y (hy i hi ((dset i).2 (Or.inl rfl)))]
    exact wy.off y fun j hj hDj => hy j hj ((dset j).2 (Or.inr hDj))
   ·rw [tmGet_putT]
    by_cases ed : o.dst = some t
    ·rw [if_pos ed]
     have him : i < m := by
      by_cases hlt : i < m
      ·exact hlt
      ·exact absurd ed (hh1 i o ho ((dset i).2 (Or.inl rfl)) (by omega))
     have := tr.slot (t := t) (p := i + 1) m (by omega) hm fun j oj h1 h2 hj hd => by
      have := uniq ho hj ed hd
      omega
     rw [this, hTv, tmGet_putT, if_pos ed]
    ·rw [if_neg ed]
     refine wy.slot t m hm (fun j oj hj hDj => hh1 j oj hj ((dset j).2 (Or.inr hDj))) fun j oj hj hDj hlt hd => ?_
     by_cases e : j = i
     ·subst e
      rw [ho] at hj
      cases hj
      exact ed hd
     ·exact hh2 j oj hj (fun h => ((dset j).1 h).elim e hDj) hlt hd
   ·by_cases hb : Bit (M i).2 y
    ·rw [r2 y hb]
     have him : i < m := by
      by_cases hlt : i < m
      ·exact hlt
      ·exact absurd hb (hh1 i hi ((dset i).2 (Or.inl rfl)) (by omega))
     refine (tr.mem hL (p := i + 1) m (by omega) hm fun j h1 h2 hbj => ?_).symm
     have hj' : l[j]? = some l[j] := List.getElem?_eq_getElem (by omega)
     by_cases hDj : listed.getD j false = true
     ·refine aparts ho hj' (by omega) (fun h => ?_) (bnot j _ hj' hDj) y hbj (Or.inr hb)
      have := bef_lt hrel i j o ho h
      omega
     ·exact hh2 j (fun h => ((dset j).1 h).elim (by omega) hDj) h2 hbj
    ·rw [r3 y hb]
     refine wy.mem y m hm (fun j hj hDj => hh1 j hj ((dset j).2 (Or.inr hDj))) fun j hDj hlt => ?_
     by_cases e : j = i
     ·subst e; exact hb
     ·exact hh2 j (fun h => ((dset j).1 h).elim e hDj) hlt
   ·rcases (dset k).1 hDk with e1 | e1
    ·subst e1
     rw [ho] at hk
     cases hk
     exact (dset _).2 (Or.inr (hpre e he2 hb))
    ·exact (dset _).2 (Or.inr (wy.closed k ok hk e1 e he2 hb))
  ·rintro listed a1 w1 hsz ⟨hn1, hd1, σ, tD, hD, wy⟩ hall
   have hm : ∀ x, s'.hp.get (x + 1) = hD.get (x + 1) := fun x => by
    rw [← e5]
    refine (wy.mem x l.length (Nat.le_refl _) (fun j hj _ hlt => absurd hj (by omega)) fun j hDj hlt => absurd (hall j hlt) hDj).symm
   have hs : ∀ t, tmGet tm' t = tmGet tD t := fun t => by
    rw [← e4]
    refine (wy.slot t l.length (Nat.le_refl _) (fun j oj hj _ hlt => absurd (List.getElem?_eq_some_iff.1 hj).1 (by omega)) fun j oj hj hDj hlt => absurd (hall j hlt) hDj).symm
   refine hK σ a1 w1 ⟨wy.le, fun j hj => wy.off j fun k hk _ hr => ?_⟩ (wy.rel.same hm) (fun t => by rw [hs]; exact wy.tr t) hn1 hd1
   have h1 := tr.nx hL (p := 0) k (by omega) (by omega)
   have h2 := tr.nx hL (p := k + 1) l.length (by omega) (Nat.le_refl _)
   omega
  ·rw [unlisted]
   simp
  ·have no : ∀ (p : Prop) k, (Array.replicate l.toArray.size false).getD k false = true → p := fun p k h => by
    exfalso
    simp only [Array.getD_eq_getD_getElem?, Array.getElem?_replicate] at h
    split at h <;> simp at h
   refine ⟨ht, hw, ELe.refl _, fun _ _ => rfl, fun t m hm _ hh => ?_, fun x m hm _ hh => ?_, fun k o _ h => no _ k h⟩
   ·rw [← e1]
    refine (tr.slot (p := 0) m (by omega) hm fun j oj _ hlt hj => hh j oj hj (fun h => no _ j h) hlt).symm
   ·rw [← e2]
    exact (tr.mem hL (p := 0) m (by omega) hm fun j _ hlt => hh j (fun h => no _ j h) hlt).symm
end
section
open Go.RowKit
section
variable {P : Program} {w0 : World}
theorem ops_ok {R : ERec} (hR : RSound P w0 R) (hL : RLoc R) {G : Globs} (hG : GlobR w0 G) {F : Fence} (hF : Fen F) {n N : Nat} {l : List Oper} {Q : Exit → Act → World → Prop} {d : List Deferred} {tm' : ET AV} {s' : ESt} :
  ∀ (r : List Oper) (i : Nat) (ρ : ERho) (tm : ET AV) (s : ESt) (a : Act) (w : World), l.drop i = r → eops P G R N l r tm s = .ok tm' s' → TR ρ tm a.tmps → a.tmps.size = N → a.defers = d → ERel P w0 ρ s.hp w → (∀ j, s.nx ≤ j → j < s'.nx → ρ j = none) →
  (∀ σ a' w', EExt ρ σ s.nx s'.nx → ERel P w0 σ s'.hp w' → TR σ tm' a'.tmps → a'.tmps.size = N → a'.defers = d → Q .normal a' w') → wpOpsIn F n P l.toArray Q (List.range' i r.length) a w
 |[], i, ρ, tm, s, a, w, _, h, ht, hn, hd, hw, hf, hK => by
  obtain ⟨rfl, rfl⟩ := epure_ok (a := tm) h
  exact hK ρ a w (EExt.refl _ _ _) hw ht hn hd
 |o :: r, i, ρ, tm, s, a, w, hr, h, ht, hn, hd, hw, hf, hK => by
  obtain ⟨tm1, s1, h1, h2⟩ := ebind_ok (m := estep P G R N l tm o) (f := eops P G R N l r) h
  have l1 := loc_step P hL G N l _ _ _ _ _ h1
  have l2 := loc_ops P hL G N l r tm1 _ _ _ h2
  have ho : l[i]? = some o := by
   have := congrArg (·[0]?) hr
   simpa using this
  have hr' : l.drop (i + 1) = r := by
   rw [← List.tail_drop, hr]
   rfl
  rw [List.length_cons, List.range'_succ, wpOpsIn_cons]
  refine step_ok hR hG hF ho h1 ht hn hw (fun j a b => hf j a (Nat.lt_of_lt_of_le b l2.nx)) fun σ x w1 he hw1 ht1 => ?_
  refine ops_ok hR hL hG hF r (i + 1) σ tm1 s1 _ w1 hr' h2 ht1 (by rw [put_size]; exact hn) (by rw [put_defers]; exact hd) hw1 (fun j a b => ?_) fun τ a' w' he' hw' ht' hn' hd' => hK τ a' w' (he.trans he' l1.nx l2.nx) hw' ht' hn' hd'
  rw [he.2 j (by omega)]
  exact hf j (Nat.le_trans l1.nx a) b
inductive DM (ρ : ERho) : List Nat → List Deferred → Prop
 |nil : DM ρ [] []
 |cons (d : Nat) (q : RI) (mk : List Nat) (ds : List Deferred) (h : ρ d = some q) (hs : DM ρ mk ds) : DM ρ (d :: mk) ({ target := .collected q.b, args := #[] } :: ds)
theorem DM.up {ρ σ : ERho} (hl : ELe ρ σ) : ∀ {mk : List Nat} {ds : List Deferred}, DM ρ mk ds → DM σ mk ds
 |_, _, .nil => .nil
 |_, _, .cons d q mk ds h hs => .cons d q mk ds (hl d q h) (hs.up hl)
def exitO : EOut → Exit
 |.nm => .normal
 |.ex i => .exit i
 |.rt => .ret
def COK (P : Program) (w0 : World) (F : Fence) (n N : Nat) (c : Code) (m : EM ERun) (tm : ET AV) (mk : List Nat) : Prop :=
 ∀ s r s', m s = .ok r s' → ∀ ρ a w, TR ρ tm a.tmps → a.tmps.size = N → DM ρ mk a.defers → ERel P w0 ρ s.hp w → (∀ j, s.nx ≤ j → j < s'.nx → ρ j = none) →
  ∀ Q : Exit → Act → World → Prop, (∀ σ a' w', EExt ρ σ s.nx s'.nx → ERel P w0 σ s'.hp w' → TR σ r.tm a'.tmps → a'.tmps.size = N → DM σ r.ms a'.defers → Q (exitO r.o) a' w') → c.wpIn F n P Q a w
theorem cok_region {R : ERec} (hR : RSound P w0 R) (hL : RLoc R) {G : Globs} (hG : GlobR w0 G) (hm : P.follows .mixedOrders = true) {F : Fence} (hF : Fen F) {n N : Nat} (id : Nat) (ops : Array Oper) (draw : Bool) (tm : ET AV) (mk : List Nat) :
  COK P w0 F n N (.region id ops draw) (ebind (Bool.rec (eops P G R N ops.toList ops.toList tm) (edraw P G R N ops.toList tm) draw) fun tm' => epure ⟨.nm, tm', mk⟩) tm mk := by
 intro s r s' h ρ a w ht hn hd hw hf Q hK
 obtain ⟨tm', s1, h1, h2⟩ := ebind_ok h
 obtain ⟨rfl, rfl⟩ := epure_ok h2
 cases draw with
 |false =>
  refine wpIn_region ?_
  have := ops_ok hR hL hG hF (n := n) (Q := Q) (l := ops.toList) (d := a.defers) ops.toList 0 ρ tm s a w rfl h1 ht hn rfl hw hf fun σ a' w' he hw' ht' hn' hd' => hK σ a' w' he hw' ht' hn' (by rw [hd']; exact hd.up he.1)
  rw [← List.range_eq_range'] at this
  exact this
 |true =>
  refine wpIn_region_any hm ?_
  have := draw_ok hR hL hG hF (n := n) (Q := Q) h1 ht hn hw.drew hf fun σ a' w' he hw' ht' hn' hd' => hK σ a' w' he hw' ht' hn' (by rw [hd']; exact hd.up he.1)
  exact this
theorem wpIn_loop_k {F : Fence} {n : Nat} {c : Code} {Q : Exit → Act → World → Prop} (J : Nat → Act → World → Prop) (hr : ∀ k a w, J k a w → ∃ j, k = j + 1 ∧ c.wpIn F n P (Exit.then (J j) Q) a w) {k : Nat} {a : Act} {w : World} (h0 : J k a w) : (Code.loop c).wpIn F n P Q a w := by
 intro b kk cs hro hb hroom
 have key : ∀ k a w, J k a w → ∃ e a' w', Q e a' w' ∧ ArrivesIn (Machine.fenced P F) P (lone (b.atR a (.code c :: .inLoop c :: kk)) cs w) b kk cs e a' w' := by
  intro k
  induction k with
  |zero =>
   intro a w h
   obtain ⟨j, h1, _⟩ := hr 0 a w h
   cases h1
  |succ k ih =>
   intro a w h
   obtain ⟨j, h1, h2⟩ := hr _ a w h
   cases h1
   obtain ⟨e, a1, w1, hq, harr⟩ := h2 b (.inLoop c :: kk) cs hro hb hroom
   cases e with
   |normal =>
    obtain ⟨e2, a2, w2, hq2, harr2⟩ := ih a1 w1 hq
    exact ⟨e2, a2, w2, hq2, .of_steps (StepsIn.trans harr (.one (fenced_calm hb hroom rfl) stepR_inLoop)) harr2⟩
   |exit id => exact ⟨_, a1, w1, hq, .pass (x := .inLoop c) rfl (fun _ _ => .inl (by simp)) harr⟩
   |goto l => exact ⟨_, a1, w1, hq, .pass (x := .inLoop c) rfl (fun _ _ => .inl (by simp)) harr⟩
   |ret => exact ⟨_, a1, w1, hq, .pass (x := .inLoop c) rfl (fun _ _ => .inl (by simp)) harr⟩
   |panic ch => exact ⟨_, a1, w1, hq, .pass (x := .inLoop c) rfl (fun _ _ => .inl (by simp)) harr⟩
   |outgrown => exact ⟨_, a1, w1, hq, .pass (x := .inLoop c) rfl (fun _ _ => .inl (by simp)) harr⟩
 obtain ⟨e, a', w', hq, harr⟩ := key k a w h0
 exact ⟨e, a', w', hq, .of_steps (.one (fenced_calm hb hroom rfl) stepR_loop) harr⟩
theorem cok_loop {F : Fence} {n N : Nat} {c : Code} {body : ET AV → List Nat → EM ERun} (hl : ∀ tm mk, Loc (body tm mk)) (hb : ∀ tm mk, COK P w0 F n N c (body tm mk) tm mk) (k : Nat) (tm : ET AV) (mk : List Nat) :
  COK P w0 F n N (.loop c) (eloop body k tm mk) tm mk := by
 intro s r s' h ρ a w ht hn hd hw hf Q hK
 refine wpIn_loop_k (fun k a1 w1 => ∃ σ tm1 mk1 s1, eloop body k tm1 mk1 s1 = .ok r s' ∧ EExt ρ σ s.nx s1.nx ∧ s.nx ≤ s1.nx ∧ ERel P w0 σ s1.hp w1 ∧ TR σ tm1 a1.tmps ∧ a1.tmps.size = N ∧ DM σ mk1 a1.defers) ?_ (k := k)
  ⟨ρ, tm, mk, s, h, EExt.refl _ _ _, Nat.le_refl _, hw, ht, hn, hd⟩
 rintro k a1 w1 ⟨σ, tm1, mk1, s1, h1, he1, hx1, hw1, ht1, hn1, hd1⟩
 cases k with
 |zero => exact (efail_ok (e := [95]) (s := s1) h1).elim
 |succ k =>
  refine ⟨k, rfl, ?_⟩
  obtain ⟨r2, s2, h2, h3⟩ := ebind_ok (m := body tm1 mk1) h1
  have l2 := hl tm1 mk1 _ _ _ h2
  have hnx : s2.nx ≤ s'.nx := by
   cases hro : r2.o with
   |nm => rw [hro] at h3; exact (loc_loop hl k _ _ _ _ _ h3).nx
   |_ => rw [hro] at h3; obtain ⟨_, rfl⟩ := epure_ok (a := r2) h3; exact Nat.le_refl _
  refine hb tm1 mk1 s1 r2 s2 h2 σ a1 w1 ht1 hn1 hd1 hw1 (fun j h4 h5 => ?_) _ fun τ a2 w2 he2 hw2 ht2 hn2 hd2 => ?_
  ·rw [he1.2 j (by omega)]
   exact hf j (by omega) (by omega)
  ·have he := he1.trans he2 hx1 l2.nx
   cases hro : r2.o with
   |nm =>
    rw [hro] at h3
    exact ⟨τ, r2.tm, r2.ms, s2, h3, he, Nat.le_trans hx1 l2.nx, hw2, ht2, hn2, hd2⟩
   |ex i =>
    rw [hro] at h3
    obtain ⟨rfl, rfl⟩ := epure_ok (a := r2) h3
    have := hK τ a2 w2 he hw2 ht2 hn2 hd2
    rw [hro] at this
    exact this
   |rt =>
    rw [hro] at h3
    obtain ⟨rfl, rfl⟩ := epure_ok (a := r2) h3
    have := hK τ a2 w2 he hw2 ht2 hn2 hd2
    rw [hro] at this
    exact this
end
end
end Go.Proofs.YtkjmgbifoaoefaaGreatDoor
