/-
 Ranges over functions, met by the evaluator's run of them; all code. Functions and rounds, met by the evaluator's run of them. Rounds, and the evaluator whole. Functions that the evaluator meets by what they are known to do: counting, searching, joining. Functions that the evaluator meets by what they are known to do: joining, the builder's check. Functions that the evaluator meets by what they are known to do: the builder's check.
-/
import Derived.Test.YtkjmgbifoaoefaaGreatDoorQEwG
import Derived.Test.YtkjmgbifoaoefaaGreatDoorQEngP
import Derived.Test.YtkjmgbifoaoefaaGreatDoorQShelf
import Derived.Lib.Bytealg
import Derived.Lib.Index
import Derived.Lib.Join
import Derived.Test.YtkjmgbifoaoefaaGreatDoorQBuild
set_option maxRecDepth 100000
set_option maxHeartbeats 8000000
namespace Go.Proofs.YtkjmgbifoaoefaaGreatDoor
section
open Go.RowKit
section
variable {P : Program} {w0 : World}
def REnt (P : Program) (R : ERec) : Prop := ∀ f l s v s', R.en f = true → R.fn f l s = .ok v s' → ∀ args w, (callFunc f args).run P w = .ok (.enter f args) w
theorem turn_put {w : World} {g : Nat} {o0 : Obj} (h : w.heap[g]? = some o0) (o : Obj) : Turn g o w (w.putObj g o) := ⟨⟨rfl, rfl, rfl, by simp, fun k _ hk => World.putObj_heap_other (by simpa using hk)⟩, by simp, World.putObj_heap_same (heap_lt h)⟩
theorem stOf_busy {st : Nat} (h : Nat.beq st 1 = false) : stOf st ≠ .busy := by
 match st, h with
 |0, _ => intro e; cases e
 |2, _ => intro e; cases e
 |(n + 3), _ => intro e; cases e
theorem cok_range {R : ERec} (hR : RSound P w0 R) (hE : REnt P R) (hL : RLoc R) {n N : Nat} (f : FuncId) (g : Operand) (ps : Array Tmp) (assign body : Code) (tm : ET AV) (mk : List Nat) :
  COK P w0 Fence.wide n N (.rangeFunc g ps assign body) (erangeFunc R f N false g ps.toList assign body tm mk) tm mk := by
 intro s r s' h ρ a w ht hn hd hw hf Q hK
 unfold erangeFunc at h
 have hg := evO_vr ht g
 obtain ⟨gv, hgv⟩ : ∃ gv, evO tm g = gv := ⟨_, rfl⟩
 obtain ⟨gx, hgx⟩ : ∃ gx, a.eval g = gx := ⟨_, rfl⟩
 rw [hgv, hgx] at hg
 rw [hgv] at h
 cases hg with
 |fn k x y xs ys hx hy =>
  obtain ⟨hen, h⟩ := ecase_ok (s := s) h
  obtain ⟨d, s1, h1, h2⟩ := ebind_ok (s := s) h
  obtain ⟨l, s2, h3, h4⟩ := ebind_ok h2
  obtain ⟨v, s3, h5, h6⟩ := ebind_ok h4
  obtain ⟨b, s4, h7, h8⟩ := ebind_ok h6
  have n1 := (loc_new _ _ _ _ h1).nx
  have n2 := (loc_new _ _ _ _ h3).nx
  have n3 := (hL.fn _ _ _ _ _ h5).nx
  obtain ⟨hb, rfl⟩ := eget_ok h7
  have hi1 := enew_ok h1
  have hi2 := enew_ok h3
  have hend : ∃ (st : Nat) (j : Option (Option Nat)) (f' : FuncId) (tm' : ET AV) (n' : Nat) (ps' : List Nat) (a' b' : Code) (d' : Nat), b = .lp st j f' tm' n' ps' a' b' d' ∧ Nat.beq st 1 = false ∧ s'.hp = s3.hp.set (l + 1) (.lp 3 j f' tm' n' ps' a' b' d') ∧ s'.nx = s3.nx ∧
    r = (match j with | none => ⟨.nm, tm, d :: mk⟩ | some none => ⟨.rt, tm, d :: mk⟩ | some (some i) => ⟨.ex i, tm, d :: mk⟩) := by
   cases b with
   |lp st j f' tm' n' ps' a' b' d' =>
    simp only at h8
    cases hst : Nat.beq st 1 with
    |true => rw [hst] at h8; exact (efail_ok (e := [92]) h8).elim
    |false =>
     rw [hst] at h8
     obtain ⟨u, s5, h9, h10⟩ := ebind_ok (m := eset l (.lp 3 j f' tm' n' ps' a' b' d')) (f := fun _ => ejump ⟨.nm, tm, d :: mk⟩ j) h8
     have h11 := eset_ok h9
     subst h11
     refine ⟨_, _, _, _, _, _, _, _, _, rfl, hst, ?_⟩
     cases j with
     |none => obtain ⟨rfl, rfl⟩ := epure_ok (a := (⟨.nm, tm, d :: mk⟩ : ERun)) h10; exact ⟨rfl, rfl, rfl⟩
     |some j => cases j with
      |none => obtain ⟨rfl, rfl⟩ := epure_ok (a := (⟨.rt, tm, d :: mk⟩ : ERun)) h10; exact ⟨rfl, rfl, rfl⟩
      |some i => obtain ⟨rfl, rfl⟩ := epure_ok (a := (⟨.ex i, tm, d :: mk⟩ : ERun)) h10; exact ⟨rfl, rfl, rfl⟩
   |_ => exact (efail_ok (e := [92]) h8).elim
  obtain ⟨st, j, f', tm', n', ps', a', b', d', rfl, hst, hhp, hnx, hrr⟩ := hend
  have hf1 : ρ s.nx = none := hf _ (Nat.le_refl _) (by rw [hnx]; have h9 : s1.nx = s.nx + 1 := congrArg ESt.nx hi1.2; omega)
  obtain ⟨ed, en1, hw1, he1⟩ := new_obj h1 hw hf1 (o := .deferred (some [])) fun _ _ => rfl
  obtain ⟨σ1, hσ1⟩ : ∃ σ1, eup ρ s.nx ⟨w.heap.size, 0, 0⟩ = σ1 := ⟨_, rfl⟩
  rw [hσ1] at hw1 he1
  have hs1d : σ1 d = some ⟨w.heap.size, 0, 0⟩ := by rw [← hσ1, ed]; exact eup_same _ _ _
  refine wpIn_rangeFunc fun fn _ => ?_
  have hf2 : σ1 s1.nx = none := by
   rw [he1.2 _ (by omega)]
   exact hf _ n1 (by rw [hnx]; have h9 : s2.nx = s1.nx + 1 := congrArg ESt.nx hi2.2; omega)
  obtain ⟨el, en2, hw2, he2⟩ := new_obj h3 hw1 hf2 (o := .loop { state := .ready, pending := none, fn := fn, tmps := a.tmps, params := ps, assign := assign, body := body, defers := w.heap.size }) fun σ hle => ⟨a.tmps, ⟨w.heap.size, 0, 0⟩, fn, hle d _ hs1d, ht.up (he1.1.trans hle), hn, rfl⟩
  rw [World.size_alloc] at hw2 he2
  obtain ⟨W2, hW2⟩ : ∃ W2, (w.alloc (.deferred (some []))).alloc (.loop { state := .ready, pending := none, fn := fn, tmps := a.tmps, params := ps, assign := assign, body := body, defers := w.heap.size }) = W2 := ⟨_, rfl⟩
  rw [hW2] at hw2
  obtain ⟨σ2, hσ2⟩ : ∃ σ2, eup σ1 s1.nx ⟨w.heap.size + 1, 0, 0⟩ = σ2 := ⟨_, rfl⟩
  rw [hσ2] at hw2 he2
  have hs2l : σ2 l = some ⟨w.heap.size + 1, 0, 0⟩ := by rw [← hσ2, el]; exact eup_same _ _ _
  have hargs : VRs σ2 (lapp x (.yl l :: y)) (xs ++ (.func (.yield (w.heap.size + 1)) #[] #[]) :: ys) := by
   rw [lapp_eq]
   exact (hx.up (he1.1.trans he2.1)).append (.cons _ _ _ _ (.yl l ⟨w.heap.size + 1, 0, 0⟩ hs2l) (hy.up (he1.1.trans he2.1)))
  have hcall := hR.fn σ2 k _ _ hargs s2 v s3 h5 _ hw2 (fun q h9 h10 => by
   rw [he2.2 q (by omega), he1.2 q (by omega)]
   exact hf q (by omega) (by omega))
  rw [hE _ _ _ _ _ hen h5] at hcall
  refine ⟨w.heap.size + 1, [{ target := .collected w.heap.size, args := #[] }], W2, { target := .fn (.func k) ys.toArray, args := xs.toArray ++ #[.func (.yield (w.heap.size + 1)) #[] #[]] }, W2, k, xs.toArray ++ #[.func (.yield (w.heap.size + 1)) #[] #[]] ++ ys.toArray, W2, by rw [← hW2]; exact run_enterLoop_outer _ _ _ _ _, ?_, ?_, ?_, (fun e => by cases e), ?_⟩
  ·simp only [resolve, hgx]
   simp [go_sem]
  ·intro _ _; trivial
  ·show (callFunc k _).run P _ = _
   exact hE _ _ _ _ _ hen h5 _ _
  ·rw [show (xs.toArray ++ #[Value.func (.yield (w.heap.size + 1)) #[] #[]] ++ ys.toArray) = (xs ++ (.func (.yield (w.heap.size + 1)) #[] #[]) :: ys).toArray from by apply Array.ext'; simp]
   refine (hcall (n - 1)).mono fun e w3 he => ?_
   obtain ⟨v', rfl, σ3, -, hw3, he3⟩ := he
   obtain ⟨q, o, hq, -, hcell, ts, qd, gg, hq1, hq2, hq3, rfl⟩ := hw3.blk l _ hb
   have hq' := he3.1 l _ hs2l
   rw [hq] at hq'
   cases hq'
   refine ⟨_, _, run_endLoop (P := P) hcell (stOf_busy hst), ?_⟩
   have hw4 := hw3.set hb hq (turn_put hcell (.loop { state := .exhausted, pending := jumpOf j, fn := gg, tmps := ts, params := ps'.toArray, assign := a', body := b', defers := qd.b })) (b' := .lp 3 j f' tm' n' ps' a' b' d') ⟨ts, qd, gg, hq1, hq2, hq3, rfl⟩
   rw [← hhp] at hw4
   have he : EExt ρ σ3 s.nx s'.nx := by
    rw [hnx]
    exact (he1.trans he2 n1 n2).trans he3 (Nat.le_trans n1 n2) n3
   have hfin := hK σ3 { a with defers := [{ target := .collected w.heap.size, args := #[] }] ++ a.defers } _ he hw4
   have hd3 : DM σ3 (d :: mk) ([{ target := .collected w.heap.size, args := #[] }] ++ a.defers) := .cons d ⟨w.heap.size, 0, 0⟩ _ _ (he3.1 _ _ (he2.1 _ _ hs1d)) (hd.up he.1)
   cases j with
   |none => subst hrr; exact hfin (ht.up he.1) hn hd3
   |some j => cases j with
    |none => subst hrr; exact wpIn_ret (hfin (ht.up he.1) hn hd3)
    |some i => subst hrr; exact wpIn_exit (hfin (ht.up he.1) hn hd3)
 |_ => exact (efail_ok (e := [93 - 1]) (s := s) (by first | exact h | (exfalso; cases h))).elim
theorem code_ok {R : ERec} (hR : RSound P w0 R) (hE : REnt P R) (hL : RLoc R) {G : Globs} (hG : GlobR w0 G) (hm : P.follows .mixedOrders = true) (f N : Nat) (inr : Bool) {F : Fence} (hF : Fen F) (hi : inr = false → F = Fence.wide) (c : Code) :
  ∀ (n : Nat) (tm : ET AV) (mk : List Nat), COK P w0 F n N c (evCode P G R f N inr c tm mk) tm mk := by
 induction c with
 |skip =>
  intro n tm mk s r s' h ρ a w ht hn hd hw hf Q hK
  obtain ⟨rfl, rfl⟩ := epure_ok (a := (⟨.nm, tm, mk⟩ : ERun)) h
  exact wpIn_skip (hK ρ a w (EExt.refl _ _ _) hw ht hn hd)
 |label i =>
  intro n tm mk s r s' h ρ a w ht hn hd hw hf Q hK
  obtain ⟨rfl, rfl⟩ := epure_ok (a := (⟨.nm, tm, mk⟩ : ERun)) h
  exact wpIn_label (hK ρ a w (EExt.refl _ _ _) hw ht hn hd)
 |ret =>
  intro n tm mk s r s' h ρ a w ht hn hd hw hf Q hK
  obtain ⟨rfl, rfl⟩ := epure_ok (a := (⟨.rt, tm, mk⟩ : ERun)) h
  exact wpIn_ret (hK ρ a w (EExt.refl _ _ _) hw ht hn hd)
 |exit i =>
  intro n tm mk s r s' h ρ a w ht hn hd hw hf Q hK
  obtain ⟨rfl, rfl⟩ := epure_ok (a := (⟨.ex i, tm, mk⟩ : ERun)) h
  exact wpIn_exit (hK ρ a w (EExt.refl _ _ _) hw ht hn hd)
 |region id ops draw => exact fun n tm mk => cok_region hR hL hG hm hF id ops draw tm mk
 |seq x y ihx ihy =>
  intro n tm mk s r s' h ρ a w ht hn hd hw hf Q hK
  obtain ⟨r1, s1, h1, h2⟩ := ebind_ok (m := evCode P G R f N inr x tm mk) h
  have l1 := (loc_code' P hL G f N inr x tm mk _ _ _ h1).nx
  cases hro : r1.o with
  |nm =>
   rw [hro] at h2
   have h2' : evCode P G R f N inr y r1.tm r1.ms s1 = .ok r s' := h2
   have l2 := (loc_code' P hL G f N inr y _ _ _ _ _ h2').nx
   refine wpIn_seq (ihx n tm mk s r1 s1 h1 ρ a w ht hn hd hw (fun j a b => hf j a (by omega)) _ fun σ a1 w1 he hw1 ht1 hn1 hd1 => ?_)
   rw [hro]
   refine ihy n r1.tm r1.ms s1 r s' h2' σ a1 w1 ht1 hn1 hd1 hw1 (fun j a b => ?_) Q fun τ a2 w2 he2 hw2 ht2 hn2 hd2 => hK τ a2 w2 (he.trans he2 l1 l2) hw2 ht2 hn2 hd2
   rw [he.2 j (by omega)]
   exact hf j (by omega) b
  |ex i =>
   rw [hro] at h2
   obtain ⟨rfl, rfl⟩ := epure_ok (a := r1) h2
   refine wpIn_seq (ihx n tm mk s _ _ h1 ρ a w ht hn hd hw hf _ fun σ a1 w1 he hw1 ht1 hn1 hd1 => ?_)
   have := hK σ a1 w1 he hw1 ht1 hn1 hd1
   rw [hro] at this ⊢
   exact this
  |rt =>
   rw [hro] at h2
   obtain ⟨rfl, rfl⟩ := epure_ok (a := r1) h2
   refine wpIn_seq (ihx n tm mk s _ _ h1 ρ a w ht hn hd hw hf _ fun σ a1 w1 he hw1 ht1 hn1 hd1 => ?_)
   have := hK σ a1 w1 he hw1 ht1 hn1 hd1
   rw [hro] at this ⊢
   exact this
 |cond c x y ihx ihy =>
  intro n tm mk s r s' h ρ a w ht hn hd hw hf Q hK
  have h' : (match evO tm c with
   |.bo t => Bool.rec (evCode P G R f N inr y tm mk) (evCode P G R f N inr x tm mk) t
   |_ => efail [94] : EM ERun) s = .ok r s' := h
  have hc := evO_vr ht c
  obtain ⟨cv, hcv⟩ : ∃ cv, evO tm c = cv := ⟨_, rfl⟩
  obtain ⟨cx, hcx⟩ : ∃ cx, a.eval c = cx := ⟨_, rfl⟩
  rw [hcv, hcx] at hc
  rw [hcv] at h'
  cases hc with
  |bo t =>
   cases t with
   |false => exact wpIn_cond_false hcx (ihy n tm mk s r s' h' ρ a w ht hn hd hw hf Q hK)
   |true => exact wpIn_cond_true hcx (ihx n tm mk s r s' h' ρ a w ht hn hd hw hf Q hK)
  |_ => exact (efail_ok (e := [94]) (s := s) h').elim
 |block id x ih =>
  intro n tm mk s r s' h ρ a w ht hn hd hw hf Q hK
  obtain ⟨r1, s1, h1, h2⟩ := ebind_ok (m := evCode P G R f N inr x tm mk) h
  refine wpIn_block (ih n tm mk s r1 s1 h1 ρ a w ht hn hd hw (fun j a b => hf j a ?_) _ fun σ a1 w1 he hw1 ht1 hn1 hd1 => ?_)
  ·cases hro : r1.o with
   |ex i =>
    rw [hro] at h2
    cases hbe : Nat.beq i id with
    |false => simp only [hbe] at h2; obtain ⟨_, rfl⟩ := epure_ok (a := r1) h2; exact b
    |true => simp only [hbe] at h2; obtain ⟨_, rfl⟩ := epure_ok (a := (⟨.nm, r1.tm, r1.ms⟩ : ERun)) h2; exact b
   |_ => rw [hro] at h2; obtain ⟨_, rfl⟩ := epure_ok (a := r1) h2; exact b
  ·cases hro : r1.o with
   |nm =>
    rw [hro] at h2
    obtain ⟨rfl, rfl⟩ := epure_ok (a := r1) h2
    have := hK σ a1 w1 he hw1 ht1 hn1 hd1
    rw [hro] at this
    exact this
   |rt =>
    rw [hro] at h2
    obtain ⟨rfl, rfl⟩ := epure_ok (a := r1) h2
    have := hK σ a1 w1 he hw1 ht1 hn1 hd1
    rw [hro] at this
    exact this
   |ex i =>
    rw [hro] at h2
    show if i = id then Q .normal a1 w1 else Q (.exit i) a1 w1
    cases hbe : Nat.beq i id with
    |false =>
     simp only [hbe] at h2
     obtain ⟨rfl, rfl⟩ := epure_ok (a := r1) h2
     rw [if_neg fun e => by subst e; rw [show Nat.beq i i = true from Nat.beq_refl i] at hbe; cases hbe]
     have := hK σ a1 w1 he hw1 ht1 hn1 hd1
     rw [hro] at this
     exact this
    |true =>
     simp only [hbe] at h2
     obtain ⟨rfl, rfl⟩ := epure_ok (a := (⟨.nm, r1.tm, r1.ms⟩ : ERun)) h2
     rw [if_pos (nbeq_t hbe)]
     exact hK σ a1 w1 he hw1 ht1 hn1 hd1
 |loop x ih => exact fun n tm mk => cok_loop (fun tm mk => loc_code' P hL G f N inr x tm mk) (fun tm mk => ih n tm mk) 100000 tm mk
 |rangeFunc g ps x y _ _ =>
  intro n tm mk
  cases inr with
  |true => exact fun s r s' h => (efail_ok (e := [93]) (s := s) h).elim
  |false =>
   rw [hi rfl]
   exact cok_range hR hE hL f g ps x y tm mk
 |scope x _ => exact fun n tm mk s r s' h => (efail_ok (e := [96]) (s := s) h).elim
 |goto i => exact fun n tm mk s r s' h => (efail_ok (e := [97]) (s := s) h).elim
 |refuse y => exact fun n tm mk s r s' h => (efail_ok (e := [98]) (s := s) h).elim
end
end
section
open Go.RowKit
section
variable {P : Program} {w0 : World}
theorem load_calm {ρ : ERho} {G : Globs} (hG : GlobR w0 G) {t : TypeId} {a v : AV} {x : Value} (ha : VR ρ a x) {s s' : ESt} (hm : eload P G t a s = .ok v s') : s'.hp = s.hp ∧ s'.nx = s.nx ∧ ∀ w, ERel P w0 ρ s.hp w → ∃ ad y, x = .pointer (some ad) ∧ (loadVar t ad).run P w = .ok y w ∧ VR ρ v y := by
 cases ha with
 |pt i o r hr =>
  obtain ⟨y, s1, h1, h2⟩ := ebind_ok (s := s) hm
  obtain ⟨hb, rfl⟩ := ecells_ok h1
  obtain ⟨rfl, -⟩ := vpart_ok h2
  refine ⟨rfl, rfl, fun w hw => ?_⟩
  obtain ⟨c, f, z, hc, -, -, -, hl⟩ := hp_cells hw hb hr
  obtain ⟨u, hu, hv⟩ := read_run h2 hc hl
  exact ⟨_, u, rfl, hu, hv⟩
 |gp g o =>
  obtain ⟨y, s1, h1, h2⟩ := ebind_ok (s := s) hm
  obtain ⟨hg, rfl⟩ := eag_ok h1
  obtain ⟨h3, h4⟩ := ecase_ok h2
  obtain ⟨h5, rfl⟩ := eopt_ok h4
  refine ⟨rfl, rfl, fun w hw => ?_⟩
  obtain ⟨u, hu, hlt, hv⟩ := hG g o v h5
  have hc : w.cell? ⟨g, o, none⟩ = some u := (hw.fp.cell hlt (by simp)).trans hu
  cases y with
  |true => cases h3
  |false =>
   refine ⟨_, u, rfl, ?_, hv _⟩
   unfold loadVar
   simp only [Sem.run_bind, Result.andThen_ok, run_ag hg]
   simp [hc]
 |_ => exact (efail_ok (e := [7]) (s := s) hm).elim
noncomputable def resA (P : Program) (G : Globs) (tm : ET AV) : ResultVar → EM AV
 |.tmp t => epure (tmGet tm t)
 |.cell a t => eload P G t (tmGet tm a)
def resS (ts : Array Value) : ResultVar → Sem Value
 |.tmp t => pure (ts.getD t undef)
 |.cell a t => do loadVar t (← asAddr (ts.getD a undef))
theorem results_run (fn : Func) (ts : Array Value) : results fn ts = (do
  let vs ← fn.results.mapM (resS ts)
  pure (if h : vs.size = 1 then vs[0] else .tuple vs)) := by
 have h : ∀ g : ResultVar → Sem Value, (∀ r, g r = resS ts r) → (do
   let vs ← fn.results.mapM g
   pure (if h : vs.size = 1 then vs[0] else .tuple vs) : Sem Value) = (do
   let vs ← fn.results.mapM (resS ts)
   pure (if h : vs.size = 1 then vs[0] else .tuple vs)) := fun g hg => by rw [show g = resS ts from funext hg]
 exact h _ fun r => by cases r <;> rfl
theorem results_ok {ρ : ERho} {G : Globs} (hG : GlobR w0 G) {tm : ET AV} {ts : Array Value} (ht : TR ρ tm ts) : ∀ (rs : List ResultVar) (vs : List AV) (s s' : ESt), eresults P G rs tm s = .ok vs s' → s'.hp = s.hp ∧ s'.nx = s.nx ∧
  ∀ w, ERel P w0 ρ s.hp w → ∃ xs : List Value, (rs.mapM (resS ts)).run P w = .ok xs w ∧ VRs ρ vs xs
 |[], vs, s, s', h => by
  obtain ⟨rfl, rfl⟩ := epure_ok (a := ([] : List AV)) h
  exact ⟨rfl, rfl, fun w _ => ⟨[], by simp, .nil⟩⟩
 |r :: rs, vs, s, s', h => by
  obtain ⟨v, s1, h1, h2⟩ := ebind_ok (m := resA P G tm r) (f := fun v => ebind (eresults P G rs tm) fun vs => epure (v :: vs)) (by cases r <;> exact h)
  obtain ⟨us, s2, h3, h4⟩ := ebind_ok (m := eresults P G rs tm) h2
  obtain ⟨rfl, rfl⟩ := epure_ok h4
  obtain ⟨e1, e2, hr⟩ := results_ok hG ht rs us s1 _ h3
  have hd : s1.hp = s.hp ∧ s1.nx = s.nx ∧ ∀ w, ERel P w0 ρ s.hp w → ∃ y, (resS ts r).run P w = .ok y w ∧ VR ρ v y := by
   cases r with
   |tmp t =>
    obtain ⟨rfl, rfl⟩ := epure_ok (a := tmGet tm t) h1
    exact ⟨rfl, rfl, fun w _ => ⟨_, rfl, ht t⟩⟩
   |cell a t =>
    obtain ⟨h5, h6, h7⟩ := load_calm hG (ht a) h1
    refine ⟨h5, h6, fun w hw => ?_⟩
    obtain ⟨ad, y, h8, h9, h10⟩ := h7 w hw
    refine ⟨y, ?_, h10⟩
    simp only [resS, h8, asAddr, Sem.run_bind, Sem.run_pure, Result.andThen_ok, h9]
  obtain ⟨d1, d2, d3⟩ := hd
  refine ⟨e1.trans d1, e2.trans d2, fun w hw => ?_⟩
  obtain ⟨y, hy, hv⟩ := d3 w hw
  obtain ⟨xs, hxs, hvs⟩ := hr w (by rw [d1]; exact hw)
  refine ⟨y :: xs, ?_, .cons _ _ _ _ hv hvs⟩
  rw [List.mapM_cons, Sem.run_bind, hy]
  simp only [Result.andThen_ok, Sem.run_bind, hxs, Sem.run_pure]
theorem tuple_vr {ρ : ERho} {vs : List AV} {xs : List Value} (h : VRs ρ vs xs) : VR ρ (etuple vs) (if h : xs.toArray.size = 1 then xs.toArray[0] else .tuple xs.toArray) := by
 cases h with
 |nil => exact .un
 |cons v x l ys h hs =>
  cases hs with
  |nil => exact h
  |cons v2 x2 l2 ys2 h2 hs2 =>
   rw [dif_neg (by simp)]
   exact .tu _ _ (.cons _ _ _ _ h (.cons _ _ _ _ h2 hs2))
theorem earg_get (t : Nat) : ∀ (l : List AV) (i : Nat) (tm : ET AV), tmGet (earg l i tm) t = if i ≤ t ∧ t < i + l.length then l.getD (t - i) .un else tmGet tm t
 |[], i, tm => by rw [if_neg (by simp only [List.length_nil]; omega)]; rfl
 |v :: l, i, tm => by
  show tmGet (earg l (i + 1) (tm.set (i + 1) v)) t = _
  rw [earg_get t l (i + 1), tmGet_set]
  simp only [List.length_cons]
  by_cases e : t = i
  ·subst e
   rw [if_neg (by omega), if_pos rfl, if_pos (by omega)]
   simp
  ·by_cases h : i + 1 ≤ t ∧ t < i + 1 + l.length
   ·rw [if_pos h, if_pos (by omega), show t - i = (t - (i + 1)) + 1 by omega]
    simp
   ·rw [if_neg h, if_neg e, if_neg (by omega)]
theorem earg_tr {ρ : ERho} {l : List AV} {xs : List Value} (h : VRs ρ l xs) (k : Nat) : TR ρ (earg l 0 .lf) (xs.toArray ++ Array.replicate k undef) := fun t => by
 rw [earg_get]
 have hlen := h.length
 by_cases ht : t < l.length
 ·rw [if_pos (by omega)]
  have h1 : l[t]? = some l[t] := List.getElem?_eq_getElem ht
  obtain ⟨x, hx, hv⟩ := h.nth h1
  rw [Nat.sub_zero, List.getD_eq_getElem?_getD, h1, Array.getD_eq_getD_getElem?, Array.getElem?_append_left (by simp; omega)]
  simp only [List.getElem?_toArray, hx]
  exact hv
 ·rw [if_neg (by omega), Array.getD_eq_getD_getElem?, Array.getElem?_append_right (by simp; omega), Array.getElem?_replicate]
  have : tmGet (.lf : ET AV) t = .un := rfl
  rw [this]
  split <;> exact .un
theorem marks_ok {fn : Func} {ts : Array Value} {K : Ending → World → Prop} {n : Nat} {ρ : ERho} : ∀ (mk : List Nat) (ds : List Deferred) (s s' : ESt) (u : Unit) (w : World), emarks mk s = .ok u s' → DM ρ mk ds → ERel P w0 ρ s.hp w →
  s'.nx = s.nx ∧ ((∀ w', ERel P w0 ρ s'.hp w' → LeavesIn Fence.wide n P fn ts K [] .returning w') → LeavesInM Fence.wide n P fn ts K ds .returning w)
 |[], _, s, s', u, w, h, .nil, hw => by
  obtain ⟨_, rfl⟩ := epure_ok (a := ()) h
  exact ⟨rfl, fun hK => hK w hw⟩
 |d :: mk, _, s, s', u, w, h, .cons _ q _ ds hq hs, hw => by
  obtain ⟨b, s1, h1, h2⟩ := ebind_ok (m := eget d) h
  obtain ⟨hb, rfl⟩ := eget_ok h1
  cases b with
  |df =>
   obtain ⟨u2, s2, h3, h4⟩ := ebind_ok (m := eset d .dn) (f := fun _ => emarks mk) h2
   have h5 := eset_ok h3
   subst h5
   obtain ⟨q2, o, hq2, _, hcell, rfl⟩ := hw.blk d _ hb
   rw [hq] at hq2
   cases hq2
   have hw2 := hw.set hb hq (turn_put hcell (.deferred none)) (b' := .dn) rfl
   obtain ⟨h6, h7⟩ := marks_ok mk ds _ s' u _ h4 hs hw2
   exact ⟨h6, fun hK => ⟨by simp, Or.inl ⟨q.b, _, rfl, run_takeDeferred hcell, h7 hK⟩⟩⟩
  |_ => exact (efail_ok (e := [99]) h2).elim
def ISound (P : Program) (w0 : World) (I : Intr) : Prop := ∀ f g, I f = some g → ∀ ρ l xs, VRs ρ l xs → EVN P w0 ρ (g l) (callFunc f xs.toArray)
theorem fun_ent {R : ERec} {G : Globs} {I : Intr} {f : FuncId} (hi : I f = none) {l : List AV} {s s' : ESt} {v : AV} (h : evFun P G R I f l s = .ok v s') (args : Array Value) (w : World) : (callFunc f args).run P w = .ok (.enter f args) w := by
 unfold evFun at h
 rw [hi] at h
 cases hfn : P.funcs[f]? with
 |none => rw [hfn] at h; exact (efail_ok (e := [103, f]) (s := s) h).elim
 |some fn =>
  simp only [hfn] at h
  cases hb : fn.body with
  |none => rw [hb] at h; exact (efail_ok (e := [102, f]) (s := s) h).elim
  |some c =>
   simp only [hb] at h
   cases hc : iand (Nat.ble (llen l) fn.ntmps) (Bool.not (fn.name == "runtime.NumGoroutine")) with
   |false => rw [hc] at h; exact (efail_ok (e := [100, f]) (s := s) h).elim
   |true =>
    rw [iand_eq, Bool.and_eq_true] at hc
    have hn : (fn.name == "runtime.NumGoroutine") = false := by simpa using hc.2
    unfold callFunc
    simp only [Sem.run_bind, run_program, Result.andThen_ok, hfn, hn, hb]
    rfl
theorem fun_ok {R : ERec} (hR : RSound P w0 R) (hE : REnt P R) (hL : RLoc R) {G : Globs} (hG : GlobR w0 G) (hm : P.follows .mixedOrders = true) {I : Intr} {ρ : ERho} {f : FuncId} (hi : I f = none) {l : List AV} {xs : List Value} (hx : VRs ρ l xs) {s s' : ESt} {v : AV} (h : evFun P G R I f l s = .ok v s')
  {w : World} (hw : ERel P w0 ρ s.hp w) (hf : ∀ j, s.nx ≤ j → j < s'.nx → ρ j = none) (n : Nat) : CallsIn Fence.wide n P f xs.toArray w fun e w' => ∃ x, e = .returned x ∧ KOK P w0 ρ v s s' x w' := by
 unfold evFun at h
 rw [hi] at h
 cases hfn : P.funcs[f]? with
 |none => rw [hfn] at h; exact (efail_ok (e := [103, f]) (s := s) h).elim
 |some fn =>
  simp only [hfn] at h
  cases hb : fn.body with
  |none => rw [hb] at h; exact (efail_ok (e := [102, f]) (s := s) h).elim
  |some c =>
   simp only [hb] at h
   cases hc : iand (Nat.ble (llen l) fn.ntmps) (Bool.not (fn.name == "runtime.NumGoroutine")) with
   |false => rw [hc] at h; exact (efail_ok (e := [100, f]) (s := s) h).elim
   |true =>
    rw [hc] at h
    rw [iand_eq, Bool.and_eq_true] at hc
    have hle := nble_iff.1 hc.1
    rw [llen_eq, hx.length] at hle
    obtain ⟨r, s1, h1, h2⟩ := ebind_ok (m := evCode P G R f fn.ntmps false c (earg l 0 .lf) []) (s := s) h
    have l1 := (loc_code' P hL G f fn.ntmps false c _ _ _ _ _ h1).nx
    refine callsIn_of_wp_marks hfn hb trivial ?_
    have hend : (r.o = .nm ∨ r.o = .rt) ∧ ∃ u s2 vs, emarks r.ms s1 = .ok u s2 ∧ eresults P G fn.results.toList r.tm s2 = .ok vs s' ∧ v = etuple vs := by
     have h3 : ∀ {ss : ESt} , ebind (emarks r.ms) (fun _ => ebind (eresults P G fn.results.toList r.tm) fun vs => epure (etuple vs)) ss = .ok v s' → ∃ u s2 vs, emarks r.ms ss = .ok u s2 ∧ eresults P G fn.results.toList r.tm s2 = .ok vs s' ∧ v = etuple vs := fun {ss} h3 => by
      obtain ⟨u, s2, h4, h5⟩ := ebind_ok h3
      obtain ⟨vs, s3, h6, h7⟩ := ebind_ok h5
      obtain ⟨rfl, rfl⟩ := epure_ok h7
      exact ⟨u, s2, vs, h4, h6, rfl⟩
     cases hro : r.o with
     |ex i => rw [hro] at h2; exact (efail_ok (e := [101]) h2).elim
     |nm => rw [hro] at h2; exact ⟨Or.inl rfl, h3 h2⟩
     |rt => rw [hro] at h2; exact ⟨Or.inr rfl, h3 h2⟩
    obtain ⟨hro, u, s2, vs, h4, h6, rfl⟩ := hend
    have l2 := (loc_marks _ _ _ _ h4).nx
    have l3 := (loc_results P G r.tm _ _ _ _ h6).nx
    refine code_ok hR hE hL hG hm f fn.ntmps false (Or.inl rfl) (fun _ => rfl) c n _ _ s r s1 h1 ρ _ w (earg_tr hx _) (by simp; omega) .nil hw (fun j a b => hf j a (by omega)) _ fun σ a1 w1 he hw1 ht1 hn1 hd1 => ?_
    have hgo : LeavesInM Fence.wide n P fn a1.tmps (fun e w' => ∃ x, e = .returned x ∧ KOK P w0 ρ (etuple vs) s s' x w') a1.defers .returning w1 := by
     obtain ⟨e1, hmk⟩ := marks_ok (P := P) (w0 := w0) (fn := fn) (ts := a1.tmps) (K := fun e w' => ∃ x, e = .returned x ∧ KOK P w0 ρ (etuple vs) s s' x w') (n := n) r.ms a1.defers s1 s2 u w1 h4 hd1 hw1
     refine hmk fun w2 hw2 => ?_
     obtain ⟨e2, e3, hres⟩ := results_ok (P := P) (w0 := w0) hG ht1 fn.results.toList vs s2 s' h6
     obtain ⟨ys, hys, hvs⟩ := hres w2 hw2
     refine ⟨_, ?_, _, rfl, σ, tuple_vr hvs, by rw [e2]; exact hw2, by rw [e3, e1]; exact he⟩
     rw [results_run, Sem.run_bind, Array.mapM_eq_mapM_toList, Sem.run_map, hys]
     rfl
    rcases hro with hro | hro
    ·rw [hro]; exact hgo
    ·rw [hro]; exact hgo
end
end
section
open Go.RowKit
section
variable {P : Program} {w0 : World}
theorem pars_ok {ρ : ERho} {N : Nat} {ps : List Tmp} {l : List AV} {tm tm1 : ET AV} {s s' : ESt} (h : epars N ps l tm s = .ok tm1 s') {xs : List Value} (hx : VRs ρ l xs) {ts : Array Value} (ht : TR ρ tm ts) (hN : ts.size = N) :
  s' = s ∧ xs.toArray.size = ps.toArray.size ∧ TR ρ tm1 ((ps.toArray.zip xs.toArray).foldl (fun tmps (t, a) => tmps.setIfInBounds t a) ts) ∧ ((ps.toArray.zip xs.toArray).foldl (fun tmps (t, a) => tmps.setIfInBounds t a) ts).size = N := by
 unfold epars at h
 split at h
 ·cases hx
  obtain ⟨rfl, rfl⟩ := epure_ok (a := tm) h
  exact ⟨rfl, rfl, by simpa using ht, by simpa using hN⟩
 ·rename_i p a
  cases hx with
  |cons _ x _ _ hv hs =>
   cases hs
   obtain ⟨h1, h2⟩ := ecase_ok h
   obtain ⟨rfl, rfl⟩ := epure_ok h2
   have hp := nblt_iff.1 h1
   refine ⟨rfl, rfl, ?_, ?_⟩
   ·simpa using ht.put (by rw [hN]; exact hp) hv
   ·simpa using hN
 ·rename_i p q a b
  cases hx with
  |cons _ x _ _ hv hs => cases hs with
   |cons _ y _ _ hv2 hs2 =>
    cases hs2
    obtain ⟨h1, h2⟩ := ecase_ok h
    obtain ⟨rfl, rfl⟩ := epure_ok h2
    rw [iand_eq, Bool.and_eq_true] at h1
    have hp := nblt_iff.1 h1.1
    have hq := nblt_iff.1 h1.2
    refine ⟨rfl, rfl, ?_, ?_⟩
    ·have h3 := ht.put (by rw [hN]; exact hp) hv
     have h4 := h3.put (d := q) (by rw [Array.size_setIfInBounds, hN]; exact hq) hv2
     simpa using h4
    ·simpa using hN
 ·exact (efail_ok (e := [104]) (s := s) h).elim
theorem lp_at {ρ : ERho} {hp : ET Blk} {w : World} (hw : ERel P w0 ρ hp w) {i : Nat} {r : RI} (hr : ρ i = some r) {st : Nat} {j : Option (Option Nat)} {f : FuncId} {tm : ET AV} {n : Nat} {ps : List Nat} {a b : Code} {d : Nat} (hb : hp.get (i + 1) = some (.lp st j f tm n ps a b d)) :
  ∃ ts q g, ρ d = some q ∧ TR ρ tm ts ∧ ts.size = n ∧ w.heap[r.b]? = some (.loop { state := stOf st, pending := jumpOf j, fn := g, tmps := ts, params := ps.toArray, assign := a, body := b, defers := q.b }) := by
 obtain ⟨r1, o, e1, _, h2, ts, q, g, h3, h4, h5, rfl⟩ := hw.blk i _ hb
 rw [hr] at e1
 cases e1
 exact ⟨ts, q, g, h3, h4, h5, h2⟩
theorem lp_set {ρ : ERho} {hp : ET Blk} {w : World} (hw : ERel P w0 ρ hp w) {i : Nat} {r : RI} (hr : ρ i = some r) {b0 : Blk} (hb : hp.get (i + 1) = some b0) {o0 : Obj} (ho : w.heap[r.b]? = some o0) {st : Nat} {j : Option (Option Nat)} {f : FuncId} {tm : ET AV} {n : Nat} {ps : List Nat} {a b : Code} {d : Nat} {q : RI} {ts : Array Value} (g : FuncId)
  (h3 : ρ d = some q) (h4 : TR ρ tm ts) (h5 : ts.size = n) : ERel P w0 ρ (hp.set (i + 1) (.lp st j f tm n ps a b d)) (w.putObj r.b (.loop { state := stOf st, pending := jumpOf j, fn := g, tmps := ts, params := ps.toArray, assign := a, body := b, defers := q.b })) :=
 hw.set hb hr (turn_put ho _) ⟨ts, q, g, h3, h4, h5, rfl⟩
theorem round_ok {R : ERec} (hR : RSound P w0 R) (hE : REnt P R) (hL : RLoc R) {G : Globs} (hG : GlobR w0 G) (hm : P.follows .mixedOrders = true) (ρ : ERho) (i : Nat) (r : RI) (l : List AV) (xs : List Value) (hr : ρ i = some r) (hx : VRs ρ l xs) : EVN P w0 ρ (evRound P G R i l) (Instr.yield r.b xs.toArray) := by
 intro s v s' h w hw hf
 obtain ⟨b, s1, h1, h2⟩ := ebind_ok (m := eget i) h
 obtain ⟨hb, rfl⟩ := eget_ok h1
 cases b with
 |lp st j0 f tm N ps assign body d0 =>
  simp only at h2
  cases hst : Nat.beq st 0 with
  |false => rw [hst] at h2; exact (efail_ok (e := [105]) h2).elim
  |true =>
   rw [hst] at h2
   obtain ⟨tm1, s2, h3, h4⟩ := ebind_ok h2
   obtain ⟨r1, s3, h5, h6⟩ := ebind_ok h4
   obtain ⟨ts, q, g, e1, e2, e3, hcell⟩ := lp_at hw hr hb
   obtain ⟨rfl, hsz, ht1, hn1⟩ := pars_ok h3 hx e2 e3
   rw [run_yield hcell hsz]
   intro n
   have hend : r1.o = .nm ∧ r1.ms = [] ∧ ∃ j2 f2 tm2 N2 ps2 as2 bo2 d2 r2 s5, s3.hp.get (i + 1) = some (.lp 0 j2 f2 tm2 N2 ps2 as2 bo2 d2) ∧
     evCode P G R f N true body r1.tm [] ⟨s3.hp.set (i + 1) (.lp 1 j2 f2 tm2 N2 ps2 as2 bo2 d2), s3.nx, s3.rd ||| (1 <<< i), s3.wr ||| (1 <<< i)⟩ = .ok r2 s5 ∧
     ∃ st3 j3 f3 tm3 N3 ps3 as3 bo3 d3, s5.hp.get (i + 1) = some (.lp st3 j3 f3 tm3 N3 ps3 as3 bo3 d3) ∧ s'.nx = s5.nx ∧
      (match r2.o with
       |.nm => s'.hp = s5.hp.set (i + 1) (.lp 0 none f3 tm3 N3 ps3 as3 bo3 d3) ∧ v = .bo true
       |.rt => s'.hp = s5.hp.set (i + 1) (.lp 2 (some none) f3 tm3 N3 ps3 as3 bo3 d3) ∧ v = .bo false
       |.ex k => s'.hp = s5.hp.set (i + 1) (.lp 2 (some (some k)) f3 tm3 N3 ps3 as3 bo3 d3) ∧ v = .bo false) := by
    obtain ⟨ro, rt, rm⟩ := r1
    cases ro with
    |nm =>
     cases rm with
     |nil =>
      refine ⟨rfl, rfl, ?_⟩
      obtain ⟨b2, s4, h7, h8⟩ := ebind_ok (m := eget i) h6
      obtain ⟨hb2, rfl⟩ := eget_ok h7
      cases b2 with
      |lp st2 j2 f2 tm2 N2 ps2 as2 bo2 d2 =>
       cases st2 with
       |succ _ => exact (efail_ok (e := [106]) h8).elim
       |zero =>
        obtain ⟨u, s4', h9, h10⟩ := ebind_ok (m := eset i (.lp 1 j2 f2 tm2 N2 ps2 as2 bo2 d2)) h8
        have h11 := eset_ok h9
        subst h11
        obtain ⟨r2, s5, h12, h13⟩ := ebind_ok h10
        obtain ⟨b3, s6, h14, h15⟩ := ebind_ok (m := eget i) h13
        obtain ⟨hb3, rfl⟩ := eget_ok h14
        refine ⟨j2, f2, tm2, N2, ps2, as2, bo2, d2, r2, s5, hb2, h12, ?_⟩
        cases b3 with
        |lp st3 j3 f3 tm3 N3 ps3 as3 bo3 d3 =>
         refine ⟨st3, j3, f3, tm3, N3, ps3, as3, bo3, d3, hb3, ?_⟩
         cases hro2 : r2.o with
         |nm =>
          simp only [hro2] at h15
          obtain ⟨u3, s7, h16, h17⟩ := ebind_ok h15
          have h18 := eset_ok h16
          subst h18
          obtain ⟨rfl, rfl⟩ := epure_ok h17
          exact ⟨rfl, rfl, rfl⟩
         |rt =>
          simp only [hro2] at h15
          obtain ⟨u3, s7, h16, h17⟩ := ebind_ok h15
          have h18 := eset_ok h16
          subst h18
          obtain ⟨rfl, rfl⟩ := epure_ok h17
          exact ⟨rfl, rfl, rfl⟩
         |ex k =>
          simp only [hro2] at h15
          obtain ⟨u3, s7, h16, h17⟩ := ebind_ok h15
          have h18 := eset_ok h16
          subst h18
          obtain ⟨rfl, rfl⟩ := epure_ok h17
          exact ⟨rfl, rfl, rfl⟩
        |_ => exact (efail_ok (e := [106]) h15).elim
      |_ => exact (efail_ok (e := [106]) h8).elim
     |cons _ _ => exact (efail_ok (e := [106]) h6).elim
    |_ => exact (efail_ok (e := [106]) h6).elim
   obtain ⟨hro, hms, j2, f2, tm2, N2, ps2, as2, bo2, d2, r2, s5, hb2, h12, st3, j3, f3, tm3, N3, ps3, as3, bo3, d3, hb3, hnx, hfin⟩ := hend
   have l1 : s.nx ≤ s3.nx := (loc_code' P hL G f N true assign _ _ _ _ _ h5).nx
   have l2 : s3.nx ≤ s5.nx := (loc_code' P hL G f N true body _ _ _ _ _ h12).nx
   refine roundIn_of_wpIn trivial ?_
   refine code_ok hR hE hL hG hm f N true (Or.inr ⟨r.b, rfl⟩) (fun e => by cases e) assign n tm1 [] _ r1 s3 h5 ρ { tmps := _, defers := [] } w ht1 hn1 .nil hw (fun j a b => hf j a (by rw [hnx]; exact Nat.lt_of_lt_of_le b l2)) _ fun σ a1 w1 he hw1 ht hn hd => ?_
   rw [hro]
   obtain ⟨ts2, q2, g2, k1, k2, k3, hcell2⟩ := lp_at hw1 (he.1 i r hr) hb2
   refine ⟨_, run_beginRound hcell2 rfl, ?_⟩
   have hw2 := lp_set hw1 (he.1 i r hr) hb2 hcell2 (st := 1) (j := j2) (f := f2) (ps := ps2) (a := as2) (b := bo2) g2 k1 k2 k3
   refine code_ok hR hE hL hG hm f N true (Or.inr ⟨r.b, rfl⟩) (fun e => by cases e) body n r1.tm [] _ r2 s5 h12 σ a1 _ ht hn (by rw [hms] at hd; exact hd) hw2 (fun j a b => ?_) _ fun τ a3 w3 he2 hw3 ht3 hn3 hd3 => ?_
   ·have a' : s3.nx ≤ j := a
    rw [he.2 j (by show ¬ (s.nx ≤ j ∧ j < s3.nx); omega)]
    exact hf j (Nat.le_trans l1 a') (by rw [hnx]; exact b)
   ·have hie := he2.1 i r (he.1 i r hr)
    obtain ⟨ts3, q3, g3, m1, m2, m3, hcell3⟩ := lp_at hw3 hie hb3
    have hEE : EExt ρ τ s.nx s'.nx := by rw [hnx]; exact he.trans he2 l1 l2
    cases hro2 : r2.o with
    |nm =>
     rw [hro2] at hfin
     obtain ⟨hhp, rfl⟩ := hfin
     exact ⟨_, _, run_endRound (P := P) none hcell3, _, rfl, τ, .bo true, by rw [hhp]; exact lp_set hw3 hie hb3 hcell3 g3 m1 m2 m3, hEE⟩
    |rt =>
     rw [hro2] at hfin
     obtain ⟨hhp, rfl⟩ := hfin
     exact ⟨_, _, run_endRound (P := P) (some .ret) hcell3, _, rfl, τ, .bo false, by rw [hhp]; exact lp_set hw3 hie hb3 hcell3 (st := 2) (j := some none) g3 m1 m2 m3, hEE⟩
    |ex k =>
     rw [hro2] at hfin
     obtain ⟨hhp, rfl⟩ := hfin
     exact ⟨_, _, run_endRound (P := P) (some (.exit k)) hcell3, _, rfl, τ, .bo false, by rw [hhp]; exact lp_set hw3 hie hb3 hcell3 (st := 2) (j := some (some k)) g3 m1 m2 m3, hEE⟩
 |_ => exact (efail_ok (e := [107]) h2).elim
theorem evD_ok {G : Globs} (hG : GlobR w0 G) (hm : P.follows .mixedOrders = true) {I : Intr} (hI : ISound P w0 I) (hIL : ILoc I) : ∀ d, RSound P w0 (evD P G I d) ∧ REnt P (evD P G I d)
 |0 => ⟨⟨fun _ f _ _ _ => fun s _ _ h => (efail_ok (e := [108, f]) (s := s) h).elim, fun _ _ _ _ _ _ _ => fun s _ _ h => (efail_ok (e := [108]) (s := s) h).elim⟩, fun f _ s _ _ _ h => (efail_ok (e := [108, f]) (s := s) h).elim⟩
 |d + 1 => by
  obtain ⟨hR, hE⟩ := evD_ok hG hm hI hIL d
  have hL := loc_D P G hIL d
  have unw : ∀ {f l s v s'}, (evD P G I (d + 1)).fn f l s = .ok v s' → evFun P G (evD P G I d) I f l s = .ok v s' := fun {f l s v s'} h => by
   have h' : (ERes.rec (fun e => .no (f :: e)) (fun a s => .ok a s) (evFun P G (evD P G I d) I f l s) : ERes AV) = .ok v s' := h
   cases e : evFun P G (evD P G I d) I f l s with
   |no x => simp only [e] at h'; cases h'
   |ok a t => simp only [e] at h'; exact h'
  refine ⟨⟨fun ρ f l xs hx s v s' h w hw hf => ?_, fun ρ i r l xs hr hx => round_ok hR hE hL hG hm ρ i r l xs hr hx⟩, fun f l s v s' hen h args w => ?_⟩
  ·have h1 := unw h
   cases hi : I f with
   |some g =>
    unfold evFun at h1
    rw [hi] at h1
    exact hI f g hi ρ l xs hx s v s' h1 w hw hf
   |none =>
    rw [fun_ent hi h1]
    exact fun n => fun_ok hR hE hL hG hm hi hx h1 hw hf n
  ·cases hi : I f with
   |some g =>
    have hen' : (Option.rec true (fun _ => false) (I f) : Bool) = true := hen
    rw [hi] at hen'
    cases hen'
   |none => exact fun_ent hi (unw h) args w
theorem ev_calls {G : Globs} {w : World} (hG : GlobR w G) (hm : P.follows .mixedOrders = true) {I : Intr} (hI : ISound P w I) (hIL : ILoc I) {d : Nat} {f : FuncId} (hen : (evD P G I d).en f = true) {v : AV} {s' : ESt} (h : (evD P G I d).fn f [] es0 = .ok v s') :
  Calls P f #[] w fun e w' => ∃ x ρ, e = .returned x ∧ VR ρ v x ∧ Fp [] w w' := by
 obtain ⟨hR, hE⟩ := evD_ok hG hm hI hIL d
 have hno : ∀ n, (ET.lf : ET Blk).get n = none := fun _ => rfl
 have hw : ERel P w (fun _ => none) es0.hp w := ⟨Fp.refl _ _, fun i b hb => (by rw [show es0.hp = .lf from rfl, hno] at hb; cases hb), fun i j b c r q hb => (by rw [show es0.hp = .lf from rfl, hno] at hb; cases hb)⟩
 have h1 := hR.fn (fun _ => none) f [] [] .nil es0 v s' h w hw (fun _ _ _ => rfl)
 rw [hE _ _ _ _ _ hen h] at h1
 have h2 := callsIn_wide.1 (h1 0)
 refine Calls.mono h2 fun e w' ⟨x, he, σ, hv, hw', _⟩ => ⟨x, σ, he, hv, hw'.fp⟩
end
end
section
open Go.RowKit
section
variable {P : Program} {w0 : World} {ρ : ERho}
theorem call_enter {f : FuncId} {fn : Func} (hf : P.funcs[f]? = some fn) (hn : (fn.name == "runtime.NumGoroutine") = false) (hb : fn.body.isNone = false) (args : Array Value) (w : World) : (callFunc f args).run P w = .ok (.enter f args) w := by
 unfold callFunc
 simp only [Sem.run_bind, run_program, Result.andThen_ok, hf, hn, hb]
 rfl
theorem evn_calls {m : EM AV} {f : FuncId} {args : Array Value} (he : ∀ w, (callFunc f args).run P w = .ok (.enter f args) w)
  (h : ∀ s v s', m s = .ok v s' → ∀ w, ERel P w0 ρ s.hp w → (∀ j, s.nx ≤ j → j < s'.nx → ρ j = none) → Calls P f args w fun e w' => ∃ x, e = .returned x ∧ KOK P w0 ρ v s s' x w') : EVN P w0 ρ m (callFunc f args) := fun s v s' hm w hw hf => by
 rw [he]
 exact fun n => callsIn_wide.2 (h s v s' hm w hw hf)
theorem kok_calm {v : AV} {s s' : ESt} {x : Value} {w w' : World} (hv : VR ρ v x) (hw : ERel P w0 ρ s.hp w) (h1 : s'.hp = s.hp) (h2 : s'.nx = s.nx) (hf : Fp [] w w') : KOK P w0 ρ v s s' x w' := by
 refine ⟨ρ, hv, ?_, by rw [h2]; exact EExt.refl _ _ _⟩
 rw [h1]
 refine ⟨hw.fp.trans hf (by simp), fun i b hb => ?_, hw.inj⟩
 obtain ⟨r, o, e1, e2, e3, e4⟩ := hw.blk i b hb
 exact ⟨r, o, e1, e2, (hf.block r.b (heap_lt e3) (by simp)).trans e3, e4⟩
theorem ofNat_inj {x y : Nat} (hx : x < 256) (hy : y < 256) : (UInt8.ofNat x == UInt8.ofNat y) = Nat.beq x y := by
 by_cases h : x = y
 ·subst h
  rw [beq_self_eq_true, show Nat.beq x x = true from Nat.beq_refl x]
 ·have : UInt8.ofNat x ≠ UInt8.ofNat y := fun e => by
   have e2 := congrArg UInt8.toNat e
   simp only [UInt8.toNat_ofNat'] at e2
   rw [Nat.mod_eq_of_lt (by simpa using hx), Nat.mod_eq_of_lt (by simpa using hy)] at e2
   exact h e2
  rw [beq_eq_false_iff_ne.2 this]
  symm
  rw [← Bool.not_eq_true]
  exact fun e => h (nbeq_t e)
theorem cnt_eq {c : Nat} (hc : c < 256) : ∀ {s : List Nat}, (∀ x ∈ s, x < 256) → Lib.countByte (s.map UInt8.ofNat) (UInt8.ofNat c) = lcnt c s
 |[], _ => rfl
 |x :: s, h => by
  have ih := cnt_eq hc (s := s) fun y hy => h y (by simp [hy])
  have e := ofNat_inj (h x (by simp)) hc
  unfold Lib.countByte at ih ⊢
  rw [List.map_cons, List.count_cons, ih, e]
  show _ = (Bool.rec (lcnt c s) (Nat.succ (lcnt c s)) (Nat.beq x c) : Nat)
  cases Nat.beq x c <;> rfl
theorem pre_eq : ∀ {p l : List Nat}, (∀ x ∈ p, x < 256) → (∀ x ∈ l, x < 256) → (p.map UInt8.ofNat).isPrefixOf (l.map UInt8.ofNat) = lpre p l
 |[], _, _, _ => by simp [lpre]
 |x :: p, [], _, _ => rfl
 |x :: p, y :: l, hp, hl => by
  have ih := pre_eq (p := p) (l := l) (fun z hz => hp z (by simp [hz])) (fun z hz => hl z (by simp [hz]))
  simp only [List.map_cons, List.isPrefixOf, ih, ofNat_inj (hp x (by simp)) (hl y (by simp))]
  show _ = (Bool.rec false (lpre p l) (Nat.beq x y) : Bool)
  cases Nat.beq x y <;> simp
theorem index_cons (b : UInt8) (l sub : List UInt8) : Lib.index (b :: l) sub = if sub.isPrefixOf (b :: l) then 0 else if Lib.index l sub == -1 then -1 else Lib.index l sub + 1 := rfl
theorem sub_eq {p : List Nat} (hp : ∀ x ∈ p, x < 256) : ∀ {l : List Nat} (i : Nat), (∀ x ∈ l, x < 256) → lsub p l i = (if Lib.index (l.map UInt8.ofNat) (p.map UInt8.ofNat) = -1 then -1 else Lib.index (l.map UInt8.ofNat) (p.map UInt8.ofNat) + i)
 |[], i, _ => by
  show (Bool.rec (Int.negSucc 0) (Int.ofNat i) (lpre p []) : Int) = _
  cases p with
  |nil => simp [Lib.index, lpre]
  |cons x p => simp [Lib.index, lpre]
 |x :: l, i, hl => by
  have ih := sub_eq hp (l := l) (i + 1) fun z hz => hl z (by simp [hz])
  show (Bool.rec (lsub p l (i + 1)) (Int.ofNat i) (lpre p (x :: l)) : Int) = _
  rw [← pre_eq hp hl, ih, List.map_cons, index_cons]
  cases (p.map UInt8.ofNat).isPrefixOf (UInt8.ofNat x :: l.map UInt8.ofNat) with
  |true => simp
  |false =>
   simp only [Bool.false_eq_true, if_false]
   have hge := Lib.index_ge (l.map UInt8.ofNat) (p.map UInt8.ofNat)
   by_cases h : Lib.index (l.map UInt8.ofNat) (p.map UInt8.ofNat) = -1
   ·simp [h]
   ·have h' : (Lib.index (l.map UInt8.ofNat) (p.map UInt8.ofNat) == -1) = false := by simpa using h
    rw [h', if_neg h]
    simp only [Bool.false_eq_true, if_false]
    rw [if_neg (by omega)]
    push_cast
    omega
theorem join_eq (sep : List Nat) : ∀ l : List (List Nat), Lib.join (l.map (·.map UInt8.ofNat)) (sep.map UInt8.ofNat) = (ljoin sep l).map UInt8.ofNat
 |[] => rfl
 |[x] => by rw [List.map_cons, List.map_nil, Lib.join_one]; rfl
 |x :: y :: l => by
  have ih := join_eq sep (y :: l)
  have e : ljoin sep (x :: y :: l) = x ++ (sep ++ ljoin sep (y :: l)) := by
   show lapp x (lapp sep (ljoin sep (y :: l))) = _
   rw [lapp_eq, lapp_eq]
  rw [e, List.map_append, List.map_append, ← ih, List.map_cons, List.map_cons, Lib.join_cons, Lib.join_cons]
  simp [Lib.joinTail]
theorem bsA_data (s : List Nat) : (bsA s).data.toList = s.map UInt8.ofNat := by simp [bsA]
end
section
variable {w0 : World} {ρ : ERho}
theorem i_count {l : List AV} {xs : List Value} (hx : VRs ρ l xs) : EVN Tryz.prog w0 ρ (icount l) (callFunc 262 xs.toArray) := by
 intro s v s' hm w hw _
 unfold icount at hm
 split at hm
 ·rename_i a c
  cases hx with
  |cons _ x1 _ _ h1 h2 => cases h2 with
   |cons _ x2 _ _ h3 h4 =>
    cases h4
    cases h1 with
    |st _ ha =>
     cases h3
     obtain ⟨h5, h6⟩ := ecase_ok hm
     obtain ⟨rfl, rfl⟩ := epure_ok h6
     have hc := nblt_iff.1 h5
     rw [run_callFunc_extern Tryz.func262 (by kernel_rfl) (by kernel_rfl) (by kernel_rfl) (e := Extern.BytealgCount.count) (by kernel_rfl), Lib.run_countString]
     rw [bsA_data, show ((Int.ofNat c).toNat.toUInt8) = UInt8.ofNat c from rfl, cnt_eq hc ha]
     exact ⟨ρ, .it _ _, hw, EExt.refl _ _ _⟩
 ·exact (efail_ok (e := [115]) (s := s) hm).elim
theorem i_index {m : Int} (hm0 : w0.cell? ⟨1, 0, none⟩ = some (.int .i64 m)) (h10 : 1 < w0.heap.size) {l : List AV} {xs : List Value} (hx : VRs ρ l xs) : EVN Tryz.prog w0 ρ (iindexStr l) (callFunc 231 xs.toArray) := by
 refine evn_calls (fun w => call_enter Tryz.func231 (by kernel_rfl) (by kernel_rfl) _ w) fun s v s' hm w hw _ => ?_
 unfold iindexStr at hm
 split at hm
 ·rename_i a p
  cases hx with
  |cons _ x1 _ _ h1 h2 => cases h2 with
   |cons _ x2 _ _ h3 h4 =>
    cases h4
    cases h1 with
    |st _ ha => cases h3 with
     |st _ hp =>
      obtain ⟨h5, h6⟩ := ecase_ok hm
      obtain ⟨rfl, rfl⟩ := epure_ok h6
      have hc := nblt_iff.1 h5
      rw [llen_eq] at hc
      refine (Tryz.stringslite_Index (bsA a) (bsA p) m w (by rw [bsA_size]; omega) ((hw.fp.cell h10 (by simp)).trans hm0)).mono ?_
      rintro e w' ⟨rfl, rfl⟩
      refine ⟨_, rfl, kok_calm ?_ hw rfl rfl (Fp.refl _ _)⟩
      rw [bsA_data, bsA_data, sub_eq hp 0 ha]
      by_cases h : Lib.index (a.map UInt8.ofNat) (p.map UInt8.ofNat) = -1
      ·rw [if_pos h, h]; exact .it _ _
      ·rw [if_neg h]; simp only [Int.natCast_zero, Int.add_zero]; exact .it _ _
 ·exact (efail_ok (e := [117]) (s := s) hm).elim
end
end
section
open Go.RowKit
section
variable {P : Program}
theorem rowAt_more (fits : TypeId → Bool) : ∀ (d : Nat) (e : TypeId) (c m off n : Nat), c ≤ m → _root_.Go.rowAt P fits d e c off n = true → _root_.Go.rowAt P fits d e m off n = true
 |0, _, _, _, _, _, _, h => by cases h
 |d + 1, e, c, m, off, n, hc, h => by
  unfold _root_.Go.rowAt at h ⊢
  simp only at h ⊢
  by_cases h0 : P.cellsOf e = 0
  ·rw [if_pos h0] at h; cases h
  ·rw [if_neg h0] at h ⊢
   simp only [Bool.or_eq_true, Bool.and_eq_true, decide_eq_true_eq] at h ⊢
   rcases h with ⟨⟨h1, h2⟩, h3⟩ | ⟨h1, h2⟩
   ·exact Or.inl ⟨⟨h1, Nat.le_trans h2 hc⟩, h3⟩
   ·exact Or.inr ⟨Nat.lt_of_lt_of_le h1 hc, h2⟩
theorem liesAt_more : ∀ (d : Nat) (e : TypeId) (c m off : Nat) (u : TypeId) (n : Nat), c ≤ m → liesAt P d e c off u n = true → liesAt P d e m off u n = true
 |0, _, _, _, _, _, _, _, h => by cases h
 |d + 1, e, c, m, off, u, n, hc, h => by
  unfold liesAt at h ⊢
  rw [Bool.or_eq_true] at h ⊢
  rcases h with h | h
  ·exact Or.inl (rowAt_more _ _ _ _ _ _ _ hc h)
  ·refine Or.inr ?_
   split at h
   ·exact liesAt_more d e c m off _ _ hc h
   ·cases h
end
section
variable {w0 : World} {ρ : ERho}
theorem strs_in_row {c : Array Value} {lc : List AV} {o n : Nat} {ss : List (List Nat)} (hl : ∀ (j : Nat) (v : AV), lc[j]? = some v → ∃ x, c[0 + j]? = some x ∧ VR ρ v x) (ho : omap strOf ((lc.drop o).take n) = some ss) (hn : ss.length = n) :
  (∀ q ∈ ss, ∀ x ∈ q, x < 256) ∧ ∀ (j : Nat) (q : List Nat), ss[j]? = some q → c[o + j]? = some (.string (bsA q)) := by
 obtain ⟨h1, h2⟩ := omap_some ho
 have key : ∀ (j : Nat) (q : List Nat), ss[j]? = some q → c[o + j]? = some (.string (bsA q)) ∧ ∀ x ∈ q, x < 256 := fun j q hq => by
  have hj : j < ss.length := (List.getElem?_eq_some_iff.1 hq).1
  have hx : ((lc.drop o).take n)[j]? = some ((lc.drop o).take n)[j] := List.getElem?_eq_getElem (by omega)
  obtain ⟨y, hy1, hy2⟩ := h2 j _ hx
  rw [hq] at hy2
  cases hy2
  rw [List.getElem?_take, if_pos (by omega), List.getElem?_drop] at hx
  obtain ⟨x, hx1, hx2⟩ := hl (o + j) _ hx
  rw [Nat.zero_add] at hx1
  obtain ⟨u, hu⟩ : ∃ u, ((lc.drop o).take n)[j] = u := ⟨_, rfl⟩
  rw [hu] at hy1 hx2
  cases hx2 <;> first | (cases hy1; exact ⟨hx1, by assumption⟩) | cases hy1
 refine ⟨fun q hq => ?_, fun j q hq => (key j q hq).1⟩
 obtain ⟨j, hj⟩ := List.getElem?_of_mem hq
 exact (key j q hj).2
theorem i_join {l : List AV} {xs : List Value} (hx : VRs ρ l xs) : EVN Tryz.prog w0 ρ (ijoin l) (callFunc 175 xs.toArray) := by
 refine evn_calls (fun w => call_enter Tryz.func175 (by kernel_rfl) (by kernel_rfl) _ w) fun s v s' hm w hw _ => ?_
 unfold ijoin at hm
 split at hm
 ·rename_i i o n c sep
  cases hx with
  |cons _ x1 _ _ h1 h2 => cases h2 with
   |cons _ x2 _ _ h3 h4 =>
    cases h4
    cases h3 with
    |st _ hsep =>
     obtain ⟨cc, s1, h5, h6⟩ := ebind_ok hm
     obtain ⟨hb, rfl⟩ := ecells_ok h5
     cases ho : omap strOf (ltake (ldrop cc.2.1 o) n) with
     |none => rw [ho] at h6; exact (efail_ok (e := [119]) h6).elim
     |some ss =>
      rw [ho] at h6
      obtain ⟨h7, h8⟩ := ecase_ok h6
      obtain ⟨rfl, rfl⟩ := epure_ok h8
      simp only [iand_eq, Bool.and_eq_true] at h7
      obtain ⟨e1, e2, e3, e4⟩ := h7
      have hn := nbeq_t e1
      have hnc := nble_iff.1 e2
      have hn6 := nble_iff.1 e3
      have hj6 := nble_iff.1 e4
      rw [llen_eq] at hn hj6
      rw [ltake_eq, ldrop_eq] at ho
      have fin : ∀ (r : RI) (c' : Nat), ρ i = some r → n ≤ c' → Calls Tryz.prog 175 [.slice (some ⟨r.b, r.d + o, none⟩) n c', .string (bsA sep)].toArray w fun e w' => ∃ x, e = .returned x ∧ KOK Tryz.prog w0 ρ (.st (ljoin sep ss)) s ⟨s.hp, s.nx, s.rd ||| (1 <<< i), s.wr⟩ x w' := fun r c' hr hc' => by
       obtain ⟨ca, f, z, hc1, hz, hd0, hroom, hl⟩ := hp_cells hw hb hr
       rw [hd0] at hl ⊢
       obtain ⟨hb1, hb2⟩ := strs_in_row hl ho hn
       have hmap : (ss.map bsA).map (·.data.toList) = ss.map (·.map UInt8.ofNat) := by
        rw [List.map_map]
        exact List.map_congr_left fun q _ => bsA_data q
       have := Tryz.strings_Join r.b (0 + o) c' (ss.map bsA) (bsA sep) w (fun j x hj => by
        rw [List.getElem?_map] at hj
        cases hq : ss[j]? with
        |none => rw [hq] at hj; cases hj
        |some q =>
         rw [hq] at hj
         cases hj
         rw [cell_of_block hc1, Nat.zero_add]
         exact hb2 j q hq) (heap_lt hc1) (by rw [List.length_map]; omega) (by rw [List.length_map]; omega) (by rw [hmap, bsA_data, join_eq, List.length_map]; omega)
       rw [List.length_map, hn] at this
       refine this.mono ?_
       rintro e w' ⟨rfl, hbl⟩
       refine ⟨_, rfl, kok_calm ?_ hw rfl rfl (Below.toFp hbl)⟩
       rw [hmap, bsA_data, join_eq]
       refine .st _ ?_
       have hall : ∀ q : List (List Nat), (∀ t ∈ q, ∀ x ∈ t, x < 256) → ∀ x ∈ ljoin sep q, x < 256 := by
        intro q
        induction q with
        |nil => intro _ x hx; simp [ljoin] at hx
        |cons t q ih =>
         intro hq x hx
         have ih' := ih fun u hu => hq u (by simp [hu])
         cases q with
         |nil => exact hq t (by simp) x hx
         |cons u q =>
          have e : ljoin sep (t :: u :: q) = t ++ (sep ++ ljoin sep (u :: q)) := by
           show lapp t (lapp sep (ljoin sep (u :: q))) = _
           rw [lapp_eq, lapp_eq]
          rw [e, List.mem_append, List.mem_append] at hx
          rcases hx with hx | hx | hx
          ·exact hq t (by simp) x hx
          ·exact hsep x hx
          ·exact ih' x hx
       exact hall ss hb1
      cases h1 with
      |sl _ _ _ _ c' r hr hc => exact fin r c' hr (by omega)
      |sz _ _ r hr a =>
       have : ss = [] := List.eq_nil_of_length_eq_zero hn
       subst this
       refine (Tryz.strings_Join_none (some a) 0 (bsA sep) w).mono ?_
       rintro e w' ⟨rfl, rfl⟩
       exact ⟨_, rfl, kok_calm (.st [] (by simp)) hw rfl rfl (Fp.refl _ _)⟩
 ·rename_i sep
  cases hx with
  |cons _ x1 _ _ h1 h2 => cases h2 with
   |cons _ x2 _ _ h3 h4 =>
    cases h4
    cases h1
    cases h3 with
    |st _ hsep =>
     obtain ⟨rfl, rfl⟩ := epure_ok hm
     refine (Tryz.strings_Join_none none 0 (bsA sep) w).mono ?_
     rintro e w' ⟨rfl, rfl⟩
     exact ⟨_, rfl, kok_calm (.st [] (by simp)) hw rfl rfl (Fp.refl _ _)⟩
 ·exact (efail_ok (e := [119]) (s := s) hm).elim
end
end
section
open Go.RowKit
theorem copyCheck_wide {T : TypeId} {n : Nat} (hT : liesAt Tryz.prog Tryz.prog.depth T (n / Tryz.prog.cellsOf T) 0 69 1 = true) (b : Nat) (w : World) (h0 : w.cell? ⟨b, 0, none⟩ = some (.pointer none)) (hsh : w.shape? b = some (T, n)) (hn : 0 < n) (hfz : w.frozen? ⟨b, 0, none⟩ = false) :
  Calls Tryz.prog 72 #[.pointer (some ⟨b, 0, none⟩)] w fun e w' => e = .returned (.tuple #[]) ∧ w' = w.setCell ⟨b, 0, none⟩ (.pointer (some ⟨b, 0, none⟩)) := by
 obtain ⟨j, hj, hjs⟩ := sizeBuilder
 go_enter Tryz.func72, Tryz.ntmps72
 go_wp2
 rw [Lib.run_to_unsafe w ⟨b, 0, none⟩ Tryz.underlying66 Tryz.underlying204 hj (by rw [hjs]; decide) hsh hn]
 simp only [Result.andThen]
 rw [Oper.upon_value]
 go_wp2
 rw [run_callFunc_extern Tryz.func140 (by kernel_rfl) (by kernel_rfl) (by kernel_rfl) (e := Extern.AbiNoEscape.same) (by kernel_rfl)]
 rw [Lib.run_noEscape]
 simp only [Result.andThen]
 rw [Oper.upon_value]
 go_wp2
 rw [Lib.run_from_unsafe w ⟨b, 0, none⟩ Tryz.underlying204 Tryz.underlying66 hj hsh hT]
 simp only [Result.andThen]
 rw [Oper.upon_value]
 go_wp2
 go_end0
 exact ⟨rfl, rfl⟩
section
variable {w0 : World} {ρ : ERho}
theorem lmem_mem {x : Nat} : ∀ {l : List Nat}, lmem x l = true → x ∈ l
 |[], h => by cases h
 |y :: l, h => by
  have h' : ior (Nat.beq x y) (lmem x l) = true := h
  rw [ior_eq, Bool.or_eq_true] at h'
  rcases h' with h | h
  ·rw [nbeq_t h]; simp
  ·have := lmem_mem h
   simp [this]
theorem i_copyCheck {Ts : List TypeId} (hTs : ∀ T ∈ Ts, Tryz.prog.cellsOf T = 2 ∧ liesAt Tryz.prog Tryz.prog.depth T 1 0 69 1 = true) {l : List AV} {xs : List Value} (hx : VRs ρ l xs) : EVN Tryz.prog w0 ρ (icopyCheck Ts l) (callFunc 72 xs.toArray) := by
 refine evn_calls (fun w => call_enter Tryz.func72 (by kernel_rfl) (by kernel_rfl) _ w) fun s v s' hm w hw _ => ?_
 unfold icopyCheck at hm
 split at hm
 ·rename_i i
  cases hx with
  |cons _ x1 _ _ h1 h2 =>
   cases h2
   cases h1 with
   |pt _ _ r hr =>
    obtain ⟨cc, s1, h5, h6⟩ := ebind_ok hm
    obtain ⟨hb, rfl⟩ := ecells_ok h5
    obtain ⟨hT, h7⟩ := ecase_ok h6
    obtain ⟨hc2, hlies⟩ := hTs _ (lmem_mem hT)
    obtain ⟨ca, f, z, hc1, hz, hd0, hroom, hl⟩ := hp_cells hw hb hr
    obtain ⟨ct, cl, cf⟩ := cc
    simp only at h7 hb hc1 hroom hl hc2 hlies
    rw [hd0] at hl ⊢
    split at h7
    ·rename_i v2
     obtain ⟨h8, h9⟩ := ecase_ok h7
     have hf0 := nbeq_t h8
     obtain ⟨u, s2, h10, h11⟩ := ebind_ok h9
     obtain ⟨rfl, rfl⟩ := epure_ok h11
     have h12 := eset_ok h10
     subst h12
     obtain ⟨y0, hy0, hv0⟩ := hl 0 .pn rfl
     cases hv0
     have hsz : 2 ≤ ca.size := by
      have := hroom.1
      simp only [List.length_cons, List.length_nil] at this
      omega
     have hcell : w.cell? ⟨r.b, 0, none⟩ = some (.pointer none) := (cell_of_block hc1 0).trans hy0
     have hfr : w.frozen? ⟨r.b, 0, none⟩ = false := by
      have := hroom.2.1 0 (fun _ => by omega) (by omega)
      unfold World.frozen?
      rw [hc1]
      simp only [Bool.and_eq_false_imp, decide_eq_true_eq, decide_eq_false_iff_not]
      omega
     refine (copyCheck_wide (n := ca.size) (by rw [hc2]; exact liesAt_more _ _ _ _ _ _ _ (by omega) hlies) r.b w hcell (by simp [World.shape?, hc1]) (by omega) hfr).mono ?_
     rintro e w' ⟨rfl, rfl⟩
     have hs : (w.setCell ⟨r.b, 0, none⟩ (.pointer (some ⟨r.b, 0, none⟩))).heap[r.b]? = some (.cells (ca.setIfInBounds 0 (.pointer (some ⟨r.b, 0, none⟩))) ct f) := heap_setCell_same (o := 0) hc1 _
     refine ⟨_, rfl, ρ, .un, ?_, EExt.refl _ _ _⟩
     refine hw.set hb hr ⟨Fp.setCell w ⟨r.b, 0, none⟩ _, by simp [World.setCell], hs⟩ ⟨_, f, z, rfl, hz, hd0, ⟨by rw [Array.size_setIfInBounds]; exact hroom.1, fun k hk hk2 => hroom.2.1 k hk (by rwa [Array.size_setIfInBounds] at hk2), hroom.2.2⟩, fun j u hu => ?_⟩
     rw [hd0]
     cases j with
     |zero =>
      simp only [List.getElem?_cons_zero, Option.some.injEq] at hu
      subst hu
      refine ⟨.pointer (some ⟨r.b, 0, none⟩), ?_, ?_⟩
      ·have h00 : 0 < ca.size := by omega
       simp [h00]
      ·have := VR.pt (ρ := ρ) i 0 r hr
       rwa [hd0] at this
     |succ j =>
      rw [List.getElem?_cons_succ] at hu
      obtain ⟨y, hy, hv⟩ := hl (j + 1) u (by rw [List.getElem?_cons_succ]; exact hu)
      refine ⟨y, ?_, hv⟩
      rw [Array.getElem?_setIfInBounds_ne (by omega)]
      exact hy
    ·rename_i j v2
     obtain ⟨h8, h9⟩ := ecase_ok h7
     have hij := nbeq_t h8
     subst hij
     obtain ⟨rfl, rfl⟩ := epure_ok h9
     obtain ⟨y0, hy0, hv0⟩ := hl 0 (.pt i 0) rfl
     cases hv0 with
     |pt _ _ q hq =>
      rw [hr] at hq
      cases hq
      rw [hd0] at hy0
      refine (copyCheck_used r.b w ((cell_of_block hc1 0).trans hy0)).mono ?_
      rintro e w' ⟨rfl, rfl⟩
      exact ⟨_, rfl, kok_calm .un hw rfl rfl (Fp.refl _ _)⟩
    ·exact (efail_ok (e := [114]) h7).elim
 ·exact (efail_ok (e := [114]) (s := s) hm).elim
theorem builder_types : ∀ T ∈ [69, 226], Tryz.prog.cellsOf T = 2 ∧ liesAt Tryz.prog Tryz.prog.depth T 1 0 69 1 = true := by
 intro T hT
 rcases List.mem_cons.1 hT with rfl | hT
 ·exact ⟨by kernel_rfl, by kernel_rfl⟩
 ·rcases List.mem_cons.1 hT with rfl | hT
  ·exact ⟨by kernel_rfl, by kernel_rfl⟩
  ·cases hT
end
end
end Go.Proofs.YtkjmgbifoaoefaaGreatDoor
