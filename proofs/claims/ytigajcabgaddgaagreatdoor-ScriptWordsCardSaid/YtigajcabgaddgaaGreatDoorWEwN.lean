/-
 Rounds, and the evaluator whole. Functions that the evaluator meets by what they are known to do: counting, searching, joining. strings.Builder: what its methods do, at a builder in a block of any type that begins by one. Functions that the evaluator meets by what they are known to do: joining, the builder's check. Functions that the evaluator meets by what they are known to do: the builder's check. Maps as lists of entries: laws on the model's map operations, over any program. The disk as data, and where it lies in memory. The disk's inner functions: set. The disk's inner functions: named; th
-/
import Derived.Test.YtigajcabgaddgaaGreatDoorWEwJ
import Derived.Test.YtigajcabgaddgaaGreatDoorWRegionG
import Derived.Test.YtigajcabgaddgaaGreatDoorWShelf
import Derived.Lib.Bytealg
import Derived.Lib.Index
import Derived.Lib.Join
import Derived.Test.YtigajcabgaddgaaGreatDoorWRegion
import Derived.Test.YtigajcabgaddgaaGreatDoorRows
import Derived.Lib.Builder
import Derived.Lib.OthersKept
import Derived.Lib.UnsafeStr
import Derived.Lib.AppendStr
import Derived.Maps.AppendAt
import Derived.Maps.RangeWalk
import Derived.WalkKit
import Derived.Test.YtigajcabgaddgaaGreatDoorWMem
import Derived.Deep.RegionLaw
import Derived.Outline
import Derived.Deep.LoopGhost
import Derived.Sort.KeysCollected
import Derived.Sort.EncStr
import Derived.Maps.Own
import Derived.Shelf.ItemsParts
import Derived.Test.YtigajcabgaddgaaGreatDoorIter
set_option maxRecDepth 100000
set_option maxHeartbeats 8000000
namespace Go.Proofs.YtigajcabgaddgaaGreatDoor
section
set_option linter.unusedSectionVars false
open Go.RowKit
variable [Val]
section
variable {P : Program} {w0 : World}
theorem pars_ok {ρ : ERho} {N : Nat} {ps : List Tmp} {l : List AV} {tm tm1 : ET AV} {s s' : ESt} (h : epars N ps l tm s = .ok tm1 s') {xs : List Value} (hx : VRs ρ l xs) {ts : Array Value} (ht : TR ρ tm ts) (hN : ts.size = N) :
  s' = s ∧ xs.toArray.size = ps.toArray.size ∧ TR ρ tm1 ((ps.toArray.zip xs.toArray).foldl (fun tmps (t, a) => tmps.setIfInBounds t a) ts) ∧ ((ps.toArray.zip xs.toArray).foldl (fun tmps (t, a) => tmps.setIfInBounds t a) ts).size = N := by
 unfold epars at h
 split at h
 ·cases hx
  obtain ⟨rfl, rfl⟩ := epure_ok (a := tm) h
  exact ⟨rfl, rfl, by simpa using ht, by simpa using hN⟩
 ·rename_i p a
  cases hx with
  |cons _ x _ _ hv hs =>
   cases hs
   obtain ⟨h1, h2⟩ := ecase_ok h
   obtain ⟨rfl, rfl⟩ := epure_ok h2
   have hp := nblt_iff.1 h1
   refine ⟨rfl, rfl, ?_, ?_⟩
   ·simpa using ht.put (by rw [hN]; exact hp) hv
   ·simpa using hN
 ·rename_i p q a b
  cases hx with
  |cons _ x _ _ hv hs => cases hs with
   |cons _ y _ _ hv2 hs2 =>
    cases hs2
    obtain ⟨h1, h2⟩ := ecase_ok h
    obtain ⟨rfl, rfl⟩ := epure_ok h2
    rw [iand_eq, Bool.and_eq_true] at h1
    have hp := nblt_iff.1 h1.1
    have hq := nblt_iff.1 h1.2
    refine ⟨rfl, rfl, ?_, ?_⟩
    ·have h3 := ht.put (by rw [hN]; exact hp) hv
     have h4 := h3.put (d := q) (by rw [Array.size_setIfInBounds, hN]; exact hq) hv2
     simpa using h4
    ·simpa using hN
 ·exact (efail_ok (e := [104]) (s := s) h).elim
theorem lp_at {ρ : ERho} {hp : ET Blk} {w : World} (hw : ERel P w0 ρ hp w) {i : Nat} {r : RI} (hr : ρ i = some r) {st : Nat} {j : Option (Option Nat)} {f : FuncId} {tm : ET AV} {n : Nat} {ps : List Nat} {a b : Code} {d : Nat} (hb : hp.get (i + 1) = some (.lp st j f tm n ps a b d)) :
  ∃ ts q g, ρ d = some q ∧ TR ρ tm ts ∧ ts.size = n ∧ w.heap[r.b]? = some (.loop { state := stOf st, pending := jumpOf j, fn := g, tmps := ts, params := ps.toArray, assign := a, body := b, defers := q.b }) := by
 obtain ⟨r1, o, e1, _, h2, ts, q, g, h3, h4, h5, rfl⟩ := hw.blk i _ hb
 rw [hr] at e1
 cases e1
 exact ⟨ts, q, g, h3, h4, h5, h2⟩
theorem lp_set {ρ : ERho} {hp : ET Blk} {w : World} (hw : ERel P w0 ρ hp w) {i : Nat} {r : RI} (hr : ρ i = some r) {b0 : Blk} (hb : hp.get (i + 1) = some b0) {o0 : Obj} (ho : w.heap[r.b]? = some o0) {st : Nat} {j : Option (Option Nat)} {f : FuncId} {tm : ET AV} {n : Nat} {ps : List Nat} {a b : Code} {d : Nat} {q : RI} {ts : Array Value} (g : FuncId)
  (h3 : ρ d = some q) (h4 : TR ρ tm ts) (h5 : ts.size = n) : ERel P w0 ρ (hp.set (i + 1) (.lp st j f tm n ps a b d)) (w.putObj r.b (.loop { state := stOf st, pending := jumpOf j, fn := g, tmps := ts, params := ps.toArray, assign := a, body := b, defers := q.b })) :=
 hw.set hb hr (turn_put ho _) ⟨ts, q, g, h3, h4, h5, rfl⟩
theorem round_ok {R : ERec} (hR : RSound P w0 R) (hE : REnt P R) (hL : RLoc R) {G : Globs} (hG : GlobR w0 G) (hm : P.follows .mixedOrders = true) (ρ : ERho) (i : Nat) (r : RI) (l : List AV) (xs : List Value) (hr : ρ i = some r) (hx : VRs ρ l xs) : EVN P w0 ρ (evRound P G R i l) (Instr.yield r.b xs.toArray) := by
 intro s v s' h w hw hf
 obtain ⟨b, s1, h1, h2⟩ := ebind_ok (m := eget i) h
 obtain ⟨hb, rfl⟩ := eget_ok h1
 cases b with
 |lp st j0 f tm N ps assign body d0 =>
  simp only at h2
  cases hst : Nat.beq st 0 with
  |false => rw [hst] at h2; exact (efail_ok (e := [105]) h2).elim
  |true =>
   rw [hst] at h2
   obtain ⟨tm1, s2, h3, h4⟩ := ebind_ok h2
   obtain ⟨r1, s3, h5, h6⟩ := ebind_ok h4
   obtain ⟨ts, q, g, e1, e2, e3, hcell⟩ := lp_at hw hr hb
   obtain ⟨rfl, hsz, ht1, hn1⟩ := pars_ok h3 hx e2 e3
   rw [run_yield hcell hsz]
   intro n
   have hend : r1.o = .nm ∧ r1.ms = [] ∧ ∃ j2 f2 tm2 N2 ps2 as2 bo2 d2 r2 s5, s3.hp.get (i + 1) = some (.lp 0 j2 f2 tm2 N2 ps2 as2 bo2 d2) ∧
     evCode P G R f N true body r1.tm [] ⟨s3.hp.set (i + 1) (.lp 1 j2 f2 tm2 N2 ps2 as2 bo2 d2), s3.nx, s3.rd ||| (1 <<< i), s3.wr ||| (1 <<< i)⟩ = .ok r2 s5 ∧
     ∃ st3 j3 f3 tm3 N3 ps3 as3 bo3 d3, s5.hp.get (i + 1) = some (.lp st3 j3 f3 tm3 N3 ps3 as3 bo3 d3) ∧ s'.nx = s5.nx ∧
      (match r2.o with
       |.nm => s'.hp = s5.hp.set (i + 1) (.lp 0 none f3 tm3 N3 ps3 as3 bo3 d3) ∧ v = .bo true
       |.rt => s'.hp = s5.hp.set (i + 1) (.lp 2 (some none) f3 tm3 N3 ps3 as3 bo3 d3) ∧ v = .bo false
       |.ex k => s'.hp = s5.hp.set (i + 1) (.lp 2 (some (some k)) f3 tm3 N3 ps3 as3 bo3 d3) ∧ v = .bo false) := by
    obtain ⟨ro, rt, rm⟩ := r1
    cases ro with
    |nm =>
     cases rm with
     |nil =>
      refine ⟨rfl, rfl, ?_⟩
      obtain ⟨b2, s4, h7, h8⟩ := ebind_ok (m := eget i) h6
      obtain ⟨hb2, rfl⟩ := eget_ok h7
      cases b2 with
      |lp st2 j2 f2 tm2 N2 ps2 as2 bo2 d2 =>
       cases st2 with
       |succ _ => exact (efail_ok (e := [106]) h8).elim
       |zero =>
        obtain ⟨u, s4', h9, h10⟩ := ebind_ok (m := eset i (.lp 1 j2 f2 tm2 N2 ps2 as2 bo2 d2)) h8
        have h11 := eset_ok h9
        subst h11
        obtain ⟨r2, s5, h12, h13⟩ := ebind_ok h10
        obtain ⟨b3, s6, h14, h15⟩ := ebind_ok (m := eget i) h13
        obtain ⟨hb3, rfl⟩ := eget_ok h14
        refine ⟨j2, f2, tm2, N2, ps2, as2, bo2, d2, r2, s5, hb2, h12, ?_⟩
        cases b3 with
        |lp st3 j3 f3 tm3 N3 ps3 as3 bo3 d3 =>
         refine ⟨st3, j3, f3, tm3, N3, ps3, as3, bo3, d3, hb3, ?_⟩
         cases hro2 : r2.o with
         |nm =>
          simp only [hro2] at h15
          obtain ⟨u3, s7, h16, h17⟩ := ebind_ok h15
          have h18 := eset_ok h16
          subst h18
          obtain ⟨rfl, rfl⟩ := epure_ok h17
          exact ⟨rfl, rfl, rfl⟩
         |rt =>
          simp only [hro2] at h15
          obtain ⟨u3, s7, h16, h17⟩ := ebind_ok h15
          have h18 := eset_ok h16
          subst h18
          obtain ⟨rfl, rfl⟩ := epure_ok h17
          exact ⟨rfl, rfl, rfl⟩
         |ex k =>
          simp only [hro2] at h15
          obtain ⟨u3, s7, h16, h17⟩ := ebind_ok h15
          have h18 := eset_ok h16
          subst h18
          obtain ⟨rfl, rfl⟩ := epure_ok h17
          exact ⟨rfl, rfl, rfl⟩
        |_ => exact (efail_ok (e := [106]) h15).elim
      |_ => exact (efail_ok (e := [106]) h8).elim
     |cons _ _ => exact (efail_ok (e := [106]) h6).elim
    |_ => exact (efail_ok (e := [106]) h6).elim
   obtain ⟨hro, hms, j2, f2, tm2, N2, ps2, as2, bo2, d2, r2, s5, hb2, h12, st3, j3, f3, tm3, N3, ps3, as3, bo3, d3, hb3, hnx, hfin⟩ := hend
   have l1 : s.nx ≤ s3.nx := (loc_code' P hL G f N true assign _ _ _ _ _ h5).nx
   have l2 : s3.nx ≤ s5.nx := (loc_code' P hL G f N true body _ _ _ _ _ h12).nx
   refine roundIn_of_wpIn trivial ?_
   refine code_ok hR hE hL hG hm f N true (Or.inr ⟨r.b, rfl⟩) (fun e => by cases e) assign n tm1 [] _ r1 s3 h5 ρ { tmps := _, defers := [] } w ht1 hn1 .nil hw (fun j a b => hf j a (by rw [hnx]; exact Nat.lt_of_lt_of_le b l2)) _ fun σ a1 w1 he hw1 ht hn hd => ?_
   rw [hro]
   obtain ⟨ts2, q2, g2, k1, k2, k3, hcell2⟩ := lp_at hw1 (he.1 i r hr) hb2
   refine ⟨_, run_beginRound hcell2 rfl, ?_⟩
   have hw2 := lp_set hw1 (he.1 i r hr) hb2 hcell2 (st := 1) (j := j2) (f := f2) (ps := ps2) (a := as2) (b := bo2) g2 k1 k2 k3
   refine code_ok hR hE hL hG hm f N true (Or.inr ⟨r.b, rfl⟩) (fun e => by cases e) body n r1.tm [] _ r2 s5 h12 σ a1 _ ht hn (by rw [hms] at hd; exact hd) hw2 (fun j a b => ?_) _ fun τ a3 w3 he2 hw3 ht3 hn3 hd3 => ?_
   ·have a' : s3.nx ≤ j := a
    rw [he.2 j (by show ¬ (s.nx ≤ j ∧ j < s3.nx); omega)]
    exact hf j (Nat.le_trans l1 a') (by rw [hnx]; exact b)
   ·have hie := he2.1 i r (he.1 i r hr)
    obtain ⟨ts3, q3, g3, m1, m2, m3, hcell3⟩ := lp_at hw3 hie hb3
    have hEE : EExt ρ τ s.nx s'.nx := by rw [hnx]; exact he.trans he2 l1 l2
    cases hro2 : r2.o with
    |nm =>
     rw [hro2] at hfin
     obtain ⟨hhp, rfl⟩ := hfin
     exact ⟨_, _, run_endRound (P := P) none hcell3, _, rfl, τ, .bo true, by rw [hhp]; exact lp_set hw3 hie hb3 hcell3 g3 m1 m2 m3, hEE⟩
    |rt =>
     rw [hro2] at hfin
     obtain ⟨hhp, rfl⟩ := hfin
     exact ⟨_, _, run_endRound (P := P) (some .ret) hcell3, _, rfl, τ, .bo false, by rw [hhp]; exact lp_set hw3 hie hb3 hcell3 (st := 2) (j := some none) g3 m1 m2 m3, hEE⟩
    |ex k =>
     rw [hro2] at hfin
     obtain ⟨hhp, rfl⟩ := hfin
     exact ⟨_, _, run_endRound (P := P) (some (.exit k)) hcell3, _, rfl, τ, .bo false, by rw [hhp]; exact lp_set hw3 hie hb3 hcell3 (st := 2) (j := some (some k)) g3 m1 m2 m3, hEE⟩
 |_ => exact (efail_ok (e := [107]) h2).elim
theorem evD_ok {G : Globs} (hG : GlobR w0 G) (hm : P.follows .mixedOrders = true) {I : Intr} (hI : ISound P w0 I) (hIL : ILoc I) : ∀ d, RSound P w0 (evD P G I d) ∧ REnt P (evD P G I d)
 |0 => ⟨⟨fun _ f _ _ _ => fun s _ _ h => (efail_ok (e := [108, f]) (s := s) h).elim, fun _ _ _ _ _ _ _ => fun s _ _ h => (efail_ok (e := [108]) (s := s) h).elim, fun _ f _ _ _ s _ _ h => (efail_ok (e := [134, f]) (s := s) h).elim⟩, fun f _ s _ _ _ h => (efail_ok (e := [108, f]) (s := s) h).elim⟩
 |d + 1 => by
  obtain ⟨hR, hE⟩ := evD_ok hG hm hI hIL d
  have hL := loc_D P G hIL d
  have unw : ∀ {f l s v s'}, (evD P G I (d + 1)).fn f l s = .ok v s' → evFun P G (evD P G I d) I f l s = .ok v s' := fun {f l s v s'} h => by
   have h' : (ERes.rec (fun e => .no (f :: e)) (fun a s => .ok a s) (evFun P G (evD P G I d) I f l s) : ERes AV) = .ok v s' := h
   cases e : evFun P G (evD P G I d) I f l s with
   |no x => simp only [e] at h'; cases h'
   |ok a t => simp only [e] at h'; exact h'
  refine ⟨⟨fun ρ f l xs hx s v s' h w hw hf => ?_, fun ρ i r l xs hr hx => round_ok hR hE hL hG hm ρ i r l xs hr hx, fun ρ f l xs hx s v s' h w hw hf => ⟨def_ent (P := P) h _ w, fun n => def_ok hR hE hL hG hm hx h hw hf n⟩⟩, fun f l s v s' hen h args w => ?_⟩
  ·have h1 := unw h
   cases hi : I f with
   |some g =>
    unfold evFun at h1
    rw [hi] at h1
    exact hI f g hi ρ l xs hx s v s' h1 w hw hf
   |none =>
    rw [fun_ent hi h1]
    exact fun n => fun_ok hR hE hL hG hm hi hx h1 hw hf n
  ·cases hi : I f with
   |some g =>
    have hen' : (Option.rec true (fun _ => false) (I f) : Bool) = true := hen
    rw [hi] at hen'
    cases hen'
   |none => exact fun_ent hi (unw h) args w
theorem ev_calls {G : Globs} {w : World} (hG : GlobR w G) (hm : P.follows .mixedOrders = true) {I : Intr} (hI : ISound P w I) (hIL : ILoc I) {d : Nat} {f : FuncId} (hen : (evD P G I d).en f = true) {v : AV} {s' : ESt} (h : (evD P G I d).fn f [] es0 = .ok v s') :
  Calls P f #[] w fun e w' => ∃ x ρ, e = .returned x ∧ VR ρ v x ∧ Fp [] w w' := by
 obtain ⟨hR, hE⟩ := evD_ok hG hm hI hIL d
 have hno : ∀ n, (ET.lf : ET Blk).get n = none := fun _ => ET.get_lf _
 have hw : ERel P w (fun _ => none) es0.hp w := ⟨Fp.refl _ _, fun i b hb => (by rw [show es0.hp = .lf from rfl, hno] at hb; cases hb), fun i j b c r q hb => (by rw [show es0.hp = .lf from rfl, hno] at hb; cases hb)⟩
 have h1 := hR.fn (fun _ => none) f [] [] .nil es0 v s' h w hw (fun _ _ _ => rfl)
 rw [hE _ _ _ _ _ hen h] at h1
 have h2 := callsIn_wide.1 (h1 0)
 refine Calls.mono h2 fun e w' ⟨x, he, σ, hv, hw', _⟩ => ⟨x, σ, he, hv, hw'.fp⟩
end
end
section
set_option linter.unusedSectionVars false
open Go.RowKit
variable [Val]
section
variable {P : Program} {w0 : World} {ρ : ERho}
theorem call_enter {f : FuncId} {fn : Func} (hf : P.funcs[f]? = some fn) (hn : (fn.name == "runtime.NumGoroutine") = false) (hb : fn.body.isNone = false) (args : Array Value) (w : World) : (callFunc f args).run P w = .ok (.enter f args) w := by
 unfold callFunc
 simp only [Sem.run_bind, run_program, Result.andThen_ok, hf, hn, hb]
 rfl
theorem evn_calls {m : EM AV} {f : FuncId} {args : Array Value} (he : ∀ w, (callFunc f args).run P w = .ok (.enter f args) w)
  (h : ∀ s v s', m s = .ok v s' → ∀ w, ERel P w0 ρ s.hp w → (∀ j, s.nx ≤ j → j < s'.nx → ρ j = none) → Calls P f args w fun e w' => ∃ x, e = .returned x ∧ KOK P w0 ρ v s s' x w') : EVN P w0 ρ m (callFunc f args) := fun s v s' hm w hw hf => by
 rw [he]
 exact fun n => callsIn_wide.2 (h s v s' hm w hw hf)
theorem kok_calm {v : AV} {s s' : ESt} {x : Value} {w w' : World} (hv : VR ρ v x) (hw : ERel P w0 ρ s.hp w) (h1 : s'.hp = s.hp) (h2 : s'.nx = s.nx) (hf : Fp [] w w') : KOK P w0 ρ v s s' x w' := by
 refine ⟨ρ, hv, ?_, by rw [h2]; exact EExt.refl _ _ _⟩
 rw [h1]
 refine ⟨hw.fp.trans hf (by simp), fun i b hb => ?_, hw.inj⟩
 obtain ⟨r, o, e1, e2, e3, e4⟩ := hw.blk i b hb
 exact ⟨r, o, e1, e2, (hf.block r.b (heap_lt e3) (by simp)).trans e3, e4⟩
theorem ofNat_inj {x y : Nat} (hx : x < 256) (hy : y < 256) : (UInt8.ofNat x == UInt8.ofNat y) = Nat.beq x y := by
 by_cases h : x = y
 ·subst h
  rw [beq_self_eq_true, show Nat.beq x x = true from Nat.beq_refl x]
 ·have : UInt8.ofNat x ≠ UInt8.ofNat y := fun e => by
   have e2 := congrArg UInt8.toNat e
   simp only [UInt8.toNat_ofNat'] at e2
   rw [Nat.mod_eq_of_lt (by simpa using hx), Nat.mod_eq_of_lt (by simpa using hy)] at e2
   exact h e2
  rw [beq_eq_false_iff_ne.2 this]
  symm
  rw [← Bool.not_eq_true]
  exact fun e => h (nbeq_t e)
theorem cnt_eq {c : Nat} (hc : c < 256) : ∀ {s : List Nat}, (∀ x ∈ s, x < 256) → Lib.countByte (s.map UInt8.ofNat) (UInt8.ofNat c) = lcnt c s
 |[], _ => rfl
 |x :: s, h => by
  have ih := cnt_eq hc (s := s) fun y hy => h y (by simp [hy])
  have e := ofNat_inj (h x (by simp)) hc
  unfold Lib.countByte at ih ⊢
  rw [List.map_cons, List.count_cons, ih, e]
  show _ = (Bool.rec (lcnt c s) (Nat.succ (lcnt c s)) (Nat.beq x c) : Nat)
  cases Nat.beq x c <;> rfl
theorem pre_eq : ∀ {p l : List Nat}, (∀ x ∈ p, x < 256) → (∀ x ∈ l, x < 256) → (p.map UInt8.ofNat).isPrefixOf (l.map UInt8.ofNat) = lpre p l
 |[], _, _, _ => by simp [lpre]
 |x :: p, [], _, _ => rfl
 |x :: p, y :: l, hp, hl => by
  have ih := pre_eq (p := p) (l := l) (fun z hz => hp z (by simp [hz])) (fun z hz => hl z (by simp [hz]))
  simp only [List.map_cons, List.isPrefixOf, ih, ofNat_inj (hp x (by simp)) (hl y (by simp))]
  show _ = (Bool.rec false (lpre p l) (Nat.beq x y) : Bool)
  cases Nat.beq x y <;> simp
theorem index_cons (b : UInt8) (l sub : List UInt8) : Lib.index (b :: l) sub = if sub.isPrefixOf (b :: l) then 0 else if Lib.index l sub == -1 then -1 else Lib.index l sub + 1 := rfl
theorem sub_eq {p : List Nat} (hp : ∀ x ∈ p, x < 256) : ∀ {l : List Nat} (i : Nat), (∀ x ∈ l, x < 256) → lsub p l i = (if Lib.index (l.map UInt8.ofNat) (p.map UInt8.ofNat) = -1 then -1 else Lib.index (l.map UInt8.ofNat) (p.map UInt8.ofNat) + i)
 |[], i, _ => by
  show (Bool.rec (Int.negSucc 0) (Int.ofNat i) (lpre p []) : Int) = _
  cases p with
  |nil => simp [Lib.index, lpre]
  |cons x p => simp [Lib.index, lpre]
 |x :: l, i, hl => by
  have ih := sub_eq hp (l := l) (i + 1) fun z hz => hl z (by simp [hz])
  show (Bool.rec (lsub p l (i + 1)) (Int.ofNat i) (lpre p (x :: l)) : Int) = _
  rw [← pre_eq hp hl, ih, List.map_cons, index_cons]
  cases (p.map UInt8.ofNat).isPrefixOf (UInt8.ofNat x :: l.map UInt8.ofNat) with
  |true => simp
  |false =>
   simp only [Bool.false_eq_true, if_false]
   have hge := Lib.index_ge (l.map UInt8.ofNat) (p.map UInt8.ofNat)
   by_cases h : Lib.index (l.map UInt8.ofNat) (p.map UInt8.ofNat) = -1
   ·simp [h]
   ·have h' : (Lib.index (l.map UInt8.ofNat) (p.map UInt8.ofNat) == -1) = false := by simpa using h
    rw [h', if_neg h]
    simp only [Bool.false_eq_true, if_false]
    rw [if_neg (by omega)]
    push_cast
    omega
theorem join_eq (sep : List Nat) : ∀ l : List (List Nat), Lib.join (l.map (·.map UInt8.ofNat)) (sep.map UInt8.ofNat) = (ljoin sep l).map UInt8.ofNat
 |[] => rfl
 |[x] => by rw [List.map_cons, List.map_nil, Lib.join_one]; rfl
 |x :: y :: l => by
  have ih := join_eq sep (y :: l)
  have e : ljoin sep (x :: y :: l) = x ++ (sep ++ ljoin sep (y :: l)) := by
   show lapp x (lapp sep (ljoin sep (y :: l))) = _
   rw [lapp_eq, lapp_eq]
  rw [e, List.map_append, List.map_append, ← ih, List.map_cons, List.map_cons, Lib.join_cons, Lib.join_cons]
  simp [Lib.joinTail]
theorem bsA_data (s : List Nat) : (bsA s).data.toList = s.map UInt8.ofNat := by simp [bsA]
end
section
variable {w0 : World} {ρ : ERho}
theorem i_count {l : List AV} {xs : List Value} (hx : VRs ρ l xs) : EVN Tryz.prog w0 ρ (icount l) (callFunc 185 xs.toArray) := by
 intro s v s' hm w hw _
 unfold icount at hm
 split at hm
 ·rename_i a c
  cases hx with
  |cons _ x1 _ _ h1 h2 => cases h2 with
   |cons _ x2 _ _ h3 h4 =>
    cases h4
    cases h1 with
    |st _ ha =>
     cases h3
     obtain ⟨h5, h6⟩ := ecase_ok hm
     obtain ⟨rfl, rfl⟩ := epure_ok h6
     have hc := nblt_iff.1 h5
     rw [run_callFunc_extern Tryz.func185 (by kernel_rfl) (by kernel_rfl) (by kernel_rfl) (e := Extern.BytealgCount.count) (by kernel_rfl), Lib.run_countString]
     rw [bsA_data, show ((Int.ofNat c).toNat.toUInt8) = UInt8.ofNat c from rfl, cnt_eq hc ha]
     exact ⟨ρ, .it _ _, hw, EExt.refl _ _ _⟩
 ·exact (efail_ok (e := [115]) (s := s) hm).elim
theorem i_index {m : Int} (hm0 : w0.cell? ⟨4, 0, none⟩ = some (.int .i64 m)) (h10 : 4 < w0.heap.size) {l : List AV} {xs : List Value} (hx : VRs ρ l xs) : EVN Tryz.prog w0 ρ (iindexStr l) (callFunc 186 xs.toArray) := by
 refine evn_calls (fun w => call_enter Tryz.func186 (by kernel_rfl) (by kernel_rfl) _ w) fun s v s' hm w hw _ => ?_
 unfold iindexStr at hm
 split at hm
 ·rename_i a p
  cases hx with
  |cons _ x1 _ _ h1 h2 => cases h2 with
   |cons _ x2 _ _ h3 h4 =>
    cases h4
    cases h1 with
    |st _ ha => cases h3 with
     |st _ hp =>
      obtain ⟨h5, h6⟩ := ecase_ok hm
      obtain ⟨rfl, rfl⟩ := epure_ok h6
      have hc := nblt_iff.1 h5
      rw [llen_eq] at hc
      refine (Tryz.stringslite_Index (bsA a) (bsA p) m w (by rw [bsA_size]; omega) ((hw.fp.cell h10 (by simp)).trans hm0)).mono ?_
      rintro e w' ⟨rfl, rfl⟩
      refine ⟨_, rfl, kok_calm ?_ hw rfl rfl (Fp.refl _ _)⟩
      rw [bsA_data, bsA_data, sub_eq hp 0 ha]
      by_cases h : Lib.index (a.map UInt8.ofNat) (p.map UInt8.ofNat) = -1
      ·rw [if_pos h, h]; exact .it _ _
      ·rw [if_neg h]; simp only [Int.natCast_zero, Int.add_zero]; exact .it _ _
 ·exact (efail_ok (e := [117]) (s := s) hm).elim
end
end
section
open Go.RowKit
theorem BuilderAt.below {T : TypeId} {B b : Nat} {p : Value} {bs : List Value} {w w' : World} {S : List Nat} (h : Lib.BuilderAt T 5 B b p bs w) (hf : Fp S w w') (hs : ∀ i ∈ S, i < B) : Lib.BuilderAt T 5 B b p bs w' := by
 obtain ⟨hB, v, hb, hown, hne⟩ := h
 have hn : ∀ k, B ≤ k → k ∉ S := fun k hk hm => by have := hs k hm; omega
 refine ⟨hB, v, (hf.block b (heap_lt hb) (hn b hB)).trans hb, ?_, hne⟩
 obtain ⟨h1, h2⟩ := hown
 refine ⟨h1, ?_⟩
 rcases h2 with h2 | ⟨g, cap, cur, hv, hg, hh, r⟩
 ·exact Or.inl h2
 ·exact Or.inr ⟨g, cap, cur, hv, hg, (hf.block g (heap_lt hh) (hn g hg)).trans hh, r⟩
theorem sizeBuilder : ∃ j, Tryz.prog.info? 103 = some j ∧ j.size = 2 := by
 have h : (Tryz.prog.info? 103).map (·.size) = some 2 := by kernel_rfl
 exact Option.map_eq_some_iff.1 h
theorem copyCheck_used (b : Nat) (w : World) (h0 : w.cell? ⟨b, 0, none⟩ = some (.pointer (some ⟨b, 0, none⟩))) :
  Calls Tryz.prog 142 #[.pointer (some ⟨b, 0, none⟩)] w fun e w' => e = .returned (.tuple #[]) ∧ w' = w := by
 obtain ⟨j, hj, _⟩ := sizeBuilder
 go_enter Tryz.func142, Tryz.ntmps142
 go_wp2
 rw [Lib.run_neq_ptr_same w _ Tryz.underlying101 hj]
 go_wp2
 go_end0
 exact ⟨rfl, rfl⟩
end
section
set_option linter.unusedSectionVars false
open Go.RowKit
variable [Val]
section
variable {P : Program}
theorem rowAt_more (fits : TypeId → Bool) : ∀ (d : Nat) (e : TypeId) (c m off n : Nat), c ≤ m → _root_.Go.rowAt P fits d e c off n = true → _root_.Go.rowAt P fits d e m off n = true
 |0, _, _, _, _, _, _, h => by cases h
 |d + 1, e, c, m, off, n, hc, h => by
  unfold _root_.Go.rowAt at h ⊢
  simp only at h ⊢
  by_cases h0 : P.cellsOf e = 0
  ·rw [if_pos h0] at h; cases h
  ·rw [if_neg h0] at h ⊢
   simp only [Bool.or_eq_true, Bool.and_eq_true, decide_eq_true_eq] at h ⊢
   rcases h with ⟨⟨h1, h2⟩, h3⟩ | ⟨h1, h2⟩
   ·exact Or.inl ⟨⟨h1, Nat.le_trans h2 hc⟩, h3⟩
   ·exact Or.inr ⟨Nat.lt_of_lt_of_le h1 hc, h2⟩
theorem liesAt_more : ∀ (d : Nat) (e : TypeId) (c m off : Nat) (u : TypeId) (n : Nat), c ≤ m → liesAt P d e c off u n = true → liesAt P d e m off u n = true
 |0, _, _, _, _, _, _, _, h => by cases h
 |d + 1, e, c, m, off, u, n, hc, h => by
  unfold liesAt at h ⊢
  rw [Bool.or_eq_true] at h ⊢
  rcases h with h | h
  ·exact Or.inl (rowAt_more _ _ _ _ _ _ _ hc h)
  ·refine Or.inr ?_
   split at h
   ·exact liesAt_more d e c m off _ _ hc h
   ·cases h
end
section
variable {w0 : World} {ρ : ERho}
theorem strs_in_row {c : Array Value} {lc : List AV} {o n : Nat} {ss : List (List Nat)} (hl : ∀ (j : Nat) (v : AV), lc[j]? = some v → ∃ x, c[0 + j]? = some x ∧ VR ρ v x) (ho : omap strOf ((lc.drop o).take n) = some ss) (hn : ss.length = n) :
  (∀ q ∈ ss, ∀ x ∈ q, x < 256) ∧ ∀ (j : Nat) (q : List Nat), ss[j]? = some q → c[o + j]? = some (.string (bsA q)) := by
 obtain ⟨h1, h2⟩ := omap_some ho
 have key : ∀ (j : Nat) (q : List Nat), ss[j]? = some q → c[o + j]? = some (.string (bsA q)) ∧ ∀ x ∈ q, x < 256 := fun j q hq => by
  have hj : j < ss.length := (List.getElem?_eq_some_iff.1 hq).1
  have hx : ((lc.drop o).take n)[j]? = some ((lc.drop o).take n)[j] := List.getElem?_eq_getElem (by omega)
  obtain ⟨y, hy1, hy2⟩ := h2 j _ hx
  rw [hq] at hy2
  cases hy2
  rw [List.getElem?_take, if_pos (by omega), List.getElem?_drop] at hx
  obtain ⟨x, hx1, hx2⟩ := hl (o + j) _ hx
  rw [Nat.zero_add] at hx1
  obtain ⟨u, hu⟩ : ∃ u, ((lc.drop o).take n)[j] = u := ⟨_, rfl⟩
  rw [hu] at hy1 hx2
  cases hx2 <;> first | (cases hy1; exact ⟨hx1, by assumption⟩) | cases hy1
 refine ⟨fun q hq => ?_, fun j q hq => (key j q hq).1⟩
 obtain ⟨j, hj⟩ := List.getElem?_of_mem hq
 exact (key j q hj).2
theorem i_join {l : List AV} {xs : List Value} (hx : VRs ρ l xs) : EVN Tryz.prog w0 ρ (ijoin l) (callFunc 75 xs.toArray) := by
 refine evn_calls (fun w => call_enter Tryz.func75 (by kernel_rfl) (by kernel_rfl) _ w) fun s v s' hm w hw _ => ?_
 unfold ijoin at hm
 split at hm
 ·rename_i i o n c sep
  cases hx with
  |cons _ x1 _ _ h1 h2 => cases h2 with
   |cons _ x2 _ _ h3 h4 =>
    cases h4
    cases h3 with
    |st _ hsep =>
     obtain ⟨cc, s1, h5, h6⟩ := ebind_ok hm
     obtain ⟨hb, rfl⟩ := ecells_ok h5
     cases ho : omap strOf (ltake (ldrop cc.2.1 o) n) with
     |none => rw [ho] at h6; exact (efail_ok (e := [119]) h6).elim
     |some ss =>
      rw [ho] at h6
      obtain ⟨h7, h8⟩ := ecase_ok h6
      obtain ⟨rfl, rfl⟩ := epure_ok h8
      simp only [iand_eq, Bool.and_eq_true] at h7
      obtain ⟨e1, e2, e3, e4⟩ := h7
      have hn := nbeq_t e1
      have hnc := nble_iff.1 e2
      have hn6 := nble_iff.1 e3
      have hj6 := nble_iff.1 e4
      rw [llen_eq] at hn hj6
      rw [ltake_eq, ldrop_eq] at ho
      have fin : ∀ (r : RI) (c' : Nat), ρ i = some r → n ≤ c' → Calls Tryz.prog 75 [.slice (some ⟨r.b, r.d + o, none⟩) n c', .string (bsA sep)].toArray w fun e w' => ∃ x, e = .returned x ∧ KOK Tryz.prog w0 ρ (.st (ljoin sep ss)) s ⟨s.hp, s.nx, s.rd ||| (1 <<< i), s.wr⟩ x w' := fun r c' hr hc' => by
       obtain ⟨ca, f, z, hc1, hz, hd0, hroom, hl⟩ := hp_cells hw hb hr
       rw [hd0] at hl ⊢
       obtain ⟨hb1, hb2⟩ := strs_in_row hl ho hn
       have hmap : (ss.map bsA).map (·.data.toList) = ss.map (·.map UInt8.ofNat) := by
        rw [List.map_map]
        exact List.map_congr_left fun q _ => bsA_data q
       have := Tryz.strings_Join r.b (0 + o) c' (ss.map bsA) (bsA sep) w (fun j x hj => by
        rw [List.getElem?_map] at hj
        cases hq : ss[j]? with
        |none => rw [hq] at hj; cases hj
        |some q =>
         rw [hq] at hj
         cases hj
         rw [cell_of_block hc1, Nat.zero_add]
         exact hb2 j q hq) (heap_lt hc1) (by rw [List.length_map]; omega) (by rw [List.length_map]; omega) (by rw [hmap, bsA_data, join_eq, List.length_map]; omega)
       rw [List.length_map, hn] at this
       refine this.mono ?_
       rintro e w' ⟨rfl, hbl⟩
       refine ⟨_, rfl, kok_calm ?_ hw rfl rfl (Below.toFp hbl)⟩
       rw [hmap, bsA_data, join_eq]
       refine .st _ ?_
       have hall : ∀ q : List (List Nat), (∀ t ∈ q, ∀ x ∈ t, x < 256) → ∀ x ∈ ljoin sep q, x < 256 := by
        intro q
        induction q with
        |nil => intro _ x hx; simp [ljoin] at hx
        |cons t q ih =>
         intro hq x hx
         have ih' := ih fun u hu => hq u (by simp [hu])
         cases q with
         |nil => exact hq t (by simp) x hx
         |cons u q =>
          have e : ljoin sep (t :: u :: q) = t ++ (sep ++ ljoin sep (u :: q)) := by
           show lapp t (lapp sep (ljoin sep (u :: q))) = _
           rw [lapp_eq, lapp_eq]
          rw [e, List.mem_append, List.mem_append] at hx
          rcases hx with hx | hx | hx
          ·exact hq t (by simp) x hx
          ·exact hsep x hx
          ·exact ih' x hx
       exact hall ss hb1
      cases h1 with
      |sl _ _ _ _ c' r hr hc => exact fin r c' hr (by omega)
      |sz _ _ r hr a =>
       have : ss = [] := List.eq_nil_of_length_eq_zero hn
       subst this
       refine (Tryz.strings_Join_none (some a) 0 (bsA sep) w).mono ?_
       rintro e w' ⟨rfl, rfl⟩
       exact ⟨_, rfl, kok_calm (.st [] (by simp)) hw rfl rfl (Fp.refl _ _)⟩
 ·rename_i sep
  cases hx with
  |cons _ x1 _ _ h1 h2 => cases h2 with
   |cons _ x2 _ _ h3 h4 =>
    cases h4
    cases h1
    cases h3 with
    |st _ hsep =>
     obtain ⟨rfl, rfl⟩ := epure_ok hm
     refine (Tryz.strings_Join_none none 0 (bsA sep) w).mono ?_
     rintro e w' ⟨rfl, rfl⟩
     exact ⟨_, rfl, kok_calm (.st [] (by simp)) hw rfl rfl (Fp.refl _ _)⟩
 ·exact (efail_ok (e := [119]) (s := s) hm).elim
end
end
section
set_option linter.unusedSectionVars false
open Go.RowKit
variable [Val]
theorem copyCheck_wide {T : TypeId} {n : Nat} (hT : liesAt Tryz.prog Tryz.prog.depth T (n / Tryz.prog.cellsOf T) 0 103 1 = true) (b : Nat) (w : World) (h0 : w.cell? ⟨b, 0, none⟩ = some (.pointer none)) (hsh : w.shape? b = some (T, n)) (hn : 0 < n) (hfz : w.frozen? ⟨b, 0, none⟩ = false) :
  Calls Tryz.prog 142 #[.pointer (some ⟨b, 0, none⟩)] w fun e w' => e = .returned (.tuple #[]) ∧ w' = w.setCell ⟨b, 0, none⟩ (.pointer (some ⟨b, 0, none⟩)) := by
 obtain ⟨j, hj, hjs⟩ := sizeBuilder
 go_enter Tryz.func142, Tryz.ntmps142
 go_wp2
 rw [Lib.run_to_unsafe w ⟨b, 0, none⟩ Tryz.underlying101 Tryz.underlying302 hj (by rw [hjs]; decide) hsh hn]
 simp only [Result.andThen]
 rw [Oper.upon_value]
 go_wp2
 rw [run_callFunc_extern Tryz.func231 (by kernel_rfl) (by kernel_rfl) (by kernel_rfl) (e := Extern.AbiNoEscape.same) (by kernel_rfl)]
 rw [Lib.run_noEscape]
 simp only [Result.andThen]
 rw [Oper.upon_value]
 go_wp2
 rw [Lib.run_from_unsafe w ⟨b, 0, none⟩ Tryz.underlying302 Tryz.underlying101 hj hsh hT]
 simp only [Result.andThen]
 rw [Oper.upon_value]
 go_wp2
 go_end0
 exact ⟨rfl, rfl⟩
section
variable {w0 : World} {ρ : ERho}
theorem lmem_mem {x : Nat} : ∀ {l : List Nat}, lmem x l = true → x ∈ l
 |[], h => by cases h
 |y :: l, h => by
  have h' : ior (Nat.beq x y) (lmem x l) = true := h
  rw [ior_eq, Bool.or_eq_true] at h'
  rcases h' with h | h
  ·rw [nbeq_t h]; simp
  ·have := lmem_mem h
   simp [this]
theorem i_copyCheck {Ts : List TypeId} (hTs : ∀ T ∈ Ts, Tryz.prog.cellsOf T = 2 ∧ liesAt Tryz.prog Tryz.prog.depth T 1 0 103 1 = true) {l : List AV} {xs : List Value} (hx : VRs ρ l xs) : EVN Tryz.prog w0 ρ (icopyCheck Ts l) (callFunc 142 xs.toArray) := by
 refine evn_calls (fun w => call_enter Tryz.func142 (by kernel_rfl) (by kernel_rfl) _ w) fun s v s' hm w hw _ => ?_
 unfold icopyCheck at hm
 split at hm
 ·rename_i i
  cases hx with
  |cons _ x1 _ _ h1 h2 =>
   cases h2
   cases h1 with
   |pt _ _ r hr =>
    obtain ⟨cc, s1, h5, h6⟩ := ebind_ok hm
    obtain ⟨hb, rfl⟩ := ecells_ok h5
    obtain ⟨hT, h7⟩ := ecase_ok h6
    obtain ⟨hc2, hlies⟩ := hTs _ (lmem_mem hT)
    obtain ⟨ca, f, z, hc1, hz, hd0, hroom, hl⟩ := hp_cells hw hb hr
    obtain ⟨ct, cl, cf⟩ := cc
    simp only at h7 hb hc1 hroom hl hc2 hlies
    rw [hd0] at hl ⊢
    split at h7
    ·rename_i v2
     obtain ⟨h8, h9⟩ := ecase_ok h7
     have hf0 := nbeq_t h8
     obtain ⟨u, s2, h10, h11⟩ := ebind_ok h9
     obtain ⟨rfl, rfl⟩ := epure_ok h11
     have h12 := eset_ok h10
     subst h12
     obtain ⟨y0, hy0, hv0⟩ := hl 0 .pn rfl
     cases hv0
     have hsz : 2 ≤ ca.size := by
      have := hroom.1
      simp only [List.length_cons, List.length_nil] at this
      omega
     have hcell : w.cell? ⟨r.b, 0, none⟩ = some (.pointer none) := (cell_of_block hc1 0).trans hy0
     have hfr : w.frozen? ⟨r.b, 0, none⟩ = false := by
      have := hroom.2.1 0 (fun _ => by omega) (by omega)
      unfold World.frozen?
      rw [hc1]
      simp only [Bool.and_eq_false_imp, decide_eq_true_eq, decide_eq_false_iff_not]
      omega
     refine (copyCheck_wide (n := ca.size) (by rw [hc2]; exact liesAt_more _ _ _ _ _ _ _ (by omega) hlies) r.b w hcell (by simp [World.shape?, hc1]) (by omega) hfr).mono ?_
     rintro e w' ⟨rfl, rfl⟩
     have hs : (w.setCell ⟨r.b, 0, none⟩ (.pointer (some ⟨r.b, 0, none⟩))).heap[r.b]? = some (.cells (ca.setIfInBounds 0 (.pointer (some ⟨r.b, 0, none⟩))) ct f) := heap_setCell_same (o := 0) hc1 _
     refine ⟨_, rfl, ρ, .un, ?_, EExt.refl _ _ _⟩
     refine hw.set hb hr ⟨Fp.setCell w ⟨r.b, 0, none⟩ _, by simp [World.setCell], hs⟩ ⟨_, f, z, rfl, hz, hd0, ⟨by rw [Array.size_setIfInBounds]; exact hroom.1, fun k hk hk2 => hroom.2.1 k hk (by rwa [Array.size_setIfInBounds] at hk2), hroom.2.2⟩, fun j u hu => ?_⟩
     rw [hd0]
     cases j with
     |zero =>
      simp only [List.getElem?_cons_zero, Option.some.injEq] at hu
      subst hu
      refine ⟨.pointer (some ⟨r.b, 0, none⟩), ?_, ?_⟩
      ·have h00 : 0 < ca.size := by omega
       simp [h00]
      ·have := VR.pt (ρ := ρ) i 0 r hr
       rwa [hd0] at this
     |succ j =>
      rw [List.getElem?_cons_succ] at hu
      obtain ⟨y, hy, hv⟩ := hl (j + 1) u (by rw [List.getElem?_cons_succ]; exact hu)
      refine ⟨y, ?_, hv⟩
      rw [Array.getElem?_setIfInBounds_ne (by omega)]
      exact hy
    ·rename_i j v2
     obtain ⟨h8, h9⟩ := ecase_ok h7
     have hij := nbeq_t h8
     subst hij
     obtain ⟨rfl, rfl⟩ := epure_ok h9
     obtain ⟨y0, hy0, hv0⟩ := hl 0 (.pt i 0) rfl
     cases hv0 with
     |pt _ _ q hq =>
      rw [hr] at hq
      cases hq
      rw [hd0] at hy0
      refine (copyCheck_used r.b w ((cell_of_block hc1 0).trans hy0)).mono ?_
      rintro e w' ⟨rfl, rfl⟩
      exact ⟨_, rfl, kok_calm .un hw rfl rfl (Fp.refl _ _)⟩
    ·exact (efail_ok (e := [114]) h7).elim
 ·exact (efail_ok (e := [114]) (s := s) hm).elim
theorem builder_types : ∀ T ∈ [103, 443], Tryz.prog.cellsOf T = 2 ∧ liesAt Tryz.prog Tryz.prog.depth T 1 0 103 1 = true := by
 intro T hT
 rcases List.mem_cons.1 hT with rfl | hT
 ·exact ⟨by kernel_rfl, by kernel_rfl⟩
 ·rcases List.mem_cons.1 hT with rfl | hT
  ·exact ⟨by kernel_rfl, by kernel_rfl⟩
  ·cases hT
end
end
section
open Go.RowKit Go.Maps Go.MapKept Go.ChangeMaps
section
variable {κ ν : Type}
structure MTy (P : Program) (t k e : TypeId) (κ ν : Type) where
 K : Keyed P k
 ht : P.underlying t = some (.map k e)
 kv : κ → Value
 mv : ν → Value
 ok : κ → Prop
 inj : ∀ {a b}, kv a = kv b → a = b
 key : ∀ {a}, ok a → ∃ l, keyOf P k (kv a) = some l
 zero : ν
 hz : ∀ w, (zeroValue e).run P w = .ok (mv zero) w
variable {P : Program} {t k e : TypeId} (M : MTy P t k e κ ν)
end
end
section
open Go.RowKit Go.Maps Go.MapKept Go.ChangeMaps
end
section
open Go.RowKit Go.Maps Go.MapKept Go.ChangeMaps
end
section
open Go.RowKit Go.Maps Go.MapKept Go.ChangeMaps
end
section
open Go.RowKit Go.Maps Go.MapKept Go.ChangeMaps
end
section
open Go.RowKit Go.Maps Go.MapKept Go.ChangeMaps
end
section
open Go.RowKit Go.Maps Go.MapKept Go.ChangeMaps
end
section
open Go.RowKit Go.Maps Go.MapKept Go.ChangeMaps
end
section
open Go.RowKit Go.Maps Go.MapKept Go.ChangeMaps
end
section
open Go.RowKit Go.Maps Go.MapKept
open Go.WideElems (Fit rd rg)
def anyElem (_ : Value) : Option (DataW Unit × List MemPlace) := some (.nil, [])
theorem rd_of {x : MapEntry} {s : ByteArray} (h : x.key = .string s) (hs : s.size ≤ maxLen) : rd Tryz.prog 9 anyElem x = some (.string s.data.toList, .nil) := by
 unfold rd
 rw [h, Go.WideMaps.keyOf_string_mk Tryz.underlying9 hs]
 rfl
end
section
set_option linter.unusedSectionVars false
open Go.RowKit Go.Maps Go.MapKept
variable [Val]
open Go.WideElems (Fit rd rg)
theorem sorted_one : ∀ {a b : List (List UInt8)}, a.Perm b → a.Pairwise (· ≤ ·) → b.Pairwise (· ≤ ·) → a = b
 |[], b, h, _, _ => (List.nil_perm.1 h).symm
 |x :: a, b, h, h1, h2 => by
  cases b with
  |nil => exact absurd h.length_eq (by simp)
  |cons y b =>
   have e : x = y := by
    have hx : x ∈ y :: b := h.subset (by simp)
    have hy : y ∈ x :: a := h.symm.subset (by simp)
    have k1 := List.pairwise_cons.1 h1
    have k2 := List.pairwise_cons.1 h2
    rcases List.mem_cons.1 hx with e | hx
    ·exact e
    ·rcases List.mem_cons.1 hy with e | hy
     ·exact e.symm
     ·exact List.le_antisymm (k1.1 y hy) (k2.1 x hx)
   subst e
   rw [sorted_one (List.Perm.cons_inv h) (List.pairwise_cons.1 h1).2 (List.pairwise_cons.1 h2).2]
def uL (s : List Nat) : List UInt8 := s.map UInt8.ofNat
theorem llt_lt : ∀ {a b : List Nat}, (∀ x ∈ a, x < 256) → (∀ x ∈ b, x < 256) → (llt a b = true ↔ uL a < uL b)
 |[], [], _, _ => by simp [llt, uL]
 |[], y :: b, _, _ => by simp [llt, uL]
 |x :: a, [], _, _ => by simp [llt, uL]
 |x :: a, y :: b, ha, hb => by
  have ih := llt_lt (a := a) (b := b) (fun z hz => ha z (by simp [hz])) (fun z hz => hb z (by simp [hz]))
  show (Bool.rec (Bool.rec false (llt a b) (Nat.beq x y)) true (Nat.blt x y) : Bool) = true ↔ UInt8.ofNat x :: uL a < UInt8.ofNat y :: uL b
  have hx := ha x (by simp)
  have hy := hb y (by simp)
  have e1 : UInt8.ofNat x < UInt8.ofNat y ↔ x < y := by
   rw [UInt8.lt_iff_toNat_lt, UInt8.toNat_ofNat', UInt8.toNat_ofNat', Nat.mod_eq_of_lt (by simpa using hx), Nat.mod_eq_of_lt (by simpa using hy)]
  have e2 : UInt8.ofNat x = UInt8.ofNat y ↔ x = y := by
   constructor
   ·intro e
    have := congrArg UInt8.toNat e
    rwa [UInt8.toNat_ofNat', UInt8.toNat_ofNat', Nat.mod_eq_of_lt (by simpa using hx), Nat.mod_eq_of_lt (by simpa using hy)] at this
   ·exact fun e => by rw [e]
  rw [List.cons_lt_cons_iff, e1, e2, ← ih]
  cases h1 : Nat.blt x y with
  |true => have := nblt_iff.1 h1; simp [this]
  |false =>
   have h1' : ¬ x < y := fun h => by rw [nblt_iff.2 h] at h1; cases h1
   cases h2 : Nat.beq x y with
   |true => have := nbeq_t h2; simp [this]
   |false =>
    have h2' : x ≠ y := fun h => by subst h; rw [show Nat.beq x x = true from Nat.beq_refl x] at h2; cases h2
    simp [h1', h2']
theorem lins_perm (x : List Nat) : ∀ l : List (List Nat), (lins x l).Perm (x :: l)
 |[] => List.Perm.refl _
 |y :: l => by
  show (Bool.rec (y :: lins x l) (x :: y :: l) (llt x y) : List (List Nat)).Perm _
  cases llt x y
  ·exact ((lins_perm x l).cons y).trans (List.Perm.swap x y l)
  ·exact List.Perm.refl _
theorem lsort_perm : ∀ l : List (List Nat), (lsort l).Perm l
 |[] => List.Perm.refl _
 |x :: l => (lins_perm x (lsort l)).trans ((lsort_perm l).cons x)
theorem lins_order {x : List Nat} (hx : ∀ z ∈ x, z < 256) : ∀ {l : List (List Nat)}, (∀ y ∈ l, ∀ z ∈ y, z < 256) → (l.map uL).Pairwise (· ≤ ·) → ((lins x l).map uL).Pairwise (· ≤ ·)
 |[], _, _ => by simp [lins]
 |y :: l, hl, h => by
  have h1 := List.pairwise_cons.1 h
  have ih := lins_order hx (l := l) (fun u hu => hl u (by simp [hu])) h1.2
  have hlt := llt_lt hx (hl y (by simp))
  show ((Bool.rec (y :: lins x l) (x :: y :: l) (llt x y) : List (List Nat)).map uL).Pairwise _
  cases hc : llt x y with
  |true =>
   have hxy : uL x ≤ uL y := List.le_of_lt (hlt.1 hc)
   refine List.pairwise_cons.2 ⟨fun z hz => ?_, h⟩
   rcases List.mem_cons.1 hz with rfl | hz
   ·exact hxy
   ·exact List.le_trans hxy (h1.1 z hz)
  |false =>
   have hyx : uL y ≤ uL x := by
    show ¬ uL x < uL y
    exact fun h => by rw [hlt.2 h] at hc; cases hc
   refine List.pairwise_cons.2 ⟨fun z hz => ?_, ih⟩
   have hz' : z ∈ (x :: l).map uL := ((lins_perm x l).map uL).subset hz
   rcases List.mem_cons.1 hz' with rfl | hz'
   ·exact hyx
   ·exact h1.1 z hz'
theorem lsort_order : ∀ {l : List (List Nat)}, (∀ y ∈ l, ∀ z ∈ y, z < 256) → ((lsort l).map uL).Pairwise (· ≤ ·)
 |[], _ => by simp [lsort]
 |x :: l, h => by
  have ih := lsort_order (l := l) fun u hu => h u (by simp [hu])
  exact lins_order (h x (by simp)) (l := lsort l) (fun u hu => h u (by have := (lsort_perm l).subset hu; simp [this])) ih
theorem sorted_is {l : List (List Nat)} (h : ∀ y ∈ l, ∀ z ∈ y, z < 256) {ss : List (List UInt8)} (hp : ss.Perm (l.map uL)) : ss.mergeSort (fun x y => decide (x ≤ y)) = (lsort l).map uL := by
 have hs : (ss.mergeSort (fun x y => decide (x ≤ y))).Pairwise (fun x y => decide (x ≤ y) = true) :=
  List.pairwise_mergeSort (by
   intro a b c h1 h2
   simp only [decide_eq_true_eq] at h1 h2 ⊢
   exact List.le_trans h1 h2) (by
   intro a b
   have := List.le_total a b
   simp only [Bool.or_eq_true, decide_eq_true_eq]
   exact this) ss
 refine sorted_one ?_ (hs.imp fun h => by simpa using h) (lsort_order h)
 exact ((List.mergeSort_perm ss _).trans hp).trans ((lsort_perm l).map uL).symm
end
section
set_option linter.unusedSectionVars false
open Go.RowKit Go.Maps Go.MapKept Go.Sort Go.Shelf
variable [Val]
open Go.WideElems (Fit rd rg)
section
variable {ρ : ERho}
theorem fresh_ok {s : List Nat} (hs : ∀ x ∈ s, x < 256) : ∀ {es : List (AV × AV × Nat)} {ms : List MapEntry}, EntsR ρ es ms → lfresh s es = true → ∀ x ∈ ms, x.key ≠ .string (bsA s)
 |_, _, .nil, _ => fun x hx => by simp at hx
 |_, _, .cons e m es ms hr hr2, h => fun x hx => by
  obtain ⟨k, v, b⟩ := e
  have hk := hr.1
  simp only at hk
  obtain ⟨mk, hmk⟩ : ∃ mk, m.key = mk := ⟨_, rfl⟩
  rw [hmk] at hk
  cases hk with
  |st q hq =>
   have h' : iand (Bool.not (leq s q)) (lfresh s es) = true := h
   simp only [iand_eq, Bool.and_eq_true, Bool.not_eq_true'] at h'
   rcases List.mem_cons.1 hx with rfl | hx
   ·rw [hmk]
    intro e
    have := bsA_inj hq hs (by simpa using e)
    subst this
    have := h'.1
    rw [leq_iff] at this
    simp at this
   ·exact fresh_ok hs hr2 h'.2 x hx
  |_ => exact absurd (show false = true from h) (by decide)
theorem born_ok {b : Nat} : ∀ {es : List (AV × AV × Nat)} {ms : List MapEntry}, EntsR ρ es ms → lkeys.lborn b es = true → ∀ x ∈ ms, x.born ≠ b
 |_, _, .nil, _ => fun x hx => by simp at hx
 |_, _, .cons e m es ms hr hr2, h => fun x hx => by
  have h' : iand (Bool.not (Nat.beq b e.2.2)) (lkeys.lborn b es) = true := h
  rw [iand_eq, Bool.and_eq_true] at h'
  rcases List.mem_cons.1 hx with rfl | hx
  ·rw [← hr.2.2]
   intro e2
   rw [e2, show Nat.beq b b = true from Nat.beq_refl b] at h'
   simp at h'
  ·exact born_ok hr2 h'.2 x hx
theorem keys_ok {c : Nat} : ∀ {es : List (AV × AV × Nat)} {ms : List MapEntry}, EntsR ρ es ms → lkeys c es = true → ∀ ks, omap (fun e : AV × AV × Nat => strOf e.1) es = some ks →
  (∀ x ∈ ms, ∃ q : List Nat, x.key = .string (bsA q) ∧ q.length ≤ 65536 ∧ ∀ z ∈ q, z < 256) ∧ (∀ x ∈ ms, x.born < c) ∧ (ms.map (·.born)).Nodup ∧ (ms.map (·.key)).Nodup ∧ ms.map (·.key) = ks.map (fun q => Value.string (bsA q)) ∧ ∀ q ∈ ks, ∀ z ∈ q, z < 256
 |_, _, .nil, _, ks, hk => by
  cases hk
  exact ⟨by simp, by simp, by simp, by simp, rfl, by simp⟩
 |_, _, .cons e m es ms hr hr2, h, ks, hks => by
  obtain ⟨k, v, b⟩ := e
  have hk := hr.1
  have hb := hr.2.2
  have hks' : (Option.rec none (fun y => Option.rec none (fun ys => some (y :: ys)) (omap (fun e : AV × AV × Nat => strOf e.1) es)) (strOf k) : Option (List (List Nat))) = some ks := hks
  simp only at hk hb
  obtain ⟨mk, hmk⟩ : ∃ mk, m.key = mk := ⟨_, rfl⟩
  rw [hmk] at hk
  cases hk with
  |st s hs =>
   have h' : iand (iand (lfresh s es) (Nat.ble (llen s) 65536)) (iand (Nat.blt b c) (iand (lkeys.lborn b es) (lkeys c es))) = true := h
   simp only [iand_eq, Bool.and_eq_true] at h'
   obtain ⟨⟨h1, h2⟩, h3, h4, h5⟩ := h'
   cases ho : omap (fun e : AV × AV × Nat => strOf e.1) es with
   |none => rw [ho] at hks'; cases hks'
   |some ks2 =>
    rw [ho] at hks'
    cases hks'
    obtain ⟨i1, i2, i3, i4, i5, i6⟩ := keys_ok hr2 h5 ks2 ho
    have hl := nble_iff.1 h2
    rw [llen_eq] at hl
    have hbc := nblt_iff.1 h3
    refine ⟨fun x hx => ?_, fun x hx => ?_, ?_, ?_, ?_, fun q hq => ?_⟩
    ·rcases List.mem_cons.1 hx with rfl | hx
     ·exact ⟨s, hmk, hl, hs⟩
     ·exact i1 x hx
    ·rcases List.mem_cons.1 hx with rfl | hx
     ·rw [← hb]; exact hbc
     ·exact i2 x hx
    ·rw [List.map_cons, List.nodup_cons]
     refine ⟨fun hx => ?_, i3⟩
     obtain ⟨x, hx, e⟩ := List.mem_map.1 hx
     exact born_ok hr2 h4 x hx (by rw [e, hb])
    ·rw [List.map_cons, List.nodup_cons]
     refine ⟨fun hx => ?_, i4⟩
     obtain ⟨x, hx, e⟩ := List.mem_map.1 hx
     exact fresh_ok hs hr2 h1 x hx (by rw [e, hmk])
    ·rw [List.map_cons, List.map_cons, hmk, i5]
    ·rcases List.mem_cons.1 hq with rfl | hq
     ·exact hs
     ·exact i6 q hq
  |_ => exact absurd (show false = true from h) (by decide)
end
theorem owns_keys {w : World} {b c : Nat} {ms : Array MapEntry} {ks : List (List Nat)} (hb : w.heap[b]? = some (.map ms c)) (hsz : ms.size ≤ 200)
  (h1 : ∀ x ∈ ms.toList, ∃ q : List Nat, x.key = .string (bsA q) ∧ q.length ≤ 65536 ∧ ∀ z ∈ q, z < 256) (h2 : ∀ x ∈ ms.toList, x.born < c) (h3 : (ms.toList.map (·.born)).Nodup) (h4 : (ms.toList.map (·.key)).Nodup) (h5 : ms.toList.map (·.key) = ks.map (fun q => Value.string (bsA q))) :
  ∃ D0 : DataW Unit, w.ownsMap Tryz.prog 9 anyElem b 200 D0 ∧ Maps.size D0 ≤ 200 ∧ (strKeys D0).Perm (ks.map uL) := by
 have hrd : ∀ (x : MapEntry) (q : List Nat), x.key = .string (bsA q) → q.length ≤ 65536 → rd Tryz.prog 9 anyElem x = some (.string (uL q), .nil) := fun x q hx hq => by
  have := rd_of (x := x) (s := bsA q) hx (by rw [bsA_size]; unfold maxLen; omega)
  rw [bsA_data] at this
  exact this
 have hrg : ∀ (x : MapEntry) (q : List Nat), x.key = .string (bsA q) → q.length ≤ 65536 → rg Tryz.prog 9 anyElem x = (.string (uL q), .nil) := fun x q hx hq => by
  unfold rg
  rw [hrd x q hx hq]
  rfl
 refine ⟨.map ((ms.toList.map (rg Tryz.prog 9 anyElem)).foldr DataW.insert []), ⟨ms, c, hb, ⟨?_, ⟨h2, h3, h4⟩, ?_⟩, hsz, rfl⟩, ?_, ?_⟩
 ·unfold maxLen; omega
 ·intro x hx
  obtain ⟨q, e1, e2, _⟩ := h1 x hx
  exact ⟨_, hrd x q e1 e2⟩
 ·rw [Maps.size_eq, Go.WideShapes.sorted_perm _ |>.length_eq]
  simp only [List.length_map, Array.length_toList]
  omega
 ·have hp := (Go.WideShapes.sorted_perm (ms.toList.map (rg Tryz.prog 9 anyElem))).map (fun p => Go.strOf p.1)
  refine List.Perm.trans hp (List.Perm.of_eq ?_)
  rw [List.map_map]
  apply List.ext_getElem?
  intro j
  have h6 := congrArg (fun l => l[j]?) h5
  simp only [List.getElem?_map] at h6 ⊢
  cases hj : ms.toList[j]? with
  |none =>
   rw [hj] at h6
   cases hk : ks[j]? with
   |none => rfl
   |some q => rw [hk] at h6; cases h6
  |some x =>
   rw [hj] at h6
   cases hk : ks[j]? with
   |none => rw [hk] at h6; cases h6
   |some q =>
    rw [hk] at h6
    simp only [Option.map_some, Option.some.injEq] at h6 ⊢
    obtain ⟨q2, e1, e2, e3⟩ := h1 x (List.mem_of_getElem? hj)
    have e4 : bsA q2 = bsA q := by rw [e1] at h6; simpa using h6
    have := hrg x q2 e1 e2
    simp only [Function.comp_apply, this]
    show q2.map UInt8.ofNat = q.map UInt8.ofNat
    have := congrArg (fun s : ByteArray => s.data.toList) e4
    simpa only [bsA_data] using this
end
section
set_option linter.unusedSectionVars false
open Go.RowKit Go.Maps Go.MapKept Go.Sort Go.Shelf
variable [Val]
open Go.WideElems (Fit rd rg)
theorem sortedKeys_at {H : Type} (c b nn : Nat) (D0 : DataW H) (R : Value → Option (DataW H × List MemPlace)) (w : World) (hc : c < w.heap.size) (hm : w.cell? ⟨c, 0, none⟩ = some (.map (some b))) (hown : w.ownsMap Tryz.prog 9 R b nn D0) (hmax : Maps.size D0 ≤ maxLen) (hbytes : Maps.size D0 * 16 ≤ 140737488355328) :
  CallsIn Fence.wide 5 Tryz.prog 269 #[.func (.func 396) #[] #[.pointer (some ⟨c, 0, none⟩)]] w fun e w' => ∃ (v : Value) (ss : List (List UInt8)), e = .returned v ∧ ss.Perm (strKeys D0) ∧
   w'.ownsRow w.heap.size 9 1 v ss.length ((ss.mergeSort (fun x y => decide (x ≤ y))).map encStr) ∧ (v = .slice none 0 0 ↔ ss = []) ∧ Below w.heap.size w w' := by
 have hseq : SeqGives Fence.wide 2 Tryz.prog 396 #[.pointer (some ⟨c, 0, none⟩)] encStr (fun ss => ss.Perm (strKeys D0)) (Maps.size D0) w :=
  AnyZ.keys_gives (ρ := Tryz.keys270_ren) { Tryz.keys270 with } Fence.wide _ trivial rfl (by omega) c b nn D0 _ hc hm hown
 exact AnyZ.sorted_in Tryz.sorted269 Fence.wide 5 trivial trivial trivial trivial rfl (by omega) (Tryz.sorts269 _) (enters_of Tryz.func395 (by kernel_rfl) rfl) 396 #[.pointer (some ⟨c, 0, none⟩)] trivial (enters_of Tryz.func396 (by kernel_rfl) rfl) _ _ hmax hbytes _ hseq
section
variable {w0 : World} {ρ : ERho}
theorem string_one : tySz Tryz.prog 9 = some 1 := by kernel_rfl
theorem strs_vrs {ks : List (List Nat)} (h : ∀ q ∈ ks, ∀ z ∈ q, z < 256) : VRs ρ (lmap AV.st ks) (ks.map fun q => Value.string (bsA q)) := by
 rw [lmap_eq]
 exact VRs.map fun q hq => .st q (h q hq)
theorem i_sorted {l : List AV} {xs : List Value} (hx : VRs ρ l xs) : EVN Tryz.prog w0 ρ (isorted 396 9 198 l) (callFunc 269 xs.toArray) := by
 refine evn_calls (fun w => call_enter Tryz.func269 (by kernel_rfl) (by kernel_rfl) _ w) fun s v s' hm w hw hfr => ?_
 unfold isorted at hm
 split at hm
 ·rename_i k b
  cases hx with
  |cons _ x1 _ _ h1 h2 =>
   cases h2
   cases h1 with
   |fn _ _ _ us ys hu hy =>
    cases hu
    cases hy with
    |cons _ y1 _ _ hy1 hy2 =>
     cases hy2
     cases hy1 with
     |pt _ _ r hr =>
      obtain ⟨hk, h5⟩ := ecase_ok hm
      have hk' := nbeq_t hk
      subst hk'
      obtain ⟨cc, s1, h6, h7⟩ := ebind_ok h5
      obtain ⟨hb, rfl⟩ := ecells_ok h6
      obtain ⟨ca, f, z, hc1, hz, hd0, hroom, hl⟩ := hp_cells hw hb hr
      obtain ⟨ct, cl, cf⟩ := cc
      simp only at h7 hb hc1 hroom hl
      rw [hd0] at hl ⊢
      split at h7
      ·rename_i m
       obtain ⟨-, h8⟩ := ecase_ok h7
       obtain ⟨mm, s2, h9, h10⟩ := ebind_ok h8
       obtain ⟨bb, s3, h11, h12⟩ := ebind_ok (m := eget m) h9
       obtain ⟨hbm, rfl⟩ := eget_ok h11
       obtain ⟨y0, hy0, hv0⟩ := hl 0 (.mp m) rfl
       cases hv0 with
       |mp _ q hq =>
        cases bb with
        |ma es clock =>
         obtain ⟨rfl, rfl⟩ := epure_ok (a := (es, clock)) h12
         obtain ⟨h13, h14⟩ := ecase_ok h10
         rw [iand_eq, Bool.and_eq_true] at h13
         have hsz : es.length ≤ 200 := by
          have := nble_iff.1 h13.1
          rwa [llen_eq] at this
         cases hks : omap (fun e : AV × AV × Nat => strOf e.1) es with
         |none => simp only [hks] at h14; exact (efail_ok (e := [111]) h14).elim
         |some ks =>
          simp only [hks] at h14
          obtain ⟨q2, o, hq2, _, hmc, ms, rfl, hents⟩ := hw.blk m _ hbm
          rw [hq] at hq2
          cases hq2
          obtain ⟨k1, k2, k3, k4, k5, k6⟩ := keys_ok hents h13.2 ks hks
          have hlen : ms.size = es.length := by
           have h15 := congrArg List.length k5
           have h16 := (omap_some hks).1
           simp only [List.length_map, Array.length_toList] at h15
           omega
          obtain ⟨D0, hown, hsz2, hperm⟩ := owns_keys hmc (by omega) k1 k2 k3 k4 k5
          have hcell : w.cell? ⟨r.b, 0, none⟩ = some (.map (some q.b)) := (cell_of_block hc1 0).trans hy0
          have hcall := callsIn_wide.1 (sortedKeys_at r.b q.b 200 D0 anyElem w (heap_lt hc1) hcell hown (by unfold maxLen; omega) (by omega))
          refine hcall.mono ?_
          rintro e w' ⟨x, ss, rfl, hS, hrow, hnil, hbl⟩
          have hsort := sorted_is k6 (hS.trans hperm)
          rw [hsort] at hrow
          have hslen : ss.length = (lsort ks).length := by
           have := congrArg List.length hsort
           simpa using this
          have hk6 : ∀ y ∈ lsort ks, ∀ z ∈ y, z < 256 := fun y hy => k6 y ((lsort_perm ks).subset hy)
          have hF := hw.fp.trans (Below.toFp hbl) (by simp)
          cases hls : lsort ks with
          |nil =>
           simp only [hls] at h14
           obtain ⟨rfl, rfl⟩ := epure_ok (a := AV.sn) h14
           have : ss = [] := List.eq_nil_of_length_eq_zero (by rw [hslen, hls]; rfl)
           rw [hnil.2 this]
           exact ⟨_, rfl, kok_calm .sn hw rfl rfl (Below.toFp hbl)⟩
          |cons a1 ar =>
           simp only [hls] at h14
           obtain ⟨i, s4, h15, h16⟩ := ebind_ok h14
           obtain ⟨rfl, rfl⟩ := epure_ok h16
           obtain ⟨rfl, rfl⟩ := enew_ok h15
           obtain ⟨hl1, hform⟩ := hrow
           rcases hform with ⟨rfl, h0⟩ | ⟨g, cap, cur, rfl, hg, hblk, hnc, hcap, hcur, htake⟩
           ·rw [hslen, hls] at h0
            cases h0
           ·refine ⟨_, rfl, eup ρ s.nx ⟨g, 0, cap - ss.length⟩, ?_, ?_, EExt.one (hfr _ (Nat.le_refl _) (Nat.lt_succ_self _))⟩
            ·rw [llen_eq, ← hls, ← hslen]
             have := VR.sl (ρ := eup ρ s.nx ⟨g, 0, cap - ss.length⟩) s.nx 0 ss.length ss.length cap ⟨g, 0, cap - ss.length⟩ (eup_same _ _ _) (Or.inr (by show cap = ss.length + (cap - ss.length); omega))
             exact this
            ·refine hw.add (hfr _ (Nat.le_refl _) (Nat.lt_succ_self _)) (Nat.le_trans hw.fp.size hg) hblk ⟨cur, (0, 0), 1, rfl, string_one, rfl, ⟨?_, fun k _ _ => by simp, fun _ => Or.inl rfl⟩, fun j u hu => ?_⟩ hF fun j d qq hd hqq => ?_
             ·have h17 : (lmap AV.st (a1 :: ar)).length = ss.length := by rw [lmap_eq, List.length_map, ← hls, hslen]
              rw [h17, hcur]
              show 0 + ss.length + (cap - ss.length) * 1 ≤ cap * 1
              omega
             ·rw [← hls] at hu
              obtain ⟨y, hy, hv⟩ := (strs_vrs (ρ := ρ) hk6).nth hu
              refine ⟨y, ?_, hv.up (eup_le (hfr _ (Nat.le_refl _) (Nat.lt_succ_self _)))⟩
              have h18 := congrArg (fun l => l[j]?) htake
              simp only [List.getElem?_take, Nat.mul_one, Array.getElem?_toList, List.getElem?_map] at h18
              have hj : j < ss.length := by
               have := (List.getElem?_eq_some_iff.1 hy).1
               rw [List.length_map] at this
               omega
              rw [if_pos hj] at h18
              show cur[0 + j]? = some y
              rw [Nat.zero_add, h18]
              rw [List.getElem?_map] at hy
              cases hq3 : (lsort ks)[j]? with
              |none => rw [hq3] at hy; cases hy
              |some q3 =>
               rw [hq3] at hy
               cases hy
               rfl
             ·obtain ⟨q4, o4, e1, e2, e3, _⟩ := hw.blk j d hd
              rw [hqq] at e1
              cases e1
              have := heap_lt e3
              exact ⟨by show qq.b ≠ g; omega, hbl.block _ this⟩
        |_ => exact (efail_ok (e := [56, m]) h12).elim
      ·exact (efail_ok (e := [112]) h7).elim
 ·exact (efail_ok (e := [113]) (s := s) hm).elim
end
end
end Go.Proofs.YtigajcabgaddgaaGreatDoor
