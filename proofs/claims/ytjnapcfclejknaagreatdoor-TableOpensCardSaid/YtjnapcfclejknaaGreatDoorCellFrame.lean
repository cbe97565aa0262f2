/-
  What every law's frame needs: integers' bounds. What every card's frame needs at this seat: cells that came in; the world's shape handed on.
-/
import Derived.Test.YtjnapcfclejknaaGreatDoorRows
import Derived.Test.YtjnapcfclejknaaGreatDoorMem
import Derived.ProofKit
import Derived.OpenShut
import Derived.ShutString
import Derived.ChangeOld
import Derived.SliceStrings
import Derived.Test.YtjnapcfclejknaaGreatDoorTie
import Derived.Test.YtjnapcfclejknaaGreatDoorCards
import Derived.Test.YtjnapcfclejknaaGreatDoorCellPure
import Derived.Handed
import Derived.LaidMore
import Derived.Lay
import Derived.Stop.Joined
import Derived.Shelf.Vars
namespace Go.Proofs.YtjnapcfclejknaaGreatDoor
section
open Go.ChangeShapes Go.WideShapes Go.ChangeAt Go.RowKit
open Go.ChangeMaps (open_string shut_string)

theorem wf_u8 {a : Int} (h : (Lit.int .u8 a).wf = true) : 0 ≤ a ∧ a ≤ 255 := by simp only [Lit.wf, Bool.and_eq_true, decide_eq_true_eq] at h; exact h
theorem wf_u16 {a : Int} (h : (Lit.int .u16 a).wf = true) : 0 ≤ a ∧ a ≤ 65535 := by simp only [Lit.wf, Bool.and_eq_true, decide_eq_true_eq] at h; exact h
theorem wf_i64 {a : Int} (h : (Lit.int .i64 a).wf = true) : -9223372036854775808 ≤ a ∧ a ≤ 9223372036854775807 := by simp only [Lit.wf, Bool.and_eq_true, decide_eq_true_eq] at h; exact h
theorem wf_u64 {a : Int} (h : (Lit.int .u64 a).wf = true) : 0 ≤ a ∧ a ≤ 18446744073709551615 := by simp only [Lit.wf, Bool.and_eq_true, decide_eq_true_eq] at h; exact h

theorem own : ownKnob Tryz.prog.godebug = none := by kernel_rfl
theorem laidOut : laidOutB Tryz.prog = true := by kernel_rfl

theorem Fp.toBelow {w w' : World} (h : Fp [] w w') : Below w.heap.size w w' := h.below (Nat.le_refl _) (by simp)
end

section
open Go.ChangeShapes Go.WideShapes Go.ChangeAt Go.RowKit

theorem max_of_shape {w : World} (h : w.ShapedOpen Tryz.prog) : MaxAt w :=
  cell_of_shapedOpen_int (P := Tryz.prog) (g := 1) (t := 3) (zero := #[.int .i64 0]) h (of_decide_eq_true (by kernel_rfl)) (by kernel_rfl) (by kernel_rfl) (by kernel_rfl) (by kernel_rfl) Tryz.underlying3

section
variable {H : Type} {enc : TypeId × Value → H}
theorem returns_shaped {a : Assume} {C : Checked} {os : Os} {f : FuncId} {fn : Func} {s : ChangeSpec} {conds : List PathCond} {apart fresh handsOn again : Bool} {X : World → Array Value → Prop}
    (own : ownKnob C.prog.godebug = none) (started : os.Started) (noInit : C.prog.inits.idxOf? f = none) (hfn : C.prog.funcs[f]? = some fn)
    (witness : ∃ (w : World) (tape : Tape) (i : Input), w.os = os ∧ (w.forCall tape i).Shaped C.prog ∧ i.vars = [] ∧ Input.okWide C.prog (w.forCall tape i) .any w.heap.size f i ∧
      ((s.pre enc C.prog fn conds apart (w.forCall tape i).memory i.args ∧ X (w.forCall tape i).memory i.args) ∧ sizedMet enc C.prog fn (OpenSpec.ofChange s) apart (w.forCall tape i).memory i.args) ∧ a.holds C.prog (lone (Frame.enter C.prog f i.args .normal) [] (w.forCall tape i)))
    (contract : ∀ (W : World) (args : Array Value) (ds gs : List (DataW H)) (before : List MemPlace),
      (∀ (j : Nat) t v, fn.params[j]? = some t → args[j]? = some v → ∃ base, Value.okWide C.prog W .any base t v) →
      DataW.Whole enc C.prog fn.params.toList s.vars apart W args.toList ds gs before → W.ShapedOpen C.prog →
      Calls C.prog f args W fun e W' => ∃ v, e = .returned v ∧ s.post enc C.prog fn apart fresh handsOn again W args v W') :
    ReturnsInHanded a C os f .any (fun w args => (s.pre enc C.prog fn conds apart w args ∧ X w args) ∧ sizedMet enc C.prog fn (OpenSpec.ofChange s) apart w args) (s.post enc C.prog fn apart fresh handsOn again) := by
  refine returnsInHanded_of_calls own started noInit witness ?_
  intro w tape i _ hsh _ hok hpre _
  obtain ⟨_, _, _, fn', hfn', _, _, _, _, hval⟩ := hok
  have e : fn' = fn := Option.some.inj (hfn'.symm.trans hfn)
  subst e
  obtain ⟨⟨⟨ds, gs, before, hw, _⟩, _⟩, _⟩ := hpre
  have hw' := DataW.Whole.of_heap (w' := w.forCall tape i) (by rfl) hw
  refine (contract (w.forCall tape i) i.args ds gs before (fun j t v h1 h2 => ⟨_, hval j t v h1 h2⟩) hw' hsh).mono fun e W' ⟨v, he, hp⟩ => ?_
  subst he
  exact ChangeSpec.post_blind hp
end

theorem one9 : Tryz.prog.cellsOf 9 = 1 := by kernel_rfl
theorem one22 : Tryz.prog.cellsOf 23 = 1 := by kernel_rfl
theorem one4 : Tryz.prog.cellsOf 4 = 1 := by kernel_rfl
theorem six24 : Tryz.prog.cellsOf 34 = 6 := by kernel_rfl

set_option maxRecDepth 100000 in
/-- six cells that read as a cell -/
theorem read_cel {H : Type} {enc : TypeId × Value → H} {W : World} {fuel : Nat} {l : List Value} (hl : l.length = 6) {x : DataW H × List MemPlace}
    (h : DataW.trod enc Tryz.prog W 0 (fun _ => true) true fuel 34 l = some x) : ∃ c : Cel, l = [.string c.row, .string c.col, .int .u64 c.ts, .int .u64 c.seq, .bool c.del, .string c.val] ∧ CelOK c ∧ c.row.size ≤ maxLen ∧ c.col.size ≤ maxLen ∧ c.val.size ≤ maxLen := by
  obtain ⟨ys, n', hn', hy, hlen, hyl, hf⟩ := DataW.trod_struct Tryz.underlying34 h
  have hyl6 : ys.length = 6 := hyl
  match l, hl, ys, hyl6 with
  | [v0, v1, v2, v3, v4, v5], _, [y0, y1, y2, y3, y4, y5], _ =>
    have g0 : DataW.trod enc Tryz.prog W 0 (fun _ => true) true n' 9 (List.take (Tryz.prog.cellsOf 9) [v0, v1, v2, v3, v4, v5]) = some y0 := hf 0 _ rfl
    have g1 : DataW.trod enc Tryz.prog W 0 (fun _ => true) true n' 9 (List.take (Tryz.prog.cellsOf 9) [v1, v2, v3, v4, v5]) = some y1 := hf 1 _ rfl
    have g2 : DataW.trod enc Tryz.prog W 0 (fun _ => true) true n' 23 (List.take (Tryz.prog.cellsOf 23) [v2, v3, v4, v5]) = some y2 := hf 2 _ rfl
    have g3 : DataW.trod enc Tryz.prog W 0 (fun _ => true) true n' 23 (List.take (Tryz.prog.cellsOf 23) [v3, v4, v5]) = some y3 := hf 3 _ rfl
    have g4 : DataW.trod enc Tryz.prog W 0 (fun _ => true) true n' 4 (List.take (Tryz.prog.cellsOf 4) [v4, v5]) = some y4 := hf 4 _ rfl
    have g5 : DataW.trod enc Tryz.prog W 0 (fun _ => true) true n' 9 (List.take (Tryz.prog.cellsOf 9) [v5]) = some y5 := hf 5 _ rfl
    rw [one9] at g0 g1 g5
    rw [one22] at g2 g3
    rw [one4] at g4
    obtain ⟨z0, h0, _, w0⟩ := DataW.trod_string Tryz.underlying9 g0
    obtain ⟨z1, h1, _, w1⟩ := DataW.trod_string Tryz.underlying9 g1
    obtain ⟨z2, h2, _, w2⟩ := DataW.trod_int Tryz.underlying23 g2
    obtain ⟨z3, h3, _, w3⟩ := DataW.trod_int Tryz.underlying23 g3
    obtain ⟨z4, h4, _⟩ := DataW.trod_bool Tryz.underlying4 g4
    obtain ⟨z5, h5, _, w5⟩ := DataW.trod_string Tryz.underlying9 g5
    simp only [List.take_succ_cons, List.take_zero, List.cons.injEq, and_true] at h0 h1 h2 h3 h4 h5
    subst h0 h1 h2 h3 h4 h5
    have b2 := wf_u64 w2
    have b3 := wf_u64 w3
    unfold maxLen at w0 w1 w5
    refine ⟨⟨z0, z1, z2.toNat, z3.toNat, z4, z5⟩, ?_, ⟨?_, ?_, ?_, ?_, ?_⟩, ?_, ?_, ?_⟩
    · simp only [List.cons.injEq, Value.int.injEq, true_and, and_true]
      omega
    all_goals (try unfold maxLen); simp only; omega

set_option maxRecDepth 100000 in
theorem open_cel {H : Type} {enc : TypeId × Value → H} {W : World} {r : Reach} {b0 : Nat} {v : Value} {d : DataW H} {p : List MemPlace} (hv : Value.okWide Tryz.prog W r b0 34 v)
    (h : DataW.Trod enc Tryz.prog W 0 (fun _ => true) true 34 v d p) : ∃ c : Cel, v = cellV c ∧ CelOK c := by
  obtain ⟨cs, rfl, hsz⟩ := okWide_struct Tryz.underlying34 hv
  obtain ⟨fuel, hf⟩ := h
  obtain ⟨l⟩ := cs
  have hl : l.length = 6 := hsz.trans six24
  obtain ⟨c, hc, ok, _⟩ := read_cel hl hf
  exact ⟨c, by rw [hc]; rfl, ok⟩
end
end Go.Proofs.YtjnapcfclejknaaGreatDoor
