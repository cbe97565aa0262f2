/-
  A slice of cells that came in. What every Table law's frame needs: the laid variables handed on; the table of four bits among them.
-/
import Derived.Test.YtjnapcfclejknaaGreatDoorCellFrame
import Derived.Test.YtjnapcfclejknaaGreatDoorCels
import Derived.Deep.Slices
import Derived.Deep.Fields
import Derived.ChangeSame
import Derived.Test.YtjnapcfclejknaaGreatDoorCrc
import Derived.Stop.LaidErr
import Derived.Lib.LaidTab
namespace Go.Proofs.YtjnapcfclejknaaGreatDoor
section
open Go.RowKit Go.ChangeShapes Go.WideShapes Go.Deep

theorem add_cell {b o : Nat} (k : Nat) : (⟨b, o, none⟩ : Addr).add k = ⟨b, o + k, none⟩ := by unfold Addr.add; split <;> simp_all
def CelAddr (W : World) (y : Addr) (X : Cel) : Prop :=
  (W.cell? y = some (.string X.row) ∧ W.cell? (y.add 1) = some (.string X.col) ∧ W.cell? (y.add 2) = some (.int .u64 X.ts) ∧ W.cell? (y.add 3) = some (.int .u64 X.seq) ∧ W.cell? (y.add 4) = some (.bool X.del) ∧ W.cell? (y.add 5) = some (.string X.val)) ∧ CelOK X
theorem cel_cells {W : World} {b o k : Nat} {X : Cel} (h : CelAddr W ((⟨b, o, none⟩ : Addr).add k) X) : CelCells W b (o + k) X := by
  obtain ⟨⟨q0, q1, q2, q3, q4, q5⟩, _⟩ := h
  simp only [add_cell] at q0 q1 q2 q3 q4 q5
  exact ⟨q0, q1, q2, q3, q4, q5⟩
theorem add_zero' (y : Addr) : y.add 0 = y := by
  obtain ⟨b, o, s⟩ := y
  unfold Addr.add; split <;> simp_all

theorem open_cels_cap {H : Type} {enc : TypeId × Value → H} {W : World} {fuel : Nat} {a : Option Addr} {len cap : Nat} {x : DataW H × List MemPlace}
    (h : DataW.trod enc Tryz.prog W 0 (fun _ => true) true fuel 22 [.slice a len cap] = some x) : ∃ l, CelsAt W a len l ∧ len ≤ maxLen ∧ len ≤ cap ∧ cap ≤ maxLen := by
  rcases open_slice Tryz.underlying22 h with ⟨hcs, _⟩ | ⟨y, len', cap', m, n, D, Pl, hcs, hb, hl, hm, hmm, hx, hi⟩
  · simp only [List.cons.injEq, Value.slice.injEq, and_true] at hcs
    obtain ⟨rfl, rfl, rfl⟩ := hcs
    exact ⟨[], ⟨rfl, Or.inl rfl, by simp⟩, Nat.zero_le _, Nat.le_refl _, Nat.zero_le _⟩
  · simp only [List.cons.injEq, Value.slice.injEq, and_true] at hcs
    obtain ⟨rfl, rfl, rfl⟩ := hcs
    simp only [if_true] at hmm
    subst hmm
    have key : ∀ i, i < len → ∃ X : Cel, CelAddr W (y.add (i * 6)) X := by
      intro i hil
      obtain ⟨cs', hc, ht'⟩ := hi i (by omega)
      rw [six24] at hc
      obtain ⟨_, hcl, hat⟩ := World.cells?_some hc
      obtain ⟨c, hcc, ok, _⟩ := read_cel hcl ht'
      subst hcc
      exact ⟨c, ⟨by have := hat 0 (by decide); rw [add_zero'] at this; exact this, hat 1 (by decide), hat 2 (by decide), hat 3 (by decide), hat 4 (by decide), hat 5 (by decide)⟩, ok⟩
    by_cases hl0 : len = 0
    · subst hl0
      exact ⟨[], ⟨rfl, Or.inl rfl, by simp⟩, Nat.zero_le _, hl, hm⟩
    · obtain ⟨b, off, spot⟩ := y
      obtain ⟨X0, ⟨k0, _⟩, _⟩ := key 0 (by omega)
      have hspot : spot = none := by simpa [Addr.add] using World.cell?_spot k0
      subst hspot
      refine ⟨List.ofFn (fun i : Fin len => Classical.choose (key i.1 i.2)), ⟨by simp, Or.inr ⟨b, off, rfl, ?_, fun i hi => ?_⟩, fun c hc => ?_⟩, by omega, hl, hm⟩
      · exact World.block_lt_of_cell? _ _ k0
      · have hi' : i < len := by simpa using hi
        have := Classical.choose_spec (key i hi')
        rw [List.getElem_ofFn]
        exact cel_cells this
      · obtain ⟨i, rfl⟩ := (List.mem_ofFn.1 hc)
        exact (Classical.choose_spec (key i.1 i.2)).2
theorem open_cels {H : Type} {enc : TypeId × Value → H} {W : World} {fuel : Nat} {a : Option Addr} {len cap : Nat} {x : DataW H × List MemPlace}
    (h : DataW.trod enc Tryz.prog W 0 (fun _ => true) true fuel 22 [.slice a len cap] = some x) : ∃ l, CelsAt W a len l ∧ len ≤ maxLen := by
  obtain ⟨l, h1, h2, _⟩ := open_cels_cap h
  exact ⟨l, h1, h2⟩
end

section
open Go.ChangeShapes Go.WideShapes Go.ChangeAt Go.RowKit Go.Lib

section
variable {H : Type} {enc : TypeId × Value → H}
theorem returns_laid {a : Assume} {C : Checked} {os : Os} {f : FuncId} {fn : Func} {s : ChangeSpec} {conds : List PathCond} {apart fresh handsOn again : Bool} {X : World → Array Value → Prop}
    (own : ownKnob C.prog.godebug = none) (started : os.Started) (noInit : C.prog.inits.idxOf? f = none) (hfn : C.prog.funcs[f]? = some fn)
    (witness : ∃ (w : World) (tape : Tape) (i : Input), w.os = os ∧ (w.forCall tape i).Shaped C.prog ∧ i.vars = [] ∧ Input.okWide C.prog (w.forCall tape i) .any w.heap.size f i ∧
      ((s.pre enc C.prog fn conds apart (w.forCall tape i).memory i.args ∧ X (w.forCall tape i).memory i.args) ∧ sizedMet enc C.prog fn (OpenSpec.ofChange s) apart (w.forCall tape i).memory i.args) ∧ a.holds C.prog (lone (Frame.enter C.prog f i.args .normal) [] (w.forCall tape i)))
    (contract : ∀ (W : World) (args : Array Value) (ds gs : List (DataW H)) (before : List MemPlace),
      (∀ (j : Nat) t v, fn.params[j]? = some t → args[j]? = some v → ∃ base, Value.okWide C.prog W .any base t v) →
      DataW.Whole enc C.prog fn.params.toList s.vars apart W args.toList ds gs before → W.ShapedOpen C.prog → X W.memory args →
      Calls C.prog f args W fun e W' => ∃ v, e = .returned v ∧ s.post enc C.prog fn apart fresh handsOn again W args v W') :
    ReturnsInHanded a C os f .any (fun w args => (s.pre enc C.prog fn conds apart w args ∧ X w args) ∧ sizedMet enc C.prog fn (OpenSpec.ofChange s) apart w args) (s.post enc C.prog fn apart fresh handsOn again) := by
  refine returnsInHanded_of_calls own started noInit witness ?_
  intro w tape i _ hsh _ hok hpre _
  obtain ⟨_, _, _, fn', hfn', _, _, _, _, hval⟩ := hok
  have e : fn' = fn := Option.some.inj (hfn'.symm.trans hfn)
  subst e
  obtain ⟨⟨⟨ds, gs, before, hw, _⟩, hx⟩, _⟩ := hpre
  have hw' := DataW.Whole.of_heap (w' := w.forCall tape i) (by rfl) hw
  refine (contract (w.forCall tape i) i.args ds gs before (fun j t v h1 h2 => ⟨_, hval j t v h1 h2⟩) hw' hsh hx).mono fun e W' ⟨v, he, hp⟩ => ?_
  subst he
  exact ChangeSpec.post_blind hp
end

theorem tab_of {w : World} (h : TabIs Tryz.prog w "rickyard/crc.four" .u32 (fourL.map fun (n : Nat) => (n : Int))) : TabAt w := by
  intro i hi
  have := h.cell (g := 0) (by kernel_rfl) i (by rw [List.length_map]; exact hi)
  rw [this]
  have key : ∀ r, r < 16 → (fourL.map fun (n : Nat) => (n : Int)).getD r 0 = ((fourL.getD r 0 : Nat) : Int) := by decide
  rw [key i hi]
theorem tab_met {W : World} {r : List (String × DataW Unit)} (h : laidMet Tryz.prog (("rickyard/crc.four", tabData .u32 (fourL.map fun (n : Nat) => (n : Int))) :: r) W.memory) : TabAt W :=
  tab_of (show TabIs Tryz.prog W.memory "rickyard/crc.four" .u32 (fourL.map fun (n : Nat) => (n : Int)) from tabIs_of_head (show Tryz.prog.globalNamed "rickyard/crc.four" = some 0 by kernel_rfl) (show (Tryz.prog.globals[0]?).map (·.type) = some 136 by kernel_rfl) Tryz.underlying136 Tryz.underlying68 (by kernel_rfl) (by kernel_rfl) h)
end
end Go.Proofs.YtjnapcfclejknaaGreatDoor
