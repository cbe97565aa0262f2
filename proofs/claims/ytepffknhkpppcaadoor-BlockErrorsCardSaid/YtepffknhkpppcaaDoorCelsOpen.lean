/-
  A slice of cells that came in.
-/
import Derived.Test.YtepffknhkpppcaaDoorCellFrame
import Derived.Test.YtepffknhkpppcaaDoorCels
import Derived.Deep.Slices
import Derived.Deep.Fields
import Derived.ChangeSame
namespace Go.Proofs.YtepffknhkpppcaaDoor
open Go.RowKit Go.ChangeShapes Go.WideShapes Go.Deep

theorem add_cell {b o : Nat} (k : Nat) : (⟨b, o, none⟩ : Addr).add k = ⟨b, o + k, none⟩ := by unfold Addr.add; split <;> simp_all
def CelAddr (W : World) (y : Addr) (X : Cel) : Prop :=
  (W.cell? y = some (.string X.row) ∧ W.cell? (y.add 1) = some (.string X.col) ∧ W.cell? (y.add 2) = some (.int .u64 X.ts) ∧ W.cell? (y.add 3) = some (.int .u64 X.seq) ∧ W.cell? (y.add 4) = some (.bool X.del) ∧ W.cell? (y.add 5) = some (.string X.val)) ∧ CelOK X
theorem cel_cells {W : World} {b o k : Nat} {X : Cel} (h : CelAddr W ((⟨b, o, none⟩ : Addr).add k) X) : CelCells W b (o + k) X := by
  obtain ⟨⟨q0, q1, q2, q3, q4, q5⟩, _⟩ := h
  simp only [add_cell] at q0 q1 q2 q3 q4 q5
  exact ⟨q0, q1, q2, q3, q4, q5⟩
theorem add_zero' (y : Addr) : y.add 0 = y := by
  obtain ⟨b, o, s⟩ := y
  unfold Addr.add; split <;> simp_all

theorem open_cels_cap {H : Type} {enc : TypeId × Value → H} {W : World} {fuel : Nat} {a : Option Addr} {len cap : Nat} {x : DataW H × List MemPlace}
    (h : DataW.trod enc Tryd.prog W 0 (fun _ => true) true fuel 22 [.slice a len cap] = some x) : ∃ l, CelsAt W a len l ∧ len ≤ maxLen ∧ len ≤ cap ∧ cap ≤ maxLen := by
  rcases open_slice Tryd.underlying22 h with ⟨hcs, _⟩ | ⟨y, len', cap', m, n, D, Pl, hcs, hb, hl, hm, hmm, hx, hi⟩
  · simp only [List.cons.injEq, Value.slice.injEq, and_true] at hcs
    obtain ⟨rfl, rfl, rfl⟩ := hcs
    exact ⟨[], ⟨rfl, Or.inl rfl, by simp⟩, Nat.zero_le _, Nat.le_refl _, Nat.zero_le _⟩
  · simp only [List.cons.injEq, Value.slice.injEq, and_true] at hcs
    obtain ⟨rfl, rfl, rfl⟩ := hcs
    simp only [if_true] at hmm
    subst hmm
    have key : ∀ i, i < len → ∃ X : Cel, CelAddr W (y.add (i * 6)) X := by
      intro i hil
      obtain ⟨cs', hc, ht'⟩ := hi i (by omega)
      rw [six24] at hc
      obtain ⟨_, hcl, hat⟩ := World.cells?_some hc
      obtain ⟨c, hcc, ok, _⟩ := read_cel hcl ht'
      subst hcc
      exact ⟨c, ⟨by have := hat 0 (by decide); rw [add_zero'] at this; exact this, hat 1 (by decide), hat 2 (by decide), hat 3 (by decide), hat 4 (by decide), hat 5 (by decide)⟩, ok⟩
    by_cases hl0 : len = 0
    · subst hl0
      exact ⟨[], ⟨rfl, Or.inl rfl, by simp⟩, Nat.zero_le _, hl, hm⟩
    · obtain ⟨b, off, spot⟩ := y
      obtain ⟨X0, ⟨k0, _⟩, _⟩ := key 0 (by omega)
      have hspot : spot = none := by simpa [Addr.add] using World.cell?_spot k0
      subst hspot
      refine ⟨List.ofFn (fun i : Fin len => Classical.choose (key i.1 i.2)), ⟨by simp, Or.inr ⟨b, off, rfl, ?_, fun i hi => ?_⟩, fun c hc => ?_⟩, by omega, hl, hm⟩
      · exact World.block_lt_of_cell? _ _ k0
      · have hi' : i < len := by simpa using hi
        have := Classical.choose_spec (key i hi')
        rw [List.getElem_ofFn]
        exact cel_cells this
      · obtain ⟨i, rfl⟩ := (List.mem_ofFn.1 hc)
        exact (Classical.choose_spec (key i.1 i.2)).2
theorem open_cels {H : Type} {enc : TypeId × Value → H} {W : World} {fuel : Nat} {a : Option Addr} {len cap : Nat} {x : DataW H × List MemPlace}
    (h : DataW.trod enc Tryd.prog W 0 (fun _ => true) true fuel 22 [.slice a len cap] = some x) : ∃ l, CelsAt W a len l ∧ len ≤ maxLen := by
  obtain ⟨l, h1, h2, _⟩ := open_cels_cap h
  exact ⟨l, h1, h2⟩
end Go.Proofs.YtepffknhkpppcaaDoor
