/-
  A slice of acts that came in.
-/
import Derived.Test.YtmadkoebopfhoaaVdActs
import Derived.Test.YtmadkoebopfhoaaFrame
import Derived.Deep.Slices
import Derived.Deep.Fields
import Derived.ChangeSame
namespace Go.Proofs.Ytmadkoebopfhoaa
open Go.RowKit Go.ChangeShapes Go.WideShapes Go.Deep

theorem add_cell {b o : Nat} (k : Nat) : (⟨b, o, none⟩ : Addr).add k = ⟨b, o + k, none⟩ := by unfold Addr.add; split <;> simp_all

def ActAddr (W : World) (y : Addr) (X : ActV) : Prop :=
  W.cell? y = some (.int .i64 X.kind) ∧ W.cell? (y.add 1) = some (.int .i64 X.n) ∧ W.cell? (y.add 2) = some (.int .i64 X.keep) ∧ W.cell? (y.add 3) = some (.string X.a) ∧ W.cell? (y.add 4) = some (.string X.b) ∧ W.cell? (y.add 5) = some (.string X.s)

theorem act_cells {W : World} {b o k : Nat} {X : ActV} (h : ActAddr W ((⟨b, o, none⟩ : Addr).add k) X) : ActCells W b (o + k) X := by
  obtain ⟨q0, q1, q2, q3, q4, q5⟩ := h
  simp only [add_cell] at q0 q1 q2 q3 q4 q5
  exact ⟨q0, q1, q2, q3, q4, q5⟩

theorem add_zero' (y : Addr) : y.add 0 = y := by
  obtain ⟨b, o, s⟩ := y
  unfold Addr.add; split <;> simp_all

theorem open_acts {H : Type} {enc : TypeId × Value → H} {W : World} {fuel : Nat} {a : Option Addr} {len cap : Nat} {x : DataW H × List MemPlace}
    (h : DataW.trod enc Try.prog W 0 (fun _ => true) true fuel 43 [.slice a len cap] = some x) : ∃ l, ActsAt W a len l ∧ len ≤ maxLen := by
  rcases open_slice Try.underlying43 h with ⟨hcs, _⟩ | ⟨y, len', cap', m, n, D, Pl, hcs, hb, hl, hm, hmm, hx, hi⟩
  · simp only [List.cons.injEq, Value.slice.injEq, and_true] at hcs
    obtain ⟨rfl, rfl, rfl⟩ := hcs
    exact ⟨[], ⟨rfl, Or.inl rfl⟩, Nat.zero_le _⟩
  · simp only [List.cons.injEq, Value.slice.injEq, and_true] at hcs
    obtain ⟨rfl, rfl, rfl⟩ := hcs
    simp only [if_true] at hmm
    subst hmm
    have hC : Try.prog.cellsOf 45 = 6 := by kernel_rfl
    have key : ∀ i, i < len → ∃ X : ActV, ActAddr W (y.add (i * 6)) X := by
      intro i hil
      obtain ⟨cs', hc, ht'⟩ := hi i (by omega)
      rw [hC] at hc
      obtain ⟨ys, n', hn', hy, hlen, hyl, hf⟩ := DataW.trod_struct Try.underlying45 ht'
      obtain ⟨_, hcl, hat⟩ := World.cells?_some hc
      have e3 : Try.prog.cellsOf 3 = 1 := by kernel_rfl
      have e9 : Try.prog.cellsOf 9 = 1 := by kernel_rfl
      have hcl6 : cs'.length = 6 := hcl
      have hyl6 : ys.length = 6 := hyl
      match cs', hcl6, ys, hyl6 with
      | [v0, v1, v2, v3, v4, v5], _, [y0, y1, y2, y3, y4, y5], _ =>
        have g0 : DataW.trod enc Try.prog W 0 (fun _ => true) true n' 3 (List.take (Try.prog.cellsOf 3) [v0, v1, v2, v3, v4, v5]) = some y0 := hf 0 _ rfl
        have g1 : DataW.trod enc Try.prog W 0 (fun _ => true) true n' 3 (List.take (Try.prog.cellsOf 3) [v1, v2, v3, v4, v5]) = some y1 := hf 1 _ rfl
        have g2 : DataW.trod enc Try.prog W 0 (fun _ => true) true n' 3 (List.take (Try.prog.cellsOf 3) [v2, v3, v4, v5]) = some y2 := hf 2 _ rfl
        have g3 : DataW.trod enc Try.prog W 0 (fun _ => true) true n' 9 (List.take (Try.prog.cellsOf 9) [v3, v4, v5]) = some y3 := hf 3 _ rfl
        have g4 : DataW.trod enc Try.prog W 0 (fun _ => true) true n' 9 (List.take (Try.prog.cellsOf 9) [v4, v5]) = some y4 := hf 4 _ rfl
        have g5 : DataW.trod enc Try.prog W 0 (fun _ => true) true n' 9 (List.take (Try.prog.cellsOf 9) [v5]) = some y5 := hf 5 _ rfl
        rw [e3] at g0 g1 g2
        rw [e9] at g3 g4 g5
        obtain ⟨z0, h0, _, _⟩ := DataW.trod_int Try.underlying3 g0
        obtain ⟨z1, h1, _, _⟩ := DataW.trod_int Try.underlying3 g1
        obtain ⟨z2, h2, _, _⟩ := DataW.trod_int Try.underlying3 g2
        obtain ⟨z3, h3, _, _⟩ := DataW.trod_string Try.underlying9 g3
        obtain ⟨z4, h4, _, _⟩ := DataW.trod_string Try.underlying9 g4
        obtain ⟨z5, h5, _, _⟩ := DataW.trod_string Try.underlying9 g5
        simp only [List.take_succ_cons, List.take_zero, List.cons.injEq, and_true] at h0 h1 h2 h3 h4 h5
        subst h0 h1 h2 h3 h4 h5
        exact ⟨⟨z0, z1, z2, z3, z4, z5⟩, by have := hat 0 (by decide); rw [add_zero'] at this; exact this, hat 1 (by decide), hat 2 (by decide), hat 3 (by decide), hat 4 (by decide), hat 5 (by decide)⟩
    by_cases hl0 : len = 0
    · subst hl0
      exact ⟨[], ⟨rfl, Or.inl rfl⟩, Nat.zero_le _⟩
    · obtain ⟨b, off, spot⟩ := y
      obtain ⟨X0, k0, _⟩ := key 0 (by omega)
      have hspot : spot = none := by simpa [Addr.add] using World.cell?_spot k0
      subst hspot
      refine ⟨List.ofFn (fun i : Fin len => Classical.choose (key i.1 i.2)), ⟨by simp, Or.inr ⟨b, off, rfl, ?_, fun i hi => ?_⟩⟩, by omega⟩
      · exact World.block_lt_of_cell? _ _ k0
      · have hi' : i < len := by simpa using hi
        have := Classical.choose_spec (key i hi')
        rw [List.getElem_ofFn]
        exact act_cells this
end Go.Proofs.Ytmadkoebopfhoaa
