/-
  Slices of strings that came in.
-/
import Derived.Test.YtmadkoebopfhoaaFrame0
namespace Go.Proofs.Ytmadkoebopfhoaa
open Go.ChangeShapes Go.WideShapes Go.ChangeAt Go.RowKit

/-- a slice of strings as it lies -/
structure StrsAt (w : World) (a : Option Addr) (len : Nat) (l : List ByteArray) : Prop where
  len : len = l.length
  cells : l = [] ∨ ∃ b o, a = some ⟨b, o, none⟩ ∧ ∀ i (h : i < l.length), w.cell? ⟨b, o + i, none⟩ = some (.string l[i])
  small : ∀ s ∈ l, s.size ≤ maxLen

theorem StrsAt.of_fp {w w' : World} {a : Option Addr} {len : Nat} {l : List ByteArray} (h : StrsAt w a len l) (hf : Fp [] w w') : StrsAt w' a len l := by
  refine ⟨h.len, ?_, h.small⟩
  rcases h.cells with h0 | ⟨b, o, rfl, hc⟩
  · exact Or.inl h0
  · exact Or.inr ⟨b, o, rfl, fun i hi => by rw [hf.cell (World.block_lt_of_cell? _ _ (hc i hi)) (by simp)]; exact hc i hi⟩


/-- a slice of strings that came in -/
theorem open_strs {H : Type} {enc : TypeId × Value → H} {W : World} {fuel : Nat} {a : Option Addr} {len cap : Nat} {x : DataW H × List MemPlace}
    (h : DataW.trod enc Try.prog W 0 (fun _ => true) true fuel 22 [.slice a len cap] = some x) : ∃ l, StrsAt W a len l ∧ len ≤ maxLen := by
  rcases open_strings Try.underlying22 Try.underlying9 (by kernel_rfl) h with ⟨hcs, _⟩ | ⟨y, len', cap', ss, hcs, _, hl, hm, hlen, _, hcell, hsm⟩
  · simp only [List.cons.injEq, Value.slice.injEq, and_true] at hcs
    obtain ⟨rfl, rfl, rfl⟩ := hcs
    exact ⟨[], ⟨rfl, Or.inl rfl, by simp⟩, Nat.zero_le _⟩
  · simp only [List.cons.injEq, Value.slice.injEq, and_true] at hcs
    obtain ⟨rfl, rfl, rfl⟩ := hcs
    simp only [if_true] at hlen
    refine ⟨ss.take len, ⟨?_, ?_, fun s hs => hsm s (List.mem_of_mem_take hs)⟩, by omega⟩
    · rw [List.length_take]; omega
    · by_cases h0 : ss = []
      · left; rw [h0]; simp
      · right
        have hpos := List.length_pos_iff.2 h0
        have hc0 := hcell 0 hpos
        obtain ⟨b, off, spot⟩ := y
        have hspot : spot = none := by simpa [Addr.add] using World.cell?_spot hc0
        subst hspot
        refine ⟨b, off, rfl, fun i hi => ?_⟩
        have hi' : i < ss.length := by rw [List.length_take] at hi; omega
        have := hcell i hi'
        have e1 : (⟨b, off, none⟩ : Addr).add i = ⟨b, off + i, none⟩ := by unfold Addr.add; split <;> simp_all
        rw [e1] at this
        rw [this, List.getElem_take, List.getD_eq_getElem?_getD, List.getElem?_eq_getElem hi']
        rfl

end Go.Proofs.Ytmadkoebopfhoaa
