/-
  What every law's frame needs: slices of strings that came in; integers' bounds.
-/
import Derived.Test.YtmadkoebopfhoaaRows
import Derived.Test.YtmadkoebopfhoaaMem
import Derived.ProofKit
import Derived.OpenShut
import Derived.ShutString
import Derived.ChangeOld
import Derived.SliceStrings
namespace Go.Proofs.Ytmadkoebopfhoaa
open Go.ChangeShapes Go.WideShapes Go.ChangeAt Go.RowKit
open Go.ChangeMaps (open_string shut_string)

/-- a slice of strings as it lies -/
structure StrsAt (w : World) (a : Option Addr) (len : Nat) (l : List ByteArray) : Prop where
  len : len = l.length
  cells : l = [] ∨ ∃ b o, a = some ⟨b, o, none⟩ ∧ ∀ i (h : i < l.length), w.cell? ⟨b, o + i, none⟩ = some (.string l[i])
  small : ∀ s ∈ l, s.size ≤ maxLen

theorem StrsAt.of_fp {w w' : World} {a : Option Addr} {len : Nat} {l : List ByteArray} (h : StrsAt w a len l) (hf : Fp [] w w') : StrsAt w' a len l := by
  refine ⟨h.len, ?_, h.small⟩
  rcases h.cells with h0 | ⟨b, o, rfl, hc⟩
  · exact Or.inl h0
  · exact Or.inr ⟨b, o, rfl, fun i hi => by rw [hf.cell (World.block_lt_of_cell? _ _ (hc i hi)) (by simp)]; exact hc i hi⟩


theorem wf_u8 {a : Int} (h : (Lit.int .u8 a).wf = true) : 0 ≤ a ∧ a ≤ 255 := by simp only [Lit.wf, Bool.and_eq_true, decide_eq_true_eq] at h; exact h
theorem wf_u16 {a : Int} (h : (Lit.int .u16 a).wf = true) : 0 ≤ a ∧ a ≤ 65535 := by simp only [Lit.wf, Bool.and_eq_true, decide_eq_true_eq] at h; exact h
theorem wf_i64 {a : Int} (h : (Lit.int .i64 a).wf = true) : -9223372036854775808 ≤ a ∧ a ≤ 9223372036854775807 := by simp only [Lit.wf, Bool.and_eq_true, decide_eq_true_eq] at h; exact h
theorem wf_u64 {a : Int} (h : (Lit.int .u64 a).wf = true) : 0 ≤ a ∧ a ≤ 18446744073709551615 := by simp only [Lit.wf, Bool.and_eq_true, decide_eq_true_eq] at h; exact h

theorem own : ownKnob Try.prog.godebug = none := by kernel_rfl
theorem laidOut : laidOutB Try.prog = true := by kernel_rfl

theorem Fp.toBelow {w w' : World} (h : Fp [] w w') : Below w.heap.size w w' := h.below (Nat.le_refl _) (by simp)

/-- a slice of strings that came in -/
theorem open_strs {H : Type} {enc : TypeId × Value → H} {W : World} {fuel : Nat} {a : Option Addr} {len cap : Nat} {x : DataW H × List MemPlace}
    (h : DataW.trod enc Try.prog W 0 (fun _ => true) true fuel 22 [.slice a len cap] = some x) : ∃ l, StrsAt W a len l ∧ len ≤ maxLen := by
  rcases open_strings Try.underlying22 Try.underlying9 (by kernel_rfl) h with ⟨hcs, _⟩ | ⟨y, len', cap', ss, hcs, _, hl, hm, hlen, _, hcell, hsm⟩
  · simp only [List.cons.injEq, Value.slice.injEq, and_true] at hcs
    obtain ⟨rfl, rfl, rfl⟩ := hcs
    exact ⟨[], ⟨rfl, Or.inl rfl, by simp⟩, Nat.zero_le _⟩
  · simp only [List.cons.injEq, Value.slice.injEq, and_true] at hcs
    obtain ⟨rfl, rfl, rfl⟩ := hcs
    simp only [if_true] at hlen
    refine ⟨ss.take len, ⟨?_, ?_, fun s hs => hsm s (List.mem_of_mem_take hs)⟩, by omega⟩
    · rw [List.length_take]; omega
    · by_cases h0 : ss = []
      · left; rw [h0]; simp
      · right
        have hpos := List.length_pos_iff.2 h0
        have hc0 := hcell 0 hpos
        obtain ⟨b, off, spot⟩ := y
        have hspot : spot = none := by simpa [Addr.add] using World.cell?_spot hc0
        subst hspot
        refine ⟨b, off, rfl, fun i hi => ?_⟩
        have hi' : i < ss.length := by rw [List.length_take] at hi; omega
        have := hcell i hi'
        have e1 : (⟨b, off, none⟩ : Addr).add i = ⟨b, off + i, none⟩ := by unfold Addr.add; split <;> simp_all
        rw [e1] at this
        rw [this, List.getElem_take, List.getD_eq_getElem?_getD, List.getElem?_eq_getElem hi']
        rfl

end Go.Proofs.Ytmadkoebopfhoaa
