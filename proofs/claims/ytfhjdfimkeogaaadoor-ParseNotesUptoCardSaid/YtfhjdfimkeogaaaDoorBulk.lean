/-
  What came in, with its bulk.
-/
import Derived.Test.YtfhjdfimkeogaaaDoorCelsOpen
import Derived.ChangeSlices
namespace Go.Proofs.YtfhjdfimkeogaaaDoor
open Go.RowKit Go.ChangeShapes Go.WideShapes Go.Deep

theorem bulk_part {H : Type} {d : DataW H} {l : List (DataW H)} (h : d ∈ l) : Rows.uptoBulk d ≤ Rows.uptoBulkAll l := by
  induction l with
  | nil => cases h
  | cons x r ih =>
    simp only [Rows.uptoBulkAll]
    rcases List.mem_cons.1 h with e | e
    · subst e; omega
    · have := ih e; omega
theorem bulk_string {H : Type} (s : ByteArray) : Rows.uptoBulk (DataW.lit (H := H) (.string s.data.toList)) = s.size + 1 := by
  simp only [Rows.uptoBulk]
  rfl
theorem read_cel_bulk {H : Type} {enc : TypeId × Value → H} {W : World} {fuel : Nat} {l : List Value} (hl : l.length = 6) {x : DataW H × List MemPlace}
    (h : DataW.trod enc Tryd.prog W 0 (fun _ => true) true fuel 38 l = some x) : ∃ c : Cel, l = [.string c.row, .string c.col, .int .u64 c.ts, .int .u64 c.seq, .bool c.del, .string c.val] ∧ CelOK c ∧ c.row.size + c.col.size + c.val.size ≤ Rows.uptoBulk x.1 := by
  obtain ⟨c, hc, ok, _⟩ := read_cel hl h
  refine ⟨c, hc, ok, ?_⟩
  subst hc
  obtain ⟨ys, n', hn', hy, hlen, hyl, hf⟩ := DataW.trod_struct Tryd.underlying38 h
  have hyl6 : ys.length = 6 := hyl
  match ys, hyl6 with
  | [y0, y1, y2, y3, y4, y5], _ =>
    have g0 : DataW.trod enc Tryd.prog W 0 (fun _ => true) true n' 9 (List.take (Tryd.prog.cellsOf 9) [.string c.row, .string c.col, .int .u64 c.ts, .int .u64 c.seq, .bool c.del, .string c.val]) = some y0 := hf 0 _ rfl
    have g1 : DataW.trod enc Tryd.prog W 0 (fun _ => true) true n' 9 (List.take (Tryd.prog.cellsOf 9) [.string c.col, .int .u64 c.ts, .int .u64 c.seq, .bool c.del, .string c.val]) = some y1 := hf 1 _ rfl
    have g5 : DataW.trod enc Tryd.prog W 0 (fun _ => true) true n' 9 (List.take (Tryd.prog.cellsOf 9) [.string c.val]) = some y5 := hf 5 _ rfl
    rw [one9] at g0 g1 g5
    obtain ⟨z0, h0, e0, _⟩ := DataW.trod_string Tryd.underlying9 g0
    obtain ⟨z1, h1, e1, _⟩ := DataW.trod_string Tryd.underlying9 g1
    obtain ⟨z5, h5, e5, _⟩ := DataW.trod_string Tryd.underlying9 g5
    simp only [List.take_succ_cons, List.take_zero, List.cons.injEq, Value.string.injEq, and_true] at h0 h1 h5
    rw [hy, e0, e1, e5, ← h0, ← h1, ← h5]
    simp only [List.map_cons, List.map_nil, Rows.uptoBulk, Rows.uptoBulkAll]
    have k0 : c.row.data.toList.length = c.row.size := rfl
    have k1 : c.col.data.toList.length = c.col.size := rfl
    have k5 : c.val.data.toList.length = c.val.size := rfl
    omega

theorem open_cels_bulk {H : Type} {enc : TypeId × Value → H} {W : World} {fuel : Nat} {a : Option Addr} {len cap : Nat} {x : DataW H × List MemPlace}
    (h : DataW.trod enc Tryd.prog W 0 (fun _ => true) true fuel 24 [.slice a len cap] = some x) : ∃ l, CelsAt W a len l ∧ len ≤ maxLen ∧ len ≤ cap ∧ ∀ c ∈ l, c.row.size + c.col.size + c.val.size ≤ Rows.uptoBulk x.1 := by
  rcases open_slice Tryd.underlying24 h with ⟨hcs, _⟩ | ⟨y, len', cap', m, n, D, Pl, hcs, hb, hl, hm, hmm, hx, hi⟩
  · simp only [List.cons.injEq, Value.slice.injEq, and_true] at hcs
    obtain ⟨rfl, rfl, rfl⟩ := hcs
    exact ⟨[], ⟨rfl, Or.inl rfl, by simp⟩, Nat.zero_le _, Nat.le_refl _, by simp⟩
  · simp only [List.cons.injEq, Value.slice.injEq, and_true] at hcs
    obtain ⟨rfl, rfl, rfl⟩ := hcs
    simp only [if_true] at hmm
    subst hmm
    have key : ∀ i, i < len → ∃ X : Cel, CelAddr W (y.add (i * 6)) X ∧ X.row.size + X.col.size + X.val.size ≤ Rows.uptoBulk x.1 := by
      intro i hil
      obtain ⟨cs', hc, ht'⟩ := hi i (by omega)
      rw [six24] at hc
      obtain ⟨_, hcl, hat⟩ := World.cells?_some hc
      obtain ⟨c, hcc, ok, hbk⟩ := read_cel_bulk hcl ht'
      subst hcc
      refine ⟨c, ⟨⟨by have := hat 0 (by decide); rw [add_zero'] at this; exact this, hat 1 (by decide), hat 2 (by decide), hat 3 (by decide), hat 4 (by decide), hat 5 (by decide)⟩, ok⟩, ?_⟩
      refine Nat.le_trans hbk ?_
      have h1 : Rows.uptoBulk (D i) ≤ Rows.uptoBulkAll ((List.range len).map D) := bulk_part (List.mem_map.2 ⟨i, List.mem_range.2 hil, rfl⟩)
      rw [hx]
      simp only [Rows.uptoBulk]
      exact Nat.le_trans h1 (by omega)
    by_cases hl0 : len = 0
    · subst hl0
      exact ⟨[], ⟨rfl, Or.inl rfl, by simp⟩, Nat.zero_le _, Nat.zero_le _, by simp⟩
    · obtain ⟨b, off, spot⟩ := y
      obtain ⟨X0, ⟨⟨k0, _⟩, _⟩, _⟩ := key 0 (by omega)
      have hspot : spot = none := by simpa [Addr.add] using World.cell?_spot k0
      subst hspot
      refine ⟨List.ofFn (fun i : Fin len => Classical.choose (key i.1 i.2)), ⟨by simp, Or.inr ⟨b, off, rfl, ?_, fun i hi => ?_⟩, fun c hc => ?_⟩, by omega, hl, fun c hc => ?_⟩
      · exact World.block_lt_of_cell? _ _ k0
      · have hi' : i < len := by simpa using hi
        have := Classical.choose_spec (key i hi')
        rw [List.getElem_ofFn]
        exact cel_cells this.1
      · obtain ⟨i, rfl⟩ := (List.mem_ofFn.1 hc)
        exact (Classical.choose_spec (key i.1 i.2)).1.2
      · obtain ⟨i, rfl⟩ := (List.mem_ofFn.1 hc)
        exact (Classical.choose_spec (key i.1 i.2)).2
/-- numbers of a byte as they lie -/
structure U8At (w : World) (a : Option Addr) (len : Nat) (N : List Nat) : Prop where
  len : len = N.length
  cells : N = [] ∨ ∃ b o, a = some ⟨b, o, none⟩ ∧ b < w.heap.size ∧ ∀ i (h : i < N.length), w.cell? ⟨b, o + i, none⟩ = some (.int .u8 (N[i] : Nat))
  small : ∀ n ∈ N, n < 256
theorem open_u8s {H : Type} {enc : TypeId × Value → H} {W : World} {fuel : Nat} {a : Option Addr} {len cap : Nat} {x : DataW H × List MemPlace}
    (h : DataW.trod enc Tryd.prog W 0 (fun _ => true) true fuel 31 [.slice a len cap] = some x) : ∃ N, U8At W a len N ∧ len ≤ maxLen := by
  rcases open_ints Tryd.underlying31 Tryd.underlying5 (by kernel_rfl) h with ⟨hcs, _⟩ | ⟨y, len', cap', zs, hcs, _, hl, hm, hlen, _, hcell, hwf⟩
  · simp only [List.cons.injEq, Value.slice.injEq, and_true] at hcs
    obtain ⟨rfl, rfl, rfl⟩ := hcs
    exact ⟨[], ⟨rfl, Or.inl rfl, by simp⟩, Nat.zero_le _⟩
  · simp only [List.cons.injEq, Value.slice.injEq, and_true] at hcs
    obtain ⟨rfl, rfl, rfl⟩ := hcs
    simp only [if_true] at hlen
    refine ⟨(zs.take len).map Int.toNat, ⟨by simp; omega, ?_, ?_⟩, by omega⟩
    · by_cases h0 : zs = []
      · left; rw [h0]; simp
      · right
        have hpos := List.length_pos_iff.2 h0
        have hc0 := hcell 0 hpos
        obtain ⟨b, off, spot⟩ := y
        have hspot : spot = none := by simpa [Addr.add] using World.cell?_spot hc0
        subst hspot
        refine ⟨b, off, rfl, World.block_lt_of_cell? _ _ hc0, fun i hi => ?_⟩
        have hi' : i < zs.length := by simp at hi; omega
        have := hcell i hi'
        rw [add_cell] at this
        have hw := wf_u8 (hwf _ (List.getElem_mem hi'))
        rw [this, List.getElem_map, List.getElem_take, List.getD_eq_getElem?_getD, List.getElem?_eq_getElem hi', Int.toNat_of_nonneg hw.1]
        rfl
    · intro n hn
      obtain ⟨z, hz, rfl⟩ := List.mem_map.1 hn
      have hw := wf_u8 (hwf _ (List.mem_of_mem_take hz))
      have h1 := hw.1
      have h2 := hw.2
      omega
end Go.Proofs.YtfhjdfimkeogaaaDoor
