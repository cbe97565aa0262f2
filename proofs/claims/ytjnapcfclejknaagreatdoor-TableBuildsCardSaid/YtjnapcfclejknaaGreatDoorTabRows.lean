/-
  TableRows: the walk.
-/
import Derived.Test.YtjnapcfclejknaaGreatDoorTabApart
import Derived.Test.YtjnapcfclejknaaGreatDoorTabRRows
namespace Go.Proofs.YtjnapcfclejknaaGreatDoor
open Go.RowKit

theorem flat_take_le (rs : List ByteArray) (f : ByteArray → List Cel) (k : Nat) : ((rs.take k).flatMap f).length ≤ (rs.flatMap f).length := by
  conv => rhs; rw [← List.take_append_drop k rs]
  rw [List.flatMap_append, List.length_append]
  omega
theorem rowL_le (l : List Cel) (r : ByteArray) : (rowL l r).length ≤ l.length := List.length_filter_le _ _
theorem rowL_ok {l : List Cel} (h : ∀ c ∈ l, CelOK c) (r : ByteArray) : ∀ c ∈ rowL l r, CelOK c := fun c hc => h c (List.mem_filter.1 hc).1
theorem row_small {l : List Cel} (g : GoodT l) {r : ByteArray} (hr : r ∈ rowsP l) : r.size ≤ 100000000 := by
  obtain ⟨c, hc, rfl⟩ := rows_mem hr
  have := (may_sizes (errK_may g.err c hc)).1
  omega
/-- a file's row, of sequence 0 -/
theorem row_zero {l : List Cel} (g : GoodT l) (w : World) (bt : Nat) (r : ByteArray) (hf : FileAt w bt (openedP l 0)) (hr : r ∈ rowsP l) (ht : TabAt w) :
    Calls Tryz.prog 18 #[.pointer (some ⟨bt, 0, none⟩), .string r] w fun e w' => ∃ v', e = .returned v' ∧ OwnC w' w.heap.size v' (rowL l r) ∧ Fp [] w w' := by
  have hs := bloom_small g.len
  have h := trow_any w bt (openedP l 0) r hf (by show l.length ≤ _; have := g.len; omega) (by show 0 < _; decide) (by show (bloomP (rowsP l)).size ≤ _; omega) (row_small g hr) ht
  rw [show rowT (openedP l 0).l (openedP l 0).fil r (openedP l 0).f.seq = rowL l r from row_good g r 0] at h
  exact h
theorem looks_one {l : List Cel} (g : GoodT l) {r : ByteArray} (hr : r ∈ rowsP l) : ∃ n : Nat, 0 < n ∧ ∀ (q : Nat) (w : World) (bt : Nat), FileAt w bt (openedP l q) → TabAt w →
    Calls Tryz.prog 11 #[.pointer (some ⟨bt, 0, none⟩), .string r] w fun e w' => e = .returned (.int .i64 n) ∧ Fp [] w w' := by
  have hs := bloom_small g.len
  refine ⟨(nearI l (bloomP (rowsP l)) r).length, near_some g.ris hr, fun q w bt hf ht => ?_⟩
  exact tlooks_any w bt (openedP l q) r hf (by show l.length ≤ _; have := g.len; omega) (by show (bloomP (rowsP l)).size ≤ _; omega) (row_small g hr) ht

end Go.Proofs.YtjnapcfclejknaaGreatDoor
