/-
  strings.Builder.String: what it leaves as it was.
-/
import Derived.Test.YtjnapcfclejknaaGreatDoorBuild
namespace Go.Proofs.YtjnapcfclejknaaGreatDoor
open Go.RowKit

/-- no block whose cells are of another type than uint8 has turned -/
def SKept (w w' : World) : Prop := ∀ (k : Nat) (cs : Array Value) (T : TypeId), T ≠ 5 → w.heap[k]? = some (Obj.cells cs T (0, 0)) → w'.heap[k]? = some (Obj.cells cs T (0, 0))
theorem SKept.refl (w : World) : SKept w w := fun _ _ _ _ h => h
theorem SKept.alloc (w : World) (o : Obj) : SKept w (w.alloc o) := fun _ _ _ _ h => heap_alloc_old h
theorem SKept.freeze {w : World} {g : Nat} {cur : Array Value} {fz : Nat × Nat} (hg : w.heap[g]? = some (.cells cur 5 fz)) (n : Nat) : SKept w (w.freeze ⟨g, 0, none⟩ n) := by
  intro k cs T hT hk
  have hne : g ≠ k := fun e => by
    subst e
    rw [hg] at hk
    cases hk
    exact hT rfl
  rw [← hk]
  unfold World.freeze
  split
  · rfl
  · simp [Array.getElem?_modify, hne]

set_option maxHeartbeats 2000000 in
set_option maxRecDepth 100000 in
theorem string_kept {T : TypeId} (B b : Nat) (l : List UInt8) (w : World) (h : BAt T B b l w) :
    Calls Tryz.prog 28 #[.pointer (some ⟨b, 0, none⟩)] w fun e w' => e = .returned (.string ⟨l.toArray⟩) ∧ Below B w w' ∧ SKept w w' := by
  obtain ⟨p, hB, v, hbk, hown, hne⟩ := h.at
  have hBw := h.le
  rw [Lib.byteCells_length] at hown
  have hlt := heap_lt hbk
  rcases hown.2 with ⟨rfl, h0⟩ | ⟨g, cap, cur, rfl, hbg, hg, hnc, hcm, hcs, htake⟩
  · have : l = [] := List.eq_nil_of_length_eq_zero h0
    subst this
    have hUS := str_zero
    have c1 : w.drew.cell? ⟨b, 1, none⟩ = some (.slice none 0 0) := by rw [Lib.cell_of_heap (w := w.drew) hbk]; rfl
    have hSD : (Builtin.unsafeSliceData_ #[52] 104 #[.slice none 0 0]).run Tryz.prog w.drew = .ok (.pointer none) w.drew := rfl
    go_enter Tryz.func28, Tryz.ntmps28
    go_wp2
    go_region
    all_goals (go_wp2; go_ret; exact ⟨rfl, Below.drew (Below.refl B w), fun _ _ _ _ h => h⟩)
  · by_cases hl : l = []
    · subst hl
      have hUS := str_zero
      by_cases hc0 : cap = 0
      · subst hc0
        have c0 : w.cell? ⟨b, 1, none⟩ = some (.slice (some ⟨g, 0, none⟩) 0 0) := by rw [Lib.cell_of_heap hbk]; rfl
        have c1 : w.drew.cell? ⟨b, 1, none⟩ = some (.slice (some ⟨g, 0, none⟩) 0 0) := c0
        have hSD : (Builtin.unsafeSliceData_ #[52] 104 #[.slice (some ⟨g, 0, none⟩) 0 0]).run Tryz.prog w.drew = .ok (.pointer (some ⟨w.drew.heap.size, 0, none⟩)) (w.drew.alloc (.view ⟨g, 0, none⟩ 5)) :=
          Lib.run_unsafeSliceData_zero w.drew _ _ 5 Tryz.underlying104 ⟨g, 0, none⟩ 0 (5, cur.size) (by have hg' : w.drew.heap[g]? = some (.cells cur 5 (0, 0)) := hg; simp [World.shape?, hg'])
        have c2 : (w.drew.alloc (.view ⟨g, 0, none⟩ 5)).cell? ⟨b, 1, none⟩ = some (.slice (some ⟨g, 0, none⟩) 0 0) := by
          rw [Lib.cell_of_heap ((Lib.alloc_old w.drew _ b hlt).trans hbk)]; rfl
        have c3 : (w.alloc (.view ⟨g, 0, none⟩ 5)).drew.cell? ⟨b, 1, none⟩ = some (.slice (some ⟨g, 0, none⟩) 0 0) := c2
        go_enter Tryz.func28, Tryz.ntmps28
        go_wp2
        go_region
        all_goals (go_wp2; go_ret; exact ⟨rfl, (Below.drew (Below.refl B w)).alloc hBw _, fun _ _ _ _ h => heap_alloc_old (w := w) h⟩)
      · have c1 : w.drew.cell? ⟨b, 1, none⟩ = some (.slice (some ⟨g, 0, none⟩) 0 cap) := by rw [Lib.cell_of_heap (w := w.drew) hbk]; rfl
        have hSD : (Builtin.unsafeSliceData_ #[52] 104 #[.slice (some ⟨g, 0, none⟩) 0 cap]).run Tryz.prog w.drew = .ok (.pointer (some ⟨g, 0, none⟩)) w.drew :=
          Lib.run_unsafeSliceData_row _ _ _ _ _ _ hc0
        clear hc0
        go_enter Tryz.func28, Tryz.ntmps28
        go_wp2
        go_region
        all_goals (go_wp2; go_ret; exact ⟨rfl, Below.drew (Below.refl B w), fun _ _ _ _ h => h⟩)
    · have hl0 : l.length ≠ 0 := fun e => hl (List.eq_nil_of_length_eq_zero e)
      have c1 : w.drew.cell? ⟨b, 1, none⟩ = some (.slice (some ⟨g, 0, none⟩) l.length cap) := by rw [Lib.cell_of_heap (w := w.drew) hbk]; rfl
      have hSD : (Builtin.unsafeSliceData_ #[52] 104 #[.slice (some ⟨g, 0, none⟩) l.length cap]).run Tryz.prog w.drew = .ok (.pointer (some ⟨g, 0, none⟩)) w.drew :=
        Lib.run_unsafeSliceData_row _ _ _ _ _ _ (by omega)
      have hUS : (Builtin.unsafeString_ #[104, 3] 9 #[.pointer (some ⟨g, 0, none⟩), .int .i64 l.length]).run Tryz.prog w.drew = .ok (.string ⟨l.toArray⟩) (w.drew.freeze ⟨g, 0, none⟩ l.length) := by
        refine Lib.run_unsafeString_row w.drew 104 3 9 5 Tryz.underlying104 Tryz.cellsB g cur.size (by have hg' : w.drew.heap[g]? = some (.cells cur 5 (0, 0)) := hg; simp [World.shape?, hg']) l hl (by omega) (by unfold maxLen at hcm; omega) ?_
        intro j x hx
        exact hown.cells (g := g) rfl j (.int .u8 x.toNat) (by simp [Lib.byteCells, hx])
      go_enter Tryz.func28, Tryz.ntmps28
      go_wp2
      go_region
      all_goals (go_wp2; go_ret; exact ⟨rfl, Lib.below_freeze (Below.drew (Below.refl B w)) (p := ⟨g, 0, none⟩) hbg _, fun k cs T hT hk => SKept.freeze (w := w.drew) hg _ k cs T hT hk⟩)
end Go.Proofs.YtjnapcfclejknaaGreatDoor
