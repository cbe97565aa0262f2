/-
 strings.Builder: what its methods do, at a builder in a block of any type that begins by one. Slices of cells as they lie. The reference of layer 1: text, Cmp, Same. Slices of cells; Rising, the program's and the reference's. The reference of layer 1: name, Key, part. The reference of layer 1: Key, part. The reference of layer 1: Decode. The reference of layer 1: FromKey.
-/
import Derived.Test.YtkjmgbifoaoefaaGreatDoorQRegion
import Derived.Test.YtkjmgbifoaoefaaGreatDoorRows
import Derived.Lib.Builder
import Derived.Lib.OthersKept
import Derived.Lib.UnsafeStr
import Derived.Lib.AppendStr
import Derived.Maps.AppendAt
import Derived.Test.YtkjmgbifoaoefaaGreatDoorQCellPure
import Derived.Test.YtkjmgbifoaoefaaGreatDoorQVdOps2
import Derived.Test.YtkjmgbifoaoefaaGreatDoorQCellShown
import Derived.Test.YtkjmgbifoaoefaaGreatDoorQCellA
import Derived.Laws.Cover1
import Derived.IntWalk
set_option maxRecDepth 100000
set_option maxHeartbeats 8000000
namespace Go.Proofs.YtkjmgbifoaoefaaGreatDoor
section
open Go.RowKit
def BAt (T : TypeId) (B b : Nat) (l : List UInt8) (w : World) : Prop := Lib.IsBuilder T 5 B b (Lib.byteCells l) w
theorem BAt.fresh (T : TypeId) (w : World) : BAt T w.heap.size w.heap.size [] (w.alloc (.cells #[.pointer none, .slice none 0 0] T)) := Lib.fresh_isBuilder T 5 w
theorem BAt.at {T : TypeId} {B b : Nat} {l : List UInt8} {w : World} (h : BAt T B b l w) : ∃ p, Lib.BuilderAt T 5 B b p (Lib.byteCells l) w := by
 rcases h with h | h
 ·exact ⟨_, h⟩
 ·exact ⟨_, h⟩
theorem BuilderAt.below {T : TypeId} {B b : Nat} {p : Value} {bs : List Value} {w w' : World} {S : List Nat} (h : Lib.BuilderAt T 5 B b p bs w) (hf : Fp S w w') (hs : ∀ i ∈ S, i < B) : Lib.BuilderAt T 5 B b p bs w' := by
 obtain ⟨hB, v, hb, hown, hne⟩ := h
 have hn : ∀ k, B ≤ k → k ∉ S := fun k hk hm => by have := hs k hm; omega
 refine ⟨hB, v, (hf.block b (heap_lt hb) (hn b hB)).trans hb, ?_, hne⟩
 obtain ⟨h1, h2⟩ := hown
 refine ⟨h1, ?_⟩
 rcases h2 with h2 | ⟨g, cap, cur, hv, hg, hh, r⟩
 ·exact Or.inl h2
 ·exact Or.inr ⟨g, cap, cur, hv, hg, (hf.block g (heap_lt hh) (hn g hg)).trans hh, r⟩
theorem BAt.fp {T : TypeId} {B b : Nat} {l : List UInt8} {w w' : World} {S : List Nat} (h : BAt T B b l w) (hf : Fp S w w') (hs : ∀ i ∈ S, i < B) : BAt T B b l w' := by
 rcases h with h | h
 ·exact Or.inl (BuilderAt.below h hf hs)
 ·exact Or.inr (BuilderAt.below h hf hs)
theorem BAt.le {T : TypeId} {B b : Nat} {l : List UInt8} {w : World} (h : BAt T B b l w) : B ≤ w.heap.size := by
 obtain ⟨p, h⟩ := h.at
 have := h.lt
 have := h.1
 omega
theorem row_kind {w : World} {B : Nat} {e : TypeId} {v : Value} {n : Nat} {xs : List Value} (h : w.ownsRow B e 1 v n xs) : ∀ g, v.ownBlock = some g → ∃ c fz, w.heap[g]? = some (.cells c e fz) := by
 intro g hg
 rcases h.2 with ⟨rfl, _⟩ | ⟨g', cap, cur, rfl, _, hh, _⟩
 ·simp [Value.ownBlock] at hg
 ·simp only [Value.ownBlock, Option.some.injEq] at hg
  subst hg
  exact ⟨_, _, hh⟩
theorem sizeBuilder : ∃ j, Tryz.prog.info? 69 = some j ∧ j.size = 2 := by
 have h : (Tryz.prog.info? 69).map (·.size) = some 2 := by kernel_rfl
 exact Option.map_eq_some_iff.1 h
theorem Tryz.infoB : (Tryz.prog.info? 5).map (fun i => (i.zero, i.size, i.bytes)) = some (some (.int .u8 0), 1, 1) := by kernel_rfl
theorem Tryz.cellsB : Tryz.prog.cellsOf 5 = 1 := by kernel_rfl
structure BFp (B b : Nat) (w w' : World) : Prop where
 below : Below B w w'
 others : Lib.OthersKept 5 (some b) w w'
theorem BFp.trans {B b : Nat} {a c d : World} (h : BFp B b a c) (k : BFp B b c d) : BFp B b a d := ⟨h.below.trans k.below, h.others.trans k.others⟩
theorem Fp.bfp {a w w' : World} {B b : Nat} (h : Fp [] a w) (k : BFp B b w w') (hB : a.heap.size ≤ B) : Fp [] a w' :=
 ⟨k.below.os.trans h.os, k.below.tape.trans h.tape, k.below.output.trans h.output, Nat.le_trans h.size k.below.size, fun i hi hn => (k.below.block i (Nat.lt_of_lt_of_le hi hB)).trans (h.block i hi hn)⟩
theorem copyCheck_fresh {T : TypeId} (hT : liesAt Tryz.prog Tryz.prog.depth T (2 / Tryz.prog.cellsOf T) 0 69 1 = true) (b : Nat) (w : World) (h0 : w.cell? ⟨b, 0, none⟩ = some (.pointer none)) (hsh : w.shape? b = some (T, 2)) (hfz : w.frozen? ⟨b, 0, none⟩ = false) :
  Calls Tryz.prog 72 #[.pointer (some ⟨b, 0, none⟩)] w fun e w' => e = .returned (.tuple #[]) ∧ w' = w.setCell ⟨b, 0, none⟩ (.pointer (some ⟨b, 0, none⟩)) := by
 obtain ⟨j, hj, hjs⟩ := sizeBuilder
 go_enter Tryz.func72, Tryz.ntmps72
 go_wp2
 rw [Lib.run_to_unsafe w ⟨b, 0, none⟩ Tryz.underlying66 Tryz.underlying204 hj (by rw [hjs]; decide) hsh (Nat.zero_lt_succ 1)]
 simp only [Result.andThen]
 rw [Oper.upon_value]
 go_wp2
 rw [run_callFunc_extern Tryz.func140 (by kernel_rfl) (by kernel_rfl) (by kernel_rfl) (e := Extern.AbiNoEscape.same) (by kernel_rfl)]
 rw [Lib.run_noEscape]
 simp only [Result.andThen]
 rw [Oper.upon_value]
 go_wp2
 rw [Lib.run_from_unsafe w ⟨b, 0, none⟩ Tryz.underlying204 Tryz.underlying66 hj hsh hT]
 simp only [Result.andThen]
 rw [Oper.upon_value]
 go_wp2
 go_end0
 exact ⟨rfl, rfl⟩
theorem copyCheck_used (b : Nat) (w : World) (h0 : w.cell? ⟨b, 0, none⟩ = some (.pointer (some ⟨b, 0, none⟩))) :
  Calls Tryz.prog 72 #[.pointer (some ⟨b, 0, none⟩)] w fun e w' => e = .returned (.tuple #[]) ∧ w' = w := by
 obtain ⟨j, hj, _⟩ := sizeBuilder
 go_enter Tryz.func72, Tryz.ntmps72
 go_wp2
 rw [Lib.run_neq_ptr_same w _ Tryz.underlying66 hj]
 go_wp2
 go_end0
 exact ⟨rfl, rfl⟩
theorem copyCheck_any {T : TypeId} (hT : liesAt Tryz.prog Tryz.prog.depth T (2 / Tryz.prog.cellsOf T) 0 69 1 = true) (B b : Nat) (l : List UInt8) (w : World) (h : BAt T B b l w) :
  Calls Tryz.prog 72 #[.pointer (some ⟨b, 0, none⟩)] w fun e w' => e = .returned (.tuple #[]) ∧ Lib.BuilderAt T 5 B b (.pointer (some ⟨b, 0, none⟩)) (Lib.byteCells l) w' ∧ BFp B b w w' := by
 rcases h with h | h
 ·refine (copyCheck_fresh hT b w h.cell0 h.shape h.frozen0).mono ?_
  rintro e w' ⟨rfl, rfl⟩
  exact ⟨rfl, h.used _, (Below.refl B w).setCell (p := ⟨b, 0, none⟩) h.1 _, (Lib.OthersKept.refl _ _ w).setCell ⟨b, 0, none⟩ rfl _⟩
 ·refine (copyCheck_used b w h.cell0).mono ?_
  rintro e w' ⟨rfl, rfl⟩
  exact ⟨rfl, h, Below.refl B _, Lib.OthersKept.refl _ _ _⟩
theorem writeString_any {T : TypeId} (hT : liesAt Tryz.prog Tryz.prog.depth T (2 / Tryz.prog.cellsOf T) 0 69 1 = true) (hTe : T ≠ 5) (B b : Nat) (l : List UInt8) (s : ByteArray) (w : World) (h : BAt T B b l w) (hlen : l.length + s.size ≤ 1000000000) :
  Calls Tryz.prog 29 #[.pointer (some ⟨b, 0, none⟩), .string s] w fun e w' => e = .returned (.tuple #[.int .i64 s.size, .nilIface]) ∧ BAt T B b (l ++ s.data.toList) w' ∧ BFp B b w w' := by
 obtain ⟨i0, hi, hz0, hz1, hz2⟩ := info_parts Tryz.infoB
 have hBw := h.le
 go_enter Tryz.func29, Tryz.ntmps29
 go_wp2_with (fail)
 (with_reducible refine (copyCheck_any hT B b l _ h).mono ?_)
 rintro e w1 ⟨rfl, h1, hb1⟩
 obtain ⟨hB, v, hbk, hown, hne⟩ := h1
 have c0 : w1.cell? ⟨b, 0, none⟩ = some (.pointer (some ⟨b, 0, none⟩)) := by rw [Lib.cell_of_heap hbk]; rfl
 have c1 : w1.cell? ⟨b, 1, none⟩ = some v := by rw [Lib.cell_of_heap hbk]; rfl
 have hcl := Lib.byteCells_length l
 go_wp2_with (at_builtin; refine Lib.wpList_append_own_string _ rfl _ _ 67 9 rfl B 5 i0 Tryz.underlying67 Tryz.underlying9 hi hz0 hz1 hz2 _ _ _ rfl hown s rfl ?c3 ?c4 ?c5 ?_)
 case c3 => unfold maxLen; omega
 case c4 => omega
 case c5 => have := hb1.below.size; omega
 intro v' w2 hown' hgrow _
 have hlt : b < w1.heap.size := heap_lt hbk
 have hb2 : w2.heap[b]? = some (.cells #[.pointer (some ⟨b, 0, none⟩), v] T (0, 0)) := by
  rw [hgrow.block b hlt (fun e => hne e.symm)]
  exact hbk
 have d0 : w2.cell? ⟨b, 0, none⟩ = some (.pointer (some ⟨b, 0, none⟩)) := by rw [Lib.cell_of_heap hb2]; rfl
 have d1 : w2.cell? ⟨b, 1, none⟩ = some v := by rw [Lib.cell_of_heap hb2]; rfl
 have f1 : w2.frozen? ⟨b, 1, none⟩ = false := Lib.frozen_of_heap hb2 1
 obtain ⟨ao, n', cap, rfl⟩ : ∃ ao n' cap, v' = .slice ao n' cap := by
  rcases hown'.2 with ⟨hv, _⟩ | ⟨g, cap, cur, hv, _⟩
  ·exact ⟨_, _, _, hv⟩
  ·exact ⟨_, _, _, hv⟩
 go_wp2
 go_ret2
 refine ⟨rfl, ?_, ?_, (hb1.others.grown hgrow (row_kind hown)).setCell ⟨b, 1, none⟩ rfl _⟩
 ·right
  exact Lib.BuilderAt.put (T := T) (e := 5) hB hb2 (bs' := Lib.byteCells (l ++ s.data.toList)) (by rw [Lib.byteCells_append, ← Lib.strCells_eq, List.length_append, Lib.strCells_length, Lib.byteCells_length]; exact hown') hTe
 ·exact (hb1.below.grown hgrow (by have := hb1.below.size; omega) (fun k hk => (hown.lt k hk).1)).setCell (p := ⟨b, 1, none⟩) hB _
theorem writeByte_any {T : TypeId} (hT : liesAt Tryz.prog Tryz.prog.depth T (2 / Tryz.prog.cellsOf T) 0 69 1 = true) (hTe : T ≠ 5) (B b : Nat) (l : List UInt8) (c : UInt8) (w : World) (h : BAt T B b l w) (hlen : l.length + 1 ≤ 1000000000) :
  Calls Tryz.prog 158 #[.pointer (some ⟨b, 0, none⟩), .int .u8 c.toNat] w fun e w' => e = .returned .nilIface ∧ BAt T B b (l ++ [c]) w' ∧ BFp B b w w' := by
 obtain ⟨i0, hi, hz0, hz1, hz2⟩ := info_parts Tryz.infoB
 have hBw := h.le
 go_enter Tryz.func158, Tryz.ntmps158
 go_wp2_with (fail)
 (with_reducible refine (copyCheck_any hT B b l _ h).mono ?_)
 rintro e w1 ⟨rfl, h1, hb1⟩
 obtain ⟨hB, v, hbk, hown, hne⟩ := h1
 have c0 : w1.cell? ⟨b, 0, none⟩ = some (.pointer (some ⟨b, 0, none⟩)) := by rw [Lib.cell_of_heap hbk]; rfl
 have c1 : w1.cell? ⟨b, 1, none⟩ = some v := by rw [Lib.cell_of_heap hbk]; rfl
 have hcl := Lib.byteCells_length l
 go_wp2_with (at_builtin; refine wpList_append_own _ rfl _ _ 67 rfl B 5 i0 (.int .u8 0) 1 1 Tryz.underlying67 hi hz0 hz1 hz2 rfl (by decide) _ _ _ rfl (hown.alloc _) ⟨w1.heap.size, 0, none⟩ 1 1 [.int .u8 c.toNat] rfl rfl ?c1 ?c2 ?c3 ?c4 ?c5 ?_)
 case c1 =>
  intro j u hj
  match j, hj with
  |0, hj => simp at hj; subst hj; simp [Addr.add]
 case c2 => intro u hu; simp at hu; subst hu; rfl
 case c3 => unfold maxLen; omega
 case c4 => omega
 case c5 => have := hb1.below.size; simp; omega
 intro v' w2 hown' hgrow _
 have hlt : b < w1.heap.size := heap_lt hbk
 have hb2 : w2.heap[b]? = some (.cells #[.pointer (some ⟨b, 0, none⟩), v] T (0, 0)) := by
  rw [hgrow.block b (by simp; omega) (fun e => hne e.symm), Lib.alloc_old w1 _ b hlt]
  exact hbk
 have d0 : w2.cell? ⟨b, 0, none⟩ = some (.pointer (some ⟨b, 0, none⟩)) := by rw [Lib.cell_of_heap hb2]; rfl
 have d1 : w2.cell? ⟨b, 1, none⟩ = some v := by rw [Lib.cell_of_heap hb2]; rfl
 have f1 : w2.frozen? ⟨b, 1, none⟩ = false := Lib.frozen_of_heap hb2 1
 obtain ⟨ao, n', cap, rfl⟩ : ∃ ao n' cap, v' = .slice ao n' cap := by
  rcases hown'.2 with ⟨hv, _⟩ | ⟨g, cap, cur, hv, _⟩
  ·exact ⟨_, _, _, hv⟩
  ·exact ⟨_, _, _, hv⟩
 go_wp2
 go_ret
 refine ⟨rfl, ?_, ?_, ((hb1.others.alloc _).grown hgrow (row_kind (hown.alloc _))).setCell ⟨b, 1, none⟩ rfl _⟩
 ·right
  exact Lib.BuilderAt.put (T := T) (e := 5) hB hb2 (bs' := Lib.byteCells (l ++ [c])) (by rw [Lib.byteCells_append, List.length_append, Lib.byteCells_length]; simpa [Lib.byteCells] using hown') hTe
 ·exact ((hb1.below.alloc (by have := hb1.below.size; omega) _).grown hgrow (by have := hb1.below.size; simp; omega) (fun k hk => (hown.lt k hk).1)).setCell (p := ⟨b, 1, none⟩) hB _
theorem str_zero (p : Option Addr) : ∀ W : World, (Builtin.unsafeString_ #[140, 3] 9 #[.pointer p, .int .i64 0]).run Tryz.prog W = .ok (.string ⟨#[]⟩) W := fun W => Lib.run_unsafeString_none W _ _ _ p
theorem string_any {T : TypeId} (B b : Nat) (l : List UInt8) (w : World) (h : BAt T B b l w) :
  Calls Tryz.prog 32 #[.pointer (some ⟨b, 0, none⟩)] w fun e w' => e = .returned (.string ⟨l.toArray⟩) ∧ Below B w w' := by
 obtain ⟨p, hB, v, hbk, hown, hne⟩ := h.at
 have hBw := h.le
 rw [Lib.byteCells_length] at hown
 have hlt := heap_lt hbk
 rcases hown.2 with ⟨rfl, h0⟩ | ⟨g, cap, cur, rfl, hbg, hg, hnc, hcm, hcs, htake⟩
 ·have : l = [] := List.eq_nil_of_length_eq_zero h0
  subst this
  have hUS := str_zero
  have c1 : w.drew.cell? ⟨b, 1, none⟩ = some (.slice none 0 0) := by rw [Lib.cell_of_heap (w := w.drew) hbk]; rfl
  have hSD : (Builtin.unsafeSliceData_ #[67] 140 #[.slice none 0 0]).run Tryz.prog w.drew = .ok (.pointer none) w.drew := rfl
  go_enter Tryz.func32, Tryz.ntmps32
  go_wp2
  go_region
  all_goals (go_wp2; go_ret; exact ⟨rfl, Below.drew (Below.refl B w)⟩)
 ·by_cases hl : l = []
  ·subst hl
   have hUS := str_zero
   by_cases hc0 : cap = 0
   ·subst hc0
    have c0 : w.cell? ⟨b, 1, none⟩ = some (.slice (some ⟨g, 0, none⟩) 0 0) := by rw [Lib.cell_of_heap hbk]; rfl
    have c1 : w.drew.cell? ⟨b, 1, none⟩ = some (.slice (some ⟨g, 0, none⟩) 0 0) := c0
    have hSD : (Builtin.unsafeSliceData_ #[67] 140 #[.slice (some ⟨g, 0, none⟩) 0 0]).run Tryz.prog w.drew = .ok (.pointer (some ⟨w.drew.heap.size, 0, none⟩)) (w.drew.alloc (.view ⟨g, 0, none⟩ 5)) :=
     Lib.run_unsafeSliceData_zero w.drew _ _ 5 Tryz.underlying140 ⟨g, 0, none⟩ 0 (5, cur.size) (by have hg' : w.drew.heap[g]? = some (.cells cur 5 (0, 0)) := hg; simp [World.shape?, hg'])
    have c2 : (w.drew.alloc (.view ⟨g, 0, none⟩ 5)).cell? ⟨b, 1, none⟩ = some (.slice (some ⟨g, 0, none⟩) 0 0) := by
     rw [Lib.cell_of_heap ((Lib.alloc_old w.drew _ b hlt).trans hbk)]; rfl
    have c3 : (w.alloc (.view ⟨g, 0, none⟩ 5)).drew.cell? ⟨b, 1, none⟩ = some (.slice (some ⟨g, 0, none⟩) 0 0) := c2
    go_enter Tryz.func32, Tryz.ntmps32
    go_wp2
    go_region
    all_goals (go_wp2; go_ret; exact ⟨rfl, (Below.drew (Below.refl B w)).alloc hBw _⟩)
   ·have c1 : w.drew.cell? ⟨b, 1, none⟩ = some (.slice (some ⟨g, 0, none⟩) 0 cap) := by rw [Lib.cell_of_heap (w := w.drew) hbk]; rfl
    have hSD : (Builtin.unsafeSliceData_ #[67] 140 #[.slice (some ⟨g, 0, none⟩) 0 cap]).run Tryz.prog w.drew = .ok (.pointer (some ⟨g, 0, none⟩)) w.drew :=
     Lib.run_unsafeSliceData_row _ _ _ _ _ _ hc0
    clear hc0
    go_enter Tryz.func32, Tryz.ntmps32
    go_wp2
    go_region
    all_goals (go_wp2; go_ret; exact ⟨rfl, Below.drew (Below.refl B w)⟩)
  ·have hl0 : l.length ≠ 0 := fun e => hl (List.eq_nil_of_length_eq_zero e)
   have c1 : w.drew.cell? ⟨b, 1, none⟩ = some (.slice (some ⟨g, 0, none⟩) l.length cap) := by rw [Lib.cell_of_heap (w := w.drew) hbk]; rfl
   have hSD : (Builtin.unsafeSliceData_ #[67] 140 #[.slice (some ⟨g, 0, none⟩) l.length cap]).run Tryz.prog w.drew = .ok (.pointer (some ⟨g, 0, none⟩)) w.drew :=
    Lib.run_unsafeSliceData_row _ _ _ _ _ _ (by omega)
   have hUS : (Builtin.unsafeString_ #[140, 3] 9 #[.pointer (some ⟨g, 0, none⟩), .int .i64 l.length]).run Tryz.prog w.drew = .ok (.string ⟨l.toArray⟩) (w.drew.freeze ⟨g, 0, none⟩ l.length) := by
    refine Lib.run_unsafeString_row w.drew 140 3 9 5 Tryz.underlying140 Tryz.cellsB g cur.size (by have hg' : w.drew.heap[g]? = some (.cells cur 5 (0, 0)) := hg; simp [World.shape?, hg']) l hl (by omega) (by unfold maxLen at hcm; omega) ?_
    intro j x hx
    exact hown.cells (g := g) rfl j (.int .u8 x.toNat) (by simp [Lib.byteCells, hx])
   go_enter Tryz.func32, Tryz.ntmps32
   go_wp2
   go_region
   all_goals (go_wp2; go_ret; exact ⟨rfl, Lib.below_freeze (Below.drew (Below.refl B w)) (p := ⟨g, 0, none⟩) hbg _⟩)
end
section
open Go.RowKit
structure CelCells (w : World) (b o : Nat) (c : Cel) : Prop where
 c0 : w.cell? ⟨b, o, none⟩ = some (.string c.row)
 c1 : w.cell? ⟨b, o + 1, none⟩ = some (.string c.col)
 c2 : w.cell? ⟨b, o + 2, none⟩ = some (.int .u64 c.ts)
 c3 : w.cell? ⟨b, o + 3, none⟩ = some (.int .u64 c.seq)
 c4 : w.cell? ⟨b, o + 4, none⟩ = some (.bool c.del)
 c5 : w.cell? ⟨b, o + 5, none⟩ = some (.string c.val)
theorem CelCells.fp {w w' : World} {b o : Nat} {c : Cel} {S : List Nat} (h : CelCells w b o c) (hf : Fp S w w') (hb : b < w.heap.size) (hS : b ∉ S) : CelCells w' b o c :=
 ⟨(hf.cell (by exact hb) hS).trans h.c0, (hf.cell (by exact hb) hS).trans h.c1, (hf.cell (by exact hb) hS).trans h.c2, (hf.cell (by exact hb) hS).trans h.c3, (hf.cell (by exact hb) hS).trans h.c4, (hf.cell (by exact hb) hS).trans h.c5⟩
structure CelsAt (w : World) (a : Option Addr) (len : Nat) (l : List Cel) : Prop where
 len : len = l.length
 cells : l = [] ∨ ∃ b o, a = some ⟨b, o, none⟩ ∧ b < w.heap.size ∧ ∀ i (h : i < l.length), CelCells w b (o + i * 6) l[i]
 ok : ∀ c ∈ l, CelOK c
theorem CelsAt.fp {w w' : World} {a : Option Addr} {len : Nat} {l : List Cel} (h : CelsAt w a len l) (hf : Fp [] w w') : CelsAt w' a len l := by
 refine ⟨h.len, ?_, h.ok⟩
 rcases h.cells with h0 | ⟨b, o, rfl, hb, hc⟩
 ·exact Or.inl h0
 ·exact Or.inr ⟨b, o, rfl, Nat.lt_of_lt_of_le hb hf.size, fun i hi => (hc i hi).fp hf hb (by simp)⟩
theorem cels_get {w : World} {a : Option Addr} {len k : Nat} {l : List Cel} (h : CelsAt w a len l) (hk : k < l.length) : ∃ b1 o1, a = some ⟨b1, o1, none⟩ ∧ b1 < w.heap.size ∧ ∀ w2, Fp [] w w2 → CelCells w2 b1 (o1 + k * 6) l[k] := by
 rcases h.cells with h0 | ⟨b1, o1, h1, h2, h3⟩
 ·subst h0; exact absurd hk (Nat.not_lt_zero _)
 ·exact ⟨b1, o1, h1, h2, fun w2 hf => (h3 k hk).fp hf h2 (by simp)⟩
end
section
section
open Go.RowKit
end
section
open Go.RowKit
def badAt (l : List Cel) (i : Nat) : Bool := decide (0 < i) && decide (0 ≤ cmpC (l.getD (i - 1) zeroC) (l.getD i zeroC))
def risC (l : List Cel) : Bool := !(List.range l.length).any (badAt l)
theorem risC_no {l : List Cel} {k : Nat} (hk : k < l.length) (h : badAt l k = true) : risC l = false := by
 unfold risC
 rw [List.any_eq_true.2 ⟨k, List.mem_range.2 hk, h⟩]; rfl
theorem risC_yes {l : List Cel} (h : ∀ j, j < l.length → badAt l j = false) : risC l = true := by
 unfold risC
 rw [List.any_eq_false.2 (fun x hx => by rw [h x (List.mem_range.1 hx)]; decide)]; rfl
theorem badAt_at {l : List Cel} {k m : Nat} (hk : k < l.length) (hm : k = m + 1) (x y : Cel) (hx : l[m]'(by omega) = x) (hy : l[k] = y) : badAt l k = decide (0 ≤ cmpC x y) := by
 subst hm
 unfold badAt
 rw [decide_eq_true (by omega), Bool.true_and, Nat.add_sub_cancel]
 rw [List.getD_eq_getElem?_getD, List.getD_eq_getElem?_getD, List.getElem?_eq_getElem (by omega), List.getElem?_eq_getElem hk]
 simp only [Option.getD_some, hx, hy]
theorem rising_any (w : World) (a : Option Addr) (len cap : Nat) (l : List Cel) (hl : CelsAt w a len l) (hn : len ≤ 9223372036854775807) :
  Calls Tryz.prog 90 #[.slice a len cap] w fun e w' => e = .returned (.bool (risC l)) ∧ Fp [] w w' := by
 have HL := Lib.hid hl
 have hlen := hl.len
 have HLEN := Lib.hid hlen
 clear hl hlen
 go_enter Tryz.func90, Tryz.ntmps90
 go_wp2_with (fail)
 go_loopg [6] len (fun g vi wr => ∃ k : Nat, g + k = len ∧ vi = .int .i64 k ∧ (∀ j, j < k → badAt l j = false) ∧ Fp [] w wr)
 case atStart => exact ⟨0, rfl, rfl, by intro j hj; omega, Fp.refl _ _⟩
 case round =>
  obtain ⟨k, hg, rfl, hall, hf⟩ := hrel
  have HALL := Lib.hid hall
  have HF := Lib.hid hf
  clear hall hf
  by_cases hk : k < len
  ·by_cases h0 : k = 0
   ·subst h0
    have hk0 : ¬ ((0 : Nat) : Int) > 0 := by decide
    rw [show ((0 : Nat) : Int) = 0 from rfl]
    go_wp2_with (fail)
    refine wp_region_calm (by kernel_rfl) (by kernel_rfl) ?_
    iterate 15
     first
     |apply ex_no _ _ rfl rfl rfl rfl (by kernel_rfl) rfl rfl
     |apply ex_plain rfl rfl rfl
      ·intro a w hC hA K hK
       have := hA.f 3
       try have := hA.e 0 9
       try have := hA.e 1 10
       try have := hA.e 2 11
       try have := hA.e 13 22
       simp only [Oper.wp, execOp]; go_simp
       exact hK _ hC (Fp.refl _ _)
    refine ex_end ?_
    iterate 15 refine end_val ?_
    refine end_nil fun w' hC => ?_
    ·simp only [putAll, Act.put, List.setIfInBounds_toArray, List.set_cons_succ, List.set_cons_zero]
     have HF2 := Lib.hid (HF.out.trans hC (by simp))
     clear hC
     go_wp2_with (fail)
     go_roundg (gk - 1)
     case measure => omega
     case rel =>
      refine ⟨1, by omega, rfl, ?_, HF2.out⟩
      intro j hj
      obtain rfl : j = 0 := by omega
      rfl
   ·obtain ⟨m, hm⟩ : ∃ m, k = m + 1 := ⟨k - 1, by omega⟩
    have hkl : k < l.length := by rw [← HLEN.out]; exact hk
    obtain ⟨x, hx⟩ : ∃ x, l[m]'(by omega) = x := ⟨_, rfl⟩
    obtain ⟨y, hy⟩ : ∃ y, l[k] = y := ⟨_, rfl⟩
    have HBAD := Lib.hid (badAt_at hkl hm x y hx hy)
    rcases HL.out.cells with he | ⟨b, o, rfl, hb, hc⟩
    ·rw [he] at hkl; exact absurd hkl (by simp)
    have hX := hc m (by omega)
    have hY := hc k hkl
    rw [hx] at hX
    rw [hy] at hY
    have HXY : Hid (∀ w', Fp [] w w' → CelCells w' b (o + m * 6) x ∧ CelCells w' b (o + k * 6) y) := fun w' hf => ⟨hX.fp hf hb (by simp), hY.fp hf hb (by simp)⟩
    have c1 := fun w => cmp_any x y w
    unfold cellV at c1
    obtain ⟨v, hv⟩ : ∃ v, cmpC x y = v := ⟨_, rfl⟩
    rw [hv] at c1 HBAD
    have C1 := Lib.hid c1
    have hw1 : IntKind.i64.wrap ((k : Int) - 1) = (m : Int) := by rw [IntWalk.i64_in _ (by omega)]; omega
    have hk1 : 0 < k := by omega
    have hm1 : (m : Int) < (len : Int) := by omega
    have hk2 : (k : Int) < (len : Int) := by omega
    have hmn : m < len := by omega
    clear hx hy hc hX hY c1 hv hb hm
    go_wp2_with (fail)
    refine wp_region_calm (by kernel_rfl) (by kernel_rfl) ?_
    iterate 15
     first | apply ex_plain rfl rfl rfl | apply ex_yes _ _ rfl rfl rfl rfl (by kernel_rfl) rfl rfl
     ·intro a w hC hA K hK
      have := hA.f 3
      have := hA.f 0
      try have := hA.e 0 9
      try have := hA.e 1 10
      try have := hA.e 4 13
      try have := hA.e 3 12
      try have := hA.e 5 14
      try have := hA.e 6 15
      try have := hA.e 8 17
      try have := hA.e 9 18
      try have := hA.e 10 19
      try have := hA.e 7 16
      try have := hA.e 11 20
      try have := hA.e 12 21
      try have := hA.e 2 11
      try have := hA.e 13 22
      obtain ⟨⟨x0, x1, x2, x3, x4, x5⟩, ⟨y0, y1, y2, y3, y4, y5⟩⟩ := HXY.out _ (HF.out.trans hC (by simp))
      simp only [Oper.wp, execOp]; go_simp
      first
      |exact hK _ hC (Fp.refl _ _)
      |(with_reducible refine (C1.out _).mono ?_)
       rintro e w2 ⟨rfl, hf⟩
       exact hK _ (hC.trans hf (by simp)) hf
    refine ex_end ?_
    iterate 15 refine end_val ?_
    refine end_nil fun w' hC => ?_
    ·simp only [putAll, Act.put, List.setIfInBounds_toArray, List.set_cons_succ, List.set_cons_zero]
     have HF2 := Lib.hid (HF.out.trans hC (by simp))
     clear hC
     by_cases hv : 0 ≤ v
     ·have H := Lib.hid (risC_no hkl (by rw [HBAD.out]; exact decide_eq_true hv))
      go_wp2_with (fail)
      go_ret
      rw [H.out]
      exact ⟨rfl, HF2.out⟩
     ·have H : Hid (badAt l k = false) := by unfold Hid; rw [HBAD.out]; exact decide_eq_false hv
      go_wp2_with (fail)
      go_roundg (gk - 1)
      case measure => omega
      case rel => exact ⟨k + 1, by omega, by go_num, fun j hj => by
             by_cases e : j = k
             ·rw [e]; exact H.out
             ·exact HALL.out j (by omega), HF2.out⟩
  ·have H := Lib.hid (risC_yes (l := l) (fun j hj => HALL.out j (by have := HLEN.out; omega)))
   go_wp2_with (fail)
   go_ret
   rw [H.out]
   exact ⟨rfl, HF.out⟩
end
end
section
section
open Go.RowKit
theorem esc_append (a b : List UInt8) : esc (a ++ b) = esc a ++ esc b := by
 induction a with
 |nil => rfl
 |cons x a ih =>
  by_cases h : x = 0
  ·subst h; rw [List.cons_append, esc_zero, esc_zero, ih]; rfl
  ·rw [List.cons_append, esc_one h, esc_one h, ih]; rfl
end
section
open Go.RowKit
end
section
open Go.RowKit
end
section
open Go.RowKit
theorem toList_inj' {a b : ByteArray} (h : a.toList = b.toList) : a = b := by
 rw [ByteArray.toList_eq, ByteArray.toList_eq] at h
 rw [← Lib.mk_data a, ← Lib.mk_data b, h]
def coordC (row col : ByteArray) (ts seq : Nat) : Cel := ⟨row, col, ts, seq, false, ⟨#[]⟩⟩
def endK (s : ByteArray) (c : Cel) : Cel × Int := if keyB c = s then (c, 0) else (zeroC, 1)
end
end
end Go.Proofs.YtkjmgbifoaoefaaGreatDoor
