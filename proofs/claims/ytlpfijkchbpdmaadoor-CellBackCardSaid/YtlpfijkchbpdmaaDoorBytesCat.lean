/-
  slices.Grow and slices.Concat of bytes.
-/
import Derived.Test.YtlpfijkchbpdmaaDoorBytes2
import Derived.Lib.AppendZeros
import Derived.Laws.AppendOwnNone
import Derived.Outline
namespace Go.Proofs.YtlpfijkchbpdmaaDoor
open Go.RowKit

theorem Below.toFp {w w' : World} (h : Below w.heap.size w w') : Fp [] w w' := ⟨h.os, h.tape, h.output, h.size, fun k hk _ => h.block k hk⟩
theorem Fp.belowTrans {a b c : World} (h : Fp [] a b) (k : Below a.heap.size b c) : Fp [] a c :=
  ⟨k.os.trans h.os, k.tape.trans h.tape, k.output.trans h.output, Nat.le_trans h.size k.size, fun i hi hn => (k.block i hi).trans (h.block i hi hn)⟩

set_option maxRecDepth 100000 in
set_option maxHeartbeats 1000000 in
theorem grow_any (w : World) (n : Nat) (hn : n ≤ 1000000000) :
    Calls Tryd.prog 49 #[.slice none 0 0, .int .i64 n] w fun e w' => ∃ v', e = .returned v' ∧ Owned w' w.heap.size v' [] ∧ Fp [] w w' := by
  by_cases h0 : n = 0
  · subst h0
    go_enter Tryd.func49, Tryd.ntmps49
    go_wp2_with (fail)
    go_ret
    exact ⟨_, rfl, Owned.nil _ _, Fp.refl _ _⟩
  · obtain ⟨i0, hi, hz0, hz1, hz2⟩ := info_parts Tryd.info5
    have hpos : 0 < n := by omega
    have happ := Lib.run_append_nil_zeros (P := Tryd.prog) w 44 3 44 5 i0 (.int .u8 0) .i64 .i64 Tryd.underlying44 Tryd.underlying3 hi hz0 n hpos (by rw [hz1]; decide) (by omega) (by rw [hz2]; omega)
    have hge := grownCap_ge w n 0 5
    have hle := grownCap_le_maxLen w n 0 5 (by unfold maxLen; omega)
    obtain ⟨cp, hcp⟩ : ∃ cp, cp = grownCap w n 0 5 := ⟨_, rfl⟩
    rw [← hcp] at happ hge hle
    clear hcp hi hz0 hz1 hz2 h0
    obtain ⟨W, hW⟩ : ∃ W, W = (w.drew.alloc (.cells (Builtin.zeroCells (Value.int .u8 0).cells n ++ Builtin.zeroCells (Value.int .u8 0).cells (cp - n)) 5)) := ⟨_, rfl⟩
    rw [← hW] at happ
    have hf : Fp [] w W := by rw [hW]; exact (Fp.drew w).alloc' _
    have ho : Owned W w.heap.size (.slice (some ⟨w.heap.size, 0, none⟩) 0 cp) [] := by
      refine ⟨rfl, Or.inr ⟨w.heap.size, cp, _, rfl, Nat.le_refl _, by rw [hW]; exact heap_alloc_at (w := w.drew) rfl _, Nat.zero_le _, hle, ?_, by simp⟩⟩
      simp [Builtin.zeroCells, Value.cells]
      omega
    have HO := Lib.hid ho
    have HF := Lib.hid hf
    have HA := Lib.hid happ
    clear ho hf hW happ
    go_enter Tryd.func49, Tryd.ntmps49
    go_wp2_with (at_builtin; refine Lib.wpList_append_run _ rfl _ _ _ _ rfl _ _ rfl rfl _ _ HA.out ?_)
    go_ret
    exact ⟨_, rfl, HO.out, HF.out⟩

/-- a slice of just these bytes, wherever it lies -/
def Reads (w : World) (v : Value) (l : List UInt8) : Prop :=
  (v = .slice none 0 0 ∧ l = []) ∨ ∃ b off cap, v = .slice (some ⟨b, off, none⟩) l.length cap ∧ b < w.heap.size ∧ ∀ j (h : j < l.length), w.cell? ⟨b, off + j, none⟩ = some (byteV l[j])

theorem Reads.fp {w w' : World} {v : Value} {l : List UInt8} (h : Reads w v l) (hf : Fp [] w w') : Reads w' v l := by
  rcases h with h | ⟨b, off, cap, h1, h2, h3⟩
  · exact Or.inl h
  · exact Or.inr ⟨b, off, cap, h1, Nat.lt_of_lt_of_le h2 hf.size, fun j hj => by rw [hf.cell h2 (by simp)]; exact h3 j hj⟩
theorem Owned.reads {w : World} {base : Nat} {v : Value} {l : List UInt8} (h : Owned w base v l) : Reads w v l := by
  obtain ⟨h1, h2⟩ := h
  rcases h2 with ⟨rfl, h0⟩ | ⟨g, cap, cur, rfl, hg, hh, hn, hm, hs, ht⟩
  · exact Or.inl ⟨rfl, List.eq_nil_of_length_eq_zero h0⟩
  · refine Or.inr ⟨g, 0, cap, rfl, heap_lt hh, fun j hj => ?_⟩
    rw [Nat.zero_add, cell_of_block hh]
    have h3 : (cur.toList.take (l.length * 1))[j]? = (l.map byteV)[j]? := by rw [ht]
    rw [List.getElem?_take, if_pos (by omega), List.getElem?_map, List.getElem?_eq_getElem hj] at h3
    simpa using h3

/-- append of whatever reads -/
theorem wpList_append_reads {w : World} {ops : Array Oper} {rest : List Oper} {o : Oper} {a : Act} {Q : Exit → Act → World → Prop} (hgd : o.guard = none) (s x : Operand)
    (ho : o.op = .call { callee := .builtin .append, args := #[s, x], argTypes := #[44, 44] }) (base : Nat) (v : Value) (l : List UInt8) (hs : a.eval s = v) (hown : Owned w base v l)
    (vx : Value) (bs : List UInt8) (hx : a.eval x = vx) (hr : Reads w vx bs) (hlen : l.length + bs.length ≤ 1000000000) (hbase : base ≤ w.heap.size)
    (h : ∀ v' w', Owned w' base v' (l ++ bs) → Below base w w' → wpList Tryd.prog ops Q rest (a.put o.dst v') w') : wpList Tryd.prog ops Q (o :: rest) a w := by
  obtain ⟨i0, hi, hz0, hz1, hz2⟩ := info_parts Tryd.info5
  rcases hr with ⟨rfl, rfl⟩ | ⟨b, off, cap, rfl, _, hn⟩
  · refine wpList_append_own_none hgd s x 44 ho base 5 i0 1 Tryd.underlying44 hi v l.length (l.map byteV) hs hown hx ?_
    exact h v w (by rw [List.append_nil]; exact hown) (Below.refl _ _)
  · exact wpList_append_bytes hgd s x ho base v l hs hown b off bs.length cap bs hx rfl hn hlen hbase h

/-- a block of slices, and their bytes -/
structure RowsAt (w : World) (sb : Nat) (vs : List Value) (ls : List (List UInt8)) : Prop where
  blk : w.heap[sb]? = some (.cells vs.toArray 44 (0, 0))
  len : vs.length = ls.length
  row : ∀ i (h : i < vs.length), Reads w vs[i] (ls.getD i [])
theorem RowsAt.fp {w w' : World} {sb : Nat} {vs : List Value} {ls : List (List UInt8)} (h : RowsAt w sb vs ls) (hf : Fp [] w w') : RowsAt w' sb vs ls :=
  ⟨(hf.block sb (heap_lt h.blk) (by simp)).trans h.blk, h.len, fun i hi => (h.row i hi).fp hf⟩

def lenV (v : Value) : Nat := match v with | .slice _ n _ => n | _ => 0
theorem Reads.form {w : World} {v : Value} {l : List UInt8} (h : Reads w v l) : ∃ a cap, v = .slice a l.length cap := by
  rcases h with ⟨rfl, rfl⟩ | ⟨b, off, cap, rfl, _⟩
  · exact ⟨_, _, rfl⟩
  · exact ⟨_, _, rfl⟩

def totL (ls : List (List UInt8)) (k : Nat) : Nat := (ls.take k).flatten.length
theorem totL_succ (ls : List (List UInt8)) (k : Nat) (h : k < ls.length) : totL ls (k + 1) = totL ls k + (ls.getD k []).length := by
  unfold totL
  rw [List.take_succ_eq_append_getElem h, List.flatten_append, List.length_append]
  simp [List.getD_eq_getElem?_getD, List.getElem?_eq_getElem h]
theorem totL_le (ls : List (List UInt8)) (k : Nat) : totL ls k ≤ ls.flatten.length := by
  unfold totL
  conv => rhs; rw [← List.take_append_drop k ls, List.flatten_append, List.length_append]
  omega
theorem flat_succ (ls : List (List UInt8)) (k : Nat) (h : k < ls.length) : (ls.take (k + 1)).flatten = (ls.take k).flatten ++ ls.getD k [] := by
  rw [List.take_succ_eq_append_getElem h, List.flatten_append]
  simp [List.getD_eq_getElem?_getD, List.getElem?_eq_getElem h]

set_option maxRecDepth 100000 in
set_option maxHeartbeats 1000000 in
theorem concat_any (w : World) (sb : Nat) (vs : List Value) (ls : List (List UInt8)) (hr : RowsAt w sb vs ls) (hn : vs.length ≤ 1000000) (ht : ls.flatten.length ≤ 1000000) :
    Calls Tryd.prog 30 #[.slice (some ⟨sb, 0, none⟩) vs.length vs.length] w fun e w' => ∃ v', e = .returned v' ∧ Owned w' w.heap.size v' ls.flatten ∧ Fp [] w w' := by
  have HR := Lib.hid hr
  have hlen := hr.len
  have HLEN := Lib.hid hlen
  clear hr hlen
  go_enter Tryd.func30, Tryd.ntmps30
  go_wp2_with (fail)
  go_loopg [3, 11] vs.length (fun g vt vi wr => ∃ k : Nat, g + k = vs.length ∧ vi = .int .i64 k ∧ vt = .int .i64 (totL ls k) ∧ w = wr)
  case atStart => exact ⟨0, rfl, rfl, rfl, rfl⟩
  case round =>
    obtain ⟨k, hg, rfl, rfl, rfl⟩ := hrel
    by_cases hk : k < vs.length
    · obtain ⟨a, cap, hv⟩ := (HR.out.row k hk).form
      have hcell : w.cell? ⟨sb, k, none⟩ = some (.slice a (ls.getD k []).length cap) := by
        rw [cell_of_block HR.out.blk, ← hv]; simp [hk]
      have hts := totL_succ ls k (by rw [← HLEN.out]; exact hk)
      have htl := totL_le ls (k + 1)
      obtain ⟨m, hm⟩ : ∃ m, m = (ls.getD k []).length := ⟨_, rfl⟩
      rw [← hm] at hcell hts
      have HM := Lib.hid hm
      obtain ⟨t, htt⟩ : ∃ t, t = totL ls k := ⟨_, rfl⟩
      rw [← htt] at hts ⊢
      have HTS := Lib.hid hts
      have hbd : t + m ≤ 1000000 := by omega
      clear hv hm hts htl htt
      have hnn : ¬ ((t : Int) + (m : Int)) < 0 := by omega
      go_wp2_with (fail)
      go_roundg (gk - 1)
      case measure => omega
      case rel => exact ⟨k + 1, by omega, by go_num, by rw [HTS.out]; go_num, rfl⟩
    · have hkl : k = vs.length := by omega
      have htot : totL ls k = ls.flatten.length := by unfold totL; rw [hkl, HLEN.out, List.take_length]
      have hb := htot ▸ ht
      obtain ⟨t, htt⟩ : ∃ t, t = totL ls k := ⟨_, rfl⟩
      rw [← htt] at hb ⊢
      clear htot htt hkl
      go_wp2_with (fail)
      refine (grow_any w t (by omega)).mono ?_
      rintro e w1 ⟨v1, rfl, ho1, hf1⟩
      have HO1 := Lib.hid ho1
      have HF1 := Lib.hid hf1
      clear ho1 hf1
      go_wp2_with (fail)
      go_loopg [6, 27] vs.length (fun g vb vi wx => ∃ k : Nat, g + k = vs.length ∧ vi = .int .i64 k ∧ Owned wx w.heap.size vb (ls.take k).flatten ∧ Fp [] w wx)
      case atStart => exact ⟨0, rfl, rfl, HO1.out, HF1.out⟩
      case round =>
        obtain ⟨k, hg, rfl, ho, hf⟩ := hrel
        have HO := Lib.hid ho
        have HF := Lib.hid hf
        have hbw := hf.size
        clear ho hf
        by_cases hk : k < vs.length
        · have hR2 := HR.out.fp HF.out
          have hcell : wr.cell? ⟨sb, k, none⟩ = some vs[k] := by
            have := cell_of_block hR2.blk k
            rw [this]; simp [hk]
          have HRD := Lib.hid (hR2.row k hk)
          have HFS := Lib.hid (flat_succ ls k (by rw [← HLEN.out]; exact hk))
          have hL : (ls.take k).flatten.length + (ls.getD k []).length ≤ 1000000000 := by
            have h1 := totL_succ ls k (by rw [← HLEN.out]; exact hk)
            have h2 := totL_le ls (k + 1)
            unfold totL at h1 h2
            omega
          have HL := Lib.hid hL
          obtain ⟨x, hx⟩ : ∃ x, x = vs[k] := ⟨_, rfl⟩
          rw [← hx] at hcell HRD
          clear hR2 hx hL
          go_wp2_with (at_builtin; go_loud (refine wpList_append_reads rfl _ _ rfl w.heap.size _ _ rfl HO.out _ _ rfl HRD.out HL.out hbw ?_); intro v2 w2 hown2 hbel2)
          have HO2 := Lib.hid hown2
          have HF2 := Lib.hid (HF.out.belowTrans hbel2)
          clear hown2 hbel2
          go_wp2_with (fail)
          go_roundg (gk - 1)
          case measure => omega
          case rel => exact ⟨k + 1, by omega, by go_num, by rw [HFS.out]; exact HO2.out, HF2.out⟩
        · have hkl : k = vs.length := by omega
          have h2 := HO.out
          rw [hkl, HLEN.out, List.take_length] at h2
          have HO2 := Lib.hid h2
          clear h2 hkl
          go_wp2_with (fail)
          go_ret
          exact ⟨_, rfl, HO2.out, HF.out⟩
end Go.Proofs.YtlpfijkchbpdmaaDoor
