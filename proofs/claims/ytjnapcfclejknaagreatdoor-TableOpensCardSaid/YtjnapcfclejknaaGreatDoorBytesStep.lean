/-
  Appends of bytes, as steps of a region that draws its order.
-/
import Derived.Test.YtjnapcfclejknaaGreatDoorBytes
import Derived.Deep.AppendLies
import Derived.Deep.RegionHeld3
namespace Go.Proofs.YtjnapcfclejknaaGreatDoor
open Go.RowKit

theorem byteV_ofNat {n : Nat} (h : n < 256) : byteV (UInt8.ofNat n) = .int .u8 n := by
  unfold byteV
  rw [UInt8.toNat_ofNat', Nat.mod_eq_of_lt h]
theorem wp_append_reads {w : World} {o : Oper} {a : Act} {K : Act → World → Prop} {Q : Exit → Act → World → Prop} (s x : Operand)
    (ho : o.op = .call { callee := .builtin .append, args := #[s, x], argTypes := #[52, 52] }) (base : Nat) (v : Value) (l : List UInt8) (hs : a.eval s = v) (hown : Owned w base v l)
    (vx : Value) (bs : List UInt8) (hx : a.eval x = vx) (hr : Reads w vx bs) (hlen : l.length + bs.length ≤ 1000000000) (hbase : base ≤ w.heap.size)
    (h : ∀ v' w', Owned w' base v' (l ++ bs) → Below base w w' → K (a.put o.dst v') w') : o.wp Tryz.prog a w K Q := by
  obtain ⟨i0, hi, hz0, hz1, hz2⟩ := info_parts Tryz.info5
  rcases hr with ⟨rfl, rfl⟩ | ⟨b, off, cap, rfl, _, hn⟩
  · have hrun := run_append_owned_none (P := Tryz.prog) (w := w) base 52 o.type 5 i0 1 Tryz.underlying52 hi v l.length (l.map byteV) hown
    unfold Oper.wp
    simp only [execOp, ho, resolve, invoke, builtin, Sem.run_bind, Sem.run_pure, Result.andThen_ok, List.map_toArray, List.map_cons, List.map_nil, hs, hx, hrun]
    exact h v w (by rw [List.append_nil]; exact hown) (Below.refl _ _)
  · refine wp_append_own (P := Tryz.prog) w s x 52 ho base 5 i0 (.int .u8 0) 1 1 Tryz.underlying52 hi hz0 hz1 hz2 rfl (by decide) v l.length (l.map byteV) hs hown ⟨b, off, none⟩ bs.length cap (bs.map byteV) hx (by simp) ?_ (bytes_oneCell bs) (by unfold maxLen; omega) (by omega) hbase ?_
    · intro j u hu
      rw [List.getElem?_map] at hu
      cases hj : bs[j]? with
      | none => rw [hj] at hu; cases hu
      | some y =>
        rw [hj] at hu
        simp only [Option.map_some, Option.some.injEq] at hu
        subst hu
        have hlt := (List.getElem?_eq_some_iff.1 hj).1
        have e1 : (⟨b, off, none⟩ : Addr).add j = ⟨b, off + j, none⟩ := by unfold Addr.add; split <;> simp_all
        rw [e1, hn j hlt]
        obtain ⟨_, e2⟩ := List.getElem?_eq_some_iff.1 hj
        rw [e2]
    · intro v' w' h1 h2 _
      refine h v' w' ?_ (grown_below hown h2 hbase)
      unfold Owned
      rw [List.length_append, List.map_append]
      exact h1
theorem step_bytes {w : World} {ops : Array Oper} {o : Oper} {a : Act} {K : Act → World → Prop} {Q : Exit → Act → World → Prop} {E : Prop} (hgd : o.guard = none) (s x : Operand)
    (ho : o.op = .call { callee := .builtin .append, args := #[s, x], argTypes := #[52, 52] }) (base : Nat) (v : Value) (l : List UInt8) (hs : a.eval s = v) (hown : Owned w base v l)
    (vx : Value) (bs : List UInt8) (hx : a.eval x = vx) (hr : Reads w vx bs) (hlen : l.length + bs.length ≤ 1000000000) (hbase : base ≤ w.heap.size)
    (h : ∀ v' w', Owned w' base v' (l ++ bs) → Below base w w' → K (a.put o.dst v') w') : if Region.wanted o (yielded ops a.tmps) = true then Oper.wp Tryz.prog o a w K Q else E := by
  rw [if_pos (by simp [Region.wanted, hgd])]
  exact wp_append_reads s x ho base v l hs hown vx bs hx hr hlen hbase h
theorem step_str {w : World} {ops : Array Oper} {o : Oper} {a : Act} {K : Act → World → Prop} {Q : Exit → Act → World → Prop} {E : Prop} (hgd : o.guard = none) (sl x : Operand)
    (ho : o.op = .call { callee := .builtin .append, args := #[sl, x], argTypes := #[52, 9] }) (base : Nat) (v : Value) (l : List UInt8) (hs : a.eval sl = v) (hown : Owned w base v l) (s : ByteArray) (hx : a.eval x = .string s)
    (hlen : l.length + s.size ≤ 1000000000) (hbase : base ≤ w.heap.size)
    (h : ∀ v' w', Owned w' base v' (l ++ s.data.toList) → Below base w w' → K (a.put o.dst v') w') : if Region.wanted o (yielded ops a.tmps) = true then Oper.wp Tryz.prog o a w K Q else E := by
  rw [if_pos (by simp [Region.wanted, hgd])]
  obtain ⟨v', w', hr, h1, h2⟩ := run_append_str base v l hown s hlen hbase o.type
  exact Lib.wp_append_run w sl x 52 9 ho v (.string s) hs hx v' w' hr (h v' w' h1 h2)

/-- one byte, just built -/
theorem Reads.one (w : World) {n : Nat} (h : n < 256) : Reads (w.alloc (.cells #[.int .u8 n] 5)) (.slice (some ⟨w.heap.size, 0, none⟩) 1 1) [UInt8.ofNat n] := by
  refine Or.inr ⟨w.heap.size, 0, 1, rfl, by simp, one_news ?_⟩
  rw [byteV_ofNat h]
  exact cell_of_block (heap_alloc_at rfl _) 0
theorem Owned.one (w : World) (base : Nat) (hb : base ≤ w.heap.size) {n : Nat} (h : n < 256) : Owned (w.alloc (.cells #[.int .u8 n] 5)) base (.slice (some ⟨w.heap.size, 0, none⟩) 1 1) [UInt8.ofNat n] := by
  have := Owned.made w base [UInt8.ofNat n] hb (by simp [maxLen])
  simp only [List.map_cons, List.map_nil, byteV_ofNat h] at this
  exact this
theorem Owned.two (w : World) (base : Nat) (hb : base ≤ w.heap.size) {n m : Nat} (h : n < 256) (h2 : m < 256) : Owned (w.alloc (.cells #[.int .u8 n, .int .u8 m] 5)) base (.slice (some ⟨w.heap.size, 0, none⟩) 2 2) [UInt8.ofNat n, UInt8.ofNat m] := by
  have := Owned.made w base [UInt8.ofNat n, UInt8.ofNat m] hb (by simp [maxLen])
  simp only [List.map_cons, List.map_nil, byteV_ofNat h, byteV_ofNat h2] at this
  exact this
theorem Owned.drew {w : World} {base : Nat} {v : Value} {l : List UInt8} (h : Owned w base v l) : Owned w.drew base v l := h.fp (Fp.drew w)
theorem Reads.drew {w : World} {v : Value} {l : List UInt8} (h : Reads w v l) : Reads w.drew v l := h.fp (Fp.drew w)
theorem BRow.reads {w : World} {b n cap : Nat} {f : Nat → UInt8} (h : BRow w b n f) : Reads w (.slice (some ⟨b, 0, none⟩) n cap) ((List.range n).map f) :=
  Or.inr ⟨b, 0, cap, by simp, h.lt, fun j hj => by
    have hj' : j < n := by simpa using hj
    rw [Nat.zero_add, h.cell j hj']; simp⟩
theorem atB_all (s : ByteArray) : (List.range s.size).map (atB s) = s.data.toList := by
  apply List.ext_getElem
  · simp
  · intro i h1 h2
    simp only [List.getElem_map, List.getElem_range]
    unfold atB
    rw [List.getD_eq_getElem?_getD, List.getElem?_eq_getElem h2]
    rfl
theorem Owned.slice {w : World} {base : Nat} {v : Value} {l : List UInt8} (h : Owned w base v l) : ∃ a n cap, v = .slice a n cap := by
  obtain ⟨a, cap, rfl⟩ := h.reads.form
  exact ⟨_, _, _, rfl⟩
theorem wrap_u8 {n : Nat} (h : n < 256) : IntKind.u8.wrap (n : Int) = n := by rw [IntKind.wrap_u8]; omega
end Go.Proofs.YtjnapcfclejknaaGreatDoor
