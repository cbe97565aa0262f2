/-
  Byte slices that a call owns.
-/
import Derived.Test.YtepffknhkpppcaaDoorRegion
import Derived.Test.YtepffknhkpppcaaDoorRows
import Derived.Maps.AppendAt
import Derived.Lib.AppendStr
namespace Go.Proofs.YtepffknhkpppcaaDoor
open Go.RowKit

def byteV (b : UInt8) : Value := .int .u8 b.toNat
/-- v is a slice of just these bytes, in a block of the call's own (from block base on) -/
def Owned (w : World) (base : Nat) (v : Value) (l : List UInt8) : Prop := w.ownsRow base 5 1 v l.length (l.map byteV)

theorem Tryd.info5 : (Tryd.prog.info? 5).map (fun i => (i.zero, i.size, i.bytes)) = some (some (.int .u8 0), 1, 1) := by kernel_rfl

theorem Owned.nil (w : World) (base : Nat) : Owned w base (.slice none 0 0) [] := World.ownsRow_nil w base _ _
theorem Owned.mono {w : World} {base base' : Nat} {v : Value} {l : List UInt8} (h : Owned w base v l) (hb : base' ≤ base) : Owned w base' v l := by
  obtain ⟨h1, h2⟩ := h
  refine ⟨h1, ?_⟩
  rcases h2 with h2 | ⟨g, cap, cur, hv, hg, r⟩
  · exact Or.inl h2
  · exact Or.inr ⟨g, cap, cur, hv, Nat.le_trans hb hg, r⟩
theorem Owned.alloc {w : World} {base : Nat} {v : Value} {l : List UInt8} (h : Owned w base v l) (o : Obj) : Owned (w.alloc o) base v l := World.ownsRow.alloc h o
theorem Owned.lt {w : World} {base : Nat} {v : Value} {l : List UInt8} (h : Owned w base v l) : ∀ k, v.ownBlock = some k → base ≤ k ∧ k < w.heap.size := World.ownsRow.lt h
theorem Owned.kept {w w' : World} {base : Nat} {v : Value} {l : List UInt8} (h : Owned w base v l) (hf : ∀ k, v.ownBlock = some k → w'.heap[k]? = w.heap[k]?) : Owned w' base v l := by
  obtain ⟨h1, h2⟩ := h
  refine ⟨h1, ?_⟩
  rcases h2 with h2 | ⟨g, cap, cur, hv, hg, hh, r⟩
  · exact Or.inl h2
  · exact Or.inr ⟨g, cap, cur, hv, hg, (hf g (by rw [hv]; rfl)).trans hh, r⟩
theorem Owned.fp {w w' : World} {base : Nat} {v : Value} {l : List UInt8} (h : Owned w base v l) (hf : Fp [] w w') : Owned w' base v l :=
  h.kept fun k hk => hf.block k (h.lt k hk).2 (by simp)

/-- a literal of bytes -/
theorem Owned.made (w : World) (base : Nat) (l : List UInt8) (hb : base ≤ w.heap.size) (hl : l.length ≤ maxLen) :
    Owned (w.alloc (.cells (l.map byteV).toArray 5)) base (.slice (some ⟨w.heap.size, 0, none⟩) l.length l.length) l :=
  ⟨by simp, Or.inr ⟨w.heap.size, l.length, (l.map byteV).toArray, rfl, hb, (MapKept.heap_alloc w _).1, Nat.le_refl _, hl, by simp, by
    rw [List.take_of_length_le (by simp)]⟩⟩

theorem grown_below {w w' : World} {base : Nat} {v : Value} {l : List UInt8} (h : Owned w base v l) (hg : w.grownBy w' v.ownBlock) (hb : base ≤ w.heap.size) : Below base w w' :=
  (Below.refl base w).grown hg hb (fun k hk => (h.lt k hk).1)

theorem bytes_oneCell (l : List UInt8) : ∀ u ∈ l.map byteV, u.oneCell' = true := by
  intro u hu
  obtain ⟨b, _, rfl⟩ := List.mem_map.1 hu
  rfl

/-- append of bytes that lie somewhere -/
theorem wpList_append_bytes {w : World} {ops : Array Oper} {rest : List Oper} {o : Oper} {a : Act} {Q : Exit → Act → World → Prop} (hgd : o.guard = none) (s x : Operand)
    (ho : o.op = .call { callee := .builtin .append, args := #[s, x], argTypes := #[46, 46] }) (base : Nat) (v : Value) (l : List UInt8) (hs : a.eval s = v) (hown : Owned w base v l)
    (b off m c : Nat) (bs : List UInt8) (hx : a.eval x = .slice (some ⟨b, off, none⟩) m c) (hm : m = bs.length) (hnews : ∀ j (h : j < bs.length), w.cell? ⟨b, off + j, none⟩ = some (byteV bs[j])) (hlen : l.length + bs.length ≤ 1000000000) (hbase : base ≤ w.heap.size)
    (h : ∀ v' w', Owned w' base v' (l ++ bs) → Below base w w' → wpList Tryd.prog ops Q rest (a.put o.dst v') w') : wpList Tryd.prog ops Q (o :: rest) a w := by
  obtain ⟨i0, hi, hz0, hz1, hz2⟩ := info_parts Tryd.info5
  subst hm
  refine wpList_append_own w hgd s x 46 ho base 5 i0 (.int .u8 0) 1 1 Tryd.underlying46 hi hz0 hz1 hz2 rfl (by decide) v l.length (l.map byteV) hs hown ⟨b, off, none⟩ bs.length c (bs.map byteV) hx (by simp) ?_ (bytes_oneCell bs) (by unfold maxLen; omega) (by omega) hbase ?_
  · intro j u hu
    rw [List.getElem?_map] at hu
    cases hj : bs[j]? with
    | none => rw [hj] at hu; cases hu
    | some y =>
      rw [hj] at hu
      simp only [Option.map_some, Option.some.injEq] at hu
      subst hu
      have hlt := (List.getElem?_eq_some_iff.1 hj).1
      have e1 : (⟨b, off, none⟩ : Addr).add j = ⟨b, off + j, none⟩ := by unfold Addr.add; split <;> simp_all
      rw [e1, hnews j hlt]
      obtain ⟨_, e2⟩ := List.getElem?_eq_some_iff.1 hj
      rw [e2]
  · intro v' w' h1 h2 _
    refine h v' w' ?_ (grown_below hown h2 hbase)
    unfold Owned
    rw [List.length_append, List.map_append]
    exact h1

theorem one_news {w : World} {b : Nat} {x : UInt8} (h : w.cell? ⟨b, 0, none⟩ = some (byteV x)) : ∀ j (h : j < [x].length), w.cell? ⟨b, 0 + j, none⟩ = some (byteV [x][j]) := by
  intro j hj
  have : j = 0 := by simpa using hj
  subst this
  exact h

/-- append of a string's bytes -/
theorem wpList_append_str {w : World} {ops : Array Oper} {rest : List Oper} {o : Oper} {a : Act} {Q : Exit → Act → World → Prop} (hgd : o.guard = none) (sl x : Operand)
    (ho : o.op = .call { callee := .builtin .append, args := #[sl, x], argTypes := #[46, 9] }) (base : Nat) (v : Value) (l : List UInt8) (hs : a.eval sl = v) (hown : Owned w base v l) (s : ByteArray) (hx : a.eval x = .string s)
    (hlen : l.length + s.size ≤ 1000000000) (hbase : base ≤ w.heap.size)
    (h : ∀ v' w', Owned w' base v' (l ++ s.data.toList) → Below base w w' → wpList Tryd.prog ops Q rest (a.put o.dst v') w') : wpList Tryd.prog ops Q (o :: rest) a w := by
  obtain ⟨i0, hi, hz0, hz1, hz2⟩ := info_parts Tryd.info5
  refine Lib.wpList_append_own_string w hgd sl x 46 9 ho base 5 i0 Tryd.underlying46 Tryd.underlying9 hi hz0 hz1 hz2 v l.length (l.map byteV) hs hown s hx (by unfold maxLen; omega) (by omega) hbase ?_
  intro v' w' h1 h2 _
  refine h v' w' ?_ (grown_below hown h2 hbase)
  unfold Owned
  rw [List.length_append, List.map_append]
  exact h1

/-- .. as equations on the operation's run, for a region that draws its order -/
theorem run_append_str {w : World} (base : Nat) (v : Value) (l : List UInt8) (hown : Owned w base v l) (s : ByteArray) (hlen : l.length + s.size ≤ 1000000000) (hbase : base ≤ w.heap.size) (ty : TypeId) :
    ∃ v' w', (Builtin.append_ #[46, 9] ty #[v, .string s]).run Tryd.prog w = .ok v' w' ∧ Owned w' base v' (l ++ s.data.toList) ∧ Below base w w' := by
  obtain ⟨i0, hi, hz0, hz1, hz2⟩ := info_parts Tryd.info5
  obtain ⟨v', w', h1, h2, h3, _⟩ := Lib.run_append_own_string (P := Tryd.prog) w base 46 9 ty 5 i0 Tryd.underlying46 Tryd.underlying9 hi hz0 hz1 hz2 v l.length (l.map byteV) hown s (by unfold maxLen; omega) (by omega) hbase
  refine ⟨v', w', h1, ?_, grown_below hown h3 hbase⟩
  unfold Owned
  rw [List.length_append, List.map_append]
  exact h2

/-- a slice of the call's own, as a string -/
theorem run_str_of {w : World} {base : Nat} {v : Value} {l : List UInt8} (hown : Owned w base v l) : (convert 46 9 v).run Tryd.prog w = .ok (.string ⟨l.toArray⟩) w := by
  obtain ⟨h1, h2⟩ := hown
  rcases h2 with ⟨rfl, h0⟩ | ⟨g, cap, cur, rfl, hg, hh, hn, hm, hs, ht⟩
  · have : l = [] := List.eq_nil_of_length_eq_zero h0
    subst this
    rw [run_convert_bytes_string w _ _ 5 none 0 0 Tryd.underlying46 Tryd.underlying5 Tryd.underlying9]
    rfl
  · refine run_convert_bytes_back w _ _ 5 ⟨g, 0, none⟩ cap l Tryd.underlying46 Tryd.underlying5 Tryd.underlying9 ?_
    intro j hj
    have e1 : (⟨g, 0, none⟩ : Addr).add j = ⟨g, j, none⟩ := by unfold Addr.add; split <;> simp_all
    rw [e1, cell_of_block hh]
    have h3 : (cur.toList.take (l.length * 1))[j]? = (l.map byteV)[j]? := by rw [ht]
    rw [List.getElem?_take, if_pos (by omega), List.getElem?_map, List.getElem?_eq_getElem hj] at h3
    simpa [byteV] using h3

/-- the n-th byte of a number -/
def byteN (n i : Nat) : UInt8 := UInt8.ofNat (n / 256 ^ i)
def le8 (n : Nat) : List UInt8 := (List.range 8).map (byteN n)
def be8 (n : Nat) : List UInt8 := (le8 n).reverse

theorem byteV_byteN (n k : Nat) : byteV (byteN n k) = .int .u8 ((n : Int) / 2 ^ (8 * k) % 256) := by
  unfold byteV byteN
  have h1 : (2 : Nat) ^ (8 * k) = 256 ^ k := by rw [Nat.pow_mul]
  have h2 : ((UInt8.ofNat (n / 256 ^ k)).toNat : Int) = (n : Int) / 2 ^ (8 * k) % 256 := by
    rw [UInt8.toNat_ofNat', ← h1]
    rw [Int.natCast_emod, Int.natCast_ediv, Int.natCast_pow]
    rfl
  rw [h2]

theorem le8_take {n k : Nat} (h : k < 8) : (le8 n).take (k + 1) = (le8 n).take k ++ [byteN n k] := by
  unfold le8
  rw [List.take_succ_eq_append_getElem (by simpa using h)]
  simp
theorem le8_length (n : Nat) : (le8 n).length = 8 := by simp [le8]

set_option maxRecDepth 100000 in
set_option maxHeartbeats 1000000 in
theorem little_any (w : World) (base : Nat) (v : Value) (l : List UInt8) (n : Nat) (hown : Owned w base v l) (hb : base ≤ w.heap.size) (hl : l.length ≤ 1000000) (hn : n < 18446744073709551616) :
    Calls Tryd.prog 56 #[v, .int .u64 n] w fun e w' => ∃ v', e = .returned v' ∧ Owned w' base v' (l ++ le8 n) ∧ Below base w w' := by
  have HN := Lib.hid hn
  clear hn
  go_enter Tryd.func56, Tryd.ntmps56
  go_wp2
  go_loopg [0, 6] 8 (fun g v' i wr => ∃ k : Nat, g + k = 8 ∧ i = .int .i64 k ∧ Owned wr base v' (l ++ (le8 n).take k) ∧ Below base w wr)
  case atStart => exact ⟨0, rfl, rfl, by simpa using hown, Below.refl _ _⟩
  case round =>
    obtain ⟨k, hg, rfl, ho, hbel⟩ := hrel
    have HO := Lib.hid ho
    have HB := Lib.hid hbel
    clear ho hbel
    by_cases hk : k < 8
    · have hcl : (wr.alloc (.cells #[.int .u8 ((n : Int) / 2 ^ (8 * k) % 256)] 5)).cell? ⟨wr.heap.size, 0, none⟩ = some (byteV (byteN n k)) := by
        rw [byteV_byteN]; exact cell_of_block (heap_alloc_at rfl _) 0
      have HCL := Lib.hid hcl
      have hbw : base ≤ wr.heap.size := by have := HB.out.size; omega
      have hlk : (l ++ (le8 n).take k).length + 1 ≤ 1000000000 := by
        have : ((le8 n).take k).length ≤ 8 := by rw [List.length_take, le8_length]; omega
        simp only [List.length_append]; omega
      have HLK := Lib.hid hlk
      clear hcl hlk
      go_wp2_with (at_builtin; refine wpList_append_bytes rfl _ _ rfl base _ _ rfl (HO.out.alloc _) wr.heap.size 0 1 1 [byteN n k] rfl rfl (one_news HCL.out) HLK.out (by simp; omega) ?_; intro v2 w2 hown2 hbel2)
      have HO2 := Lib.hid hown2
      have HB2 := Lib.hid hbel2
      clear hown2 hbel2
      go_wp2
      go_roundg (gk - 1)
      case measure => omega
      case rel => exact ⟨k + 1, by omega, by go_num, by rw [le8_take hk, ← List.append_assoc]; exact HO2.out, (HB.out.alloc hbw _).trans HB2.out⟩
    · have hk8 : (le8 n).take k = le8 n := List.take_of_length_le (by rw [le8_length]; omega)
      have h2 := HO.out
      rw [hk8] at h2
      have HO2 := Lib.hid h2
      clear hk8 h2
      go_wp2
      go_ret
      exact ⟨_, rfl, HO2.out, HB.out⟩
end Go.Proofs.YtepffknhkpppcaaDoor
