/-
  Byte slices that a call owns. Bytes turned round. slices.Grow and slices.Concat of bytes.
-/
import Derived.Test.YtjnapcfclejknaaGreatDoorRegion
import Derived.Test.YtjnapcfclejknaaGreatDoorRows
import Derived.Maps.AppendAt
import Derived.Lib.AppendStr
import Derived.Lib.AppendZeros
import Derived.Laws.AppendOwnNone
import Derived.Outline
namespace Go.Proofs.YtjnapcfclejknaaGreatDoor
section
open Go.RowKit

def byteV (b : UInt8) : Value := .int .u8 b.toNat
/-- v is a slice of just these bytes, in a block of the call's own (from block base on) -/
def Owned (w : World) (base : Nat) (v : Value) (l : List UInt8) : Prop := w.ownsRow base 5 1 v l.length (l.map byteV)

theorem Tryz.info5 : (Tryz.prog.info? 5).map (fun i => (i.zero, i.size, i.bytes)) = some (some (.int .u8 0), 1, 1) := by kernel_rfl

theorem Owned.nil (w : World) (base : Nat) : Owned w base (.slice none 0 0) [] := World.ownsRow_nil w base _ _
theorem Owned.mono {w : World} {base base' : Nat} {v : Value} {l : List UInt8} (h : Owned w base v l) (hb : base' ≤ base) : Owned w base' v l := by
  obtain ⟨h1, h2⟩ := h
  refine ⟨h1, ?_⟩
  rcases h2 with h2 | ⟨g, cap, cur, hv, hg, r⟩
  · exact Or.inl h2
  · exact Or.inr ⟨g, cap, cur, hv, Nat.le_trans hb hg, r⟩
theorem Owned.alloc {w : World} {base : Nat} {v : Value} {l : List UInt8} (h : Owned w base v l) (o : Obj) : Owned (w.alloc o) base v l := World.ownsRow.alloc h o
theorem Owned.lt {w : World} {base : Nat} {v : Value} {l : List UInt8} (h : Owned w base v l) : ∀ k, v.ownBlock = some k → base ≤ k ∧ k < w.heap.size := World.ownsRow.lt h
theorem Owned.kept {w w' : World} {base : Nat} {v : Value} {l : List UInt8} (h : Owned w base v l) (hf : ∀ k, v.ownBlock = some k → w'.heap[k]? = w.heap[k]?) : Owned w' base v l := by
  obtain ⟨h1, h2⟩ := h
  refine ⟨h1, ?_⟩
  rcases h2 with h2 | ⟨g, cap, cur, hv, hg, hh, r⟩
  · exact Or.inl h2
  · exact Or.inr ⟨g, cap, cur, hv, hg, (hf g (by rw [hv]; rfl)).trans hh, r⟩
theorem Owned.fp {w w' : World} {base : Nat} {v : Value} {l : List UInt8} (h : Owned w base v l) (hf : Fp [] w w') : Owned w' base v l :=
  h.kept fun k hk => hf.block k (h.lt k hk).2 (by simp)

/-- a literal of bytes -/
theorem Owned.made (w : World) (base : Nat) (l : List UInt8) (hb : base ≤ w.heap.size) (hl : l.length ≤ maxLen) :
    Owned (w.alloc (.cells (l.map byteV).toArray 5)) base (.slice (some ⟨w.heap.size, 0, none⟩) l.length l.length) l :=
  ⟨by simp, Or.inr ⟨w.heap.size, l.length, (l.map byteV).toArray, rfl, hb, (MapKept.heap_alloc w _).1, Nat.le_refl _, hl, by simp, by
    rw [List.take_of_length_le (by simp)]⟩⟩

theorem grown_below {w w' : World} {base : Nat} {v : Value} {l : List UInt8} (h : Owned w base v l) (hg : w.grownBy w' v.ownBlock) (hb : base ≤ w.heap.size) : Below base w w' :=
  (Below.refl base w).grown hg hb (fun k hk => (h.lt k hk).1)

theorem bytes_oneCell (l : List UInt8) : ∀ u ∈ l.map byteV, u.oneCell' = true := by
  intro u hu
  obtain ⟨b, _, rfl⟩ := List.mem_map.1 hu
  rfl

/-- append of bytes that lie somewhere -/
theorem wpList_append_bytes {w : World} {ops : Array Oper} {rest : List Oper} {o : Oper} {a : Act} {Q : Exit → Act → World → Prop} (hgd : o.guard = none) (s x : Operand)
    (ho : o.op = .call { callee := .builtin .append, args := #[s, x], argTypes := #[52, 52] }) (base : Nat) (v : Value) (l : List UInt8) (hs : a.eval s = v) (hown : Owned w base v l)
    (b off m c : Nat) (bs : List UInt8) (hx : a.eval x = .slice (some ⟨b, off, none⟩) m c) (hm : m = bs.length) (hnews : ∀ j (h : j < bs.length), w.cell? ⟨b, off + j, none⟩ = some (byteV bs[j])) (hlen : l.length + bs.length ≤ 1000000000) (hbase : base ≤ w.heap.size)
    (h : ∀ v' w', Owned w' base v' (l ++ bs) → Below base w w' → wpList Tryz.prog ops Q rest (a.put o.dst v') w') : wpList Tryz.prog ops Q (o :: rest) a w := by
  obtain ⟨i0, hi, hz0, hz1, hz2⟩ := info_parts Tryz.info5
  subst hm
  refine wpList_append_own w hgd s x 52 ho base 5 i0 (.int .u8 0) 1 1 Tryz.underlying52 hi hz0 hz1 hz2 rfl (by decide) v l.length (l.map byteV) hs hown ⟨b, off, none⟩ bs.length c (bs.map byteV) hx (by simp) ?_ (bytes_oneCell bs) (by unfold maxLen; omega) (by omega) hbase ?_
  · intro j u hu
    rw [List.getElem?_map] at hu
    cases hj : bs[j]? with
    | none => rw [hj] at hu; cases hu
    | some y =>
      rw [hj] at hu
      simp only [Option.map_some, Option.some.injEq] at hu
      subst hu
      have hlt := (List.getElem?_eq_some_iff.1 hj).1
      have e1 : (⟨b, off, none⟩ : Addr).add j = ⟨b, off + j, none⟩ := by unfold Addr.add; split <;> simp_all
      rw [e1, hnews j hlt]
      obtain ⟨_, e2⟩ := List.getElem?_eq_some_iff.1 hj
      rw [e2]
  · intro v' w' h1 h2 _
    refine h v' w' ?_ (grown_below hown h2 hbase)
    unfold Owned
    rw [List.length_append, List.map_append]
    exact h1

theorem one_news {w : World} {b : Nat} {x : UInt8} (h : w.cell? ⟨b, 0, none⟩ = some (byteV x)) : ∀ j (h : j < [x].length), w.cell? ⟨b, 0 + j, none⟩ = some (byteV [x][j]) := by
  intro j hj
  have : j = 0 := by simpa using hj
  subst this
  exact h

/-- append of a string's bytes -/
theorem wpList_append_str {w : World} {ops : Array Oper} {rest : List Oper} {o : Oper} {a : Act} {Q : Exit → Act → World → Prop} (hgd : o.guard = none) (sl x : Operand)
    (ho : o.op = .call { callee := .builtin .append, args := #[sl, x], argTypes := #[52, 9] }) (base : Nat) (v : Value) (l : List UInt8) (hs : a.eval sl = v) (hown : Owned w base v l) (s : ByteArray) (hx : a.eval x = .string s)
    (hlen : l.length + s.size ≤ 1000000000) (hbase : base ≤ w.heap.size)
    (h : ∀ v' w', Owned w' base v' (l ++ s.data.toList) → Below base w w' → wpList Tryz.prog ops Q rest (a.put o.dst v') w') : wpList Tryz.prog ops Q (o :: rest) a w := by
  obtain ⟨i0, hi, hz0, hz1, hz2⟩ := info_parts Tryz.info5
  refine Lib.wpList_append_own_string w hgd sl x 52 9 ho base 5 i0 Tryz.underlying52 Tryz.underlying9 hi hz0 hz1 hz2 v l.length (l.map byteV) hs hown s hx (by unfold maxLen; omega) (by omega) hbase ?_
  intro v' w' h1 h2 _
  refine h v' w' ?_ (grown_below hown h2 hbase)
  unfold Owned
  rw [List.length_append, List.map_append]
  exact h1

/-- .. as equations on the operation's run, for a region that draws its order -/
theorem run_append_str {w : World} (base : Nat) (v : Value) (l : List UInt8) (hown : Owned w base v l) (s : ByteArray) (hlen : l.length + s.size ≤ 1000000000) (hbase : base ≤ w.heap.size) (ty : TypeId) :
    ∃ v' w', (Builtin.append_ #[52, 9] ty #[v, .string s]).run Tryz.prog w = .ok v' w' ∧ Owned w' base v' (l ++ s.data.toList) ∧ Below base w w' := by
  obtain ⟨i0, hi, hz0, hz1, hz2⟩ := info_parts Tryz.info5
  obtain ⟨v', w', h1, h2, h3, _⟩ := Lib.run_append_own_string (P := Tryz.prog) w base 52 9 ty 5 i0 Tryz.underlying52 Tryz.underlying9 hi hz0 hz1 hz2 v l.length (l.map byteV) hown s (by unfold maxLen; omega) (by omega) hbase
  refine ⟨v', w', h1, ?_, grown_below hown h3 hbase⟩
  unfold Owned
  rw [List.length_append, List.map_append]
  exact h2

/-- a slice of the call's own, as a string -/
theorem run_str_of {w : World} {base : Nat} {v : Value} {l : List UInt8} (hown : Owned w base v l) : (convert 52 9 v).run Tryz.prog w = .ok (.string ⟨l.toArray⟩) w := by
  obtain ⟨h1, h2⟩ := hown
  rcases h2 with ⟨rfl, h0⟩ | ⟨g, cap, cur, rfl, hg, hh, hn, hm, hs, ht⟩
  · have : l = [] := List.eq_nil_of_length_eq_zero h0
    subst this
    rw [run_convert_bytes_string w _ _ 5 none 0 0 Tryz.underlying52 Tryz.underlying5 Tryz.underlying9]
    rfl
  · refine run_convert_bytes_back w _ _ 5 ⟨g, 0, none⟩ cap l Tryz.underlying52 Tryz.underlying5 Tryz.underlying9 ?_
    intro j hj
    have e1 : (⟨g, 0, none⟩ : Addr).add j = ⟨g, j, none⟩ := by unfold Addr.add; split <;> simp_all
    rw [e1, cell_of_block hh]
    have h3 : (cur.toList.take (l.length * 1))[j]? = (l.map byteV)[j]? := by rw [ht]
    rw [List.getElem?_take, if_pos (by omega), List.getElem?_map, List.getElem?_eq_getElem hj] at h3
    simpa [byteV] using h3

/-- the n-th byte of a number -/
def byteN (n i : Nat) : UInt8 := UInt8.ofNat (n / 256 ^ i)
def le8 (n : Nat) : List UInt8 := (List.range 8).map (byteN n)
def be8 (n : Nat) : List UInt8 := (le8 n).reverse

theorem byteV_byteN (n k : Nat) : byteV (byteN n k) = .int .u8 ((n : Int) / 2 ^ (8 * k) % 256) := by
  unfold byteV byteN
  have h1 : (2 : Nat) ^ (8 * k) = 256 ^ k := by rw [Nat.pow_mul]
  have h2 : ((UInt8.ofNat (n / 256 ^ k)).toNat : Int) = (n : Int) / 2 ^ (8 * k) % 256 := by
    rw [UInt8.toNat_ofNat', ← h1]
    rw [Int.natCast_emod, Int.natCast_ediv, Int.natCast_pow]
    rfl
  rw [h2]

theorem le8_take {n k : Nat} (h : k < 8) : (le8 n).take (k + 1) = (le8 n).take k ++ [byteN n k] := by
  unfold le8
  rw [List.take_succ_eq_append_getElem (by simpa using h)]
  simp
theorem le8_length (n : Nat) : (le8 n).length = 8 := by simp [le8]

set_option maxRecDepth 100000 in
set_option maxHeartbeats 1000000 in
theorem little_any (w : World) (base : Nat) (v : Value) (l : List UInt8) (n : Nat) (hown : Owned w base v l) (hb : base ≤ w.heap.size) (hl : l.length ≤ 1000000) (hn : n < 18446744073709551616) :
    Calls Tryz.prog 111 #[v, .int .u64 n] w fun e w' => ∃ v', e = .returned v' ∧ Owned w' base v' (l ++ le8 n) ∧ Below base w w' := by
  have HN := Lib.hid hn
  clear hn
  go_enter Tryz.func111, Tryz.ntmps111
  go_wp2
  go_loopg [0, 6] 8 (fun g v' i wr => ∃ k : Nat, g + k = 8 ∧ i = .int .i64 k ∧ Owned wr base v' (l ++ (le8 n).take k) ∧ Below base w wr)
  case atStart => exact ⟨0, rfl, rfl, by simpa using hown, Below.refl _ _⟩
  case round =>
    obtain ⟨k, hg, rfl, ho, hbel⟩ := hrel
    have HO := Lib.hid ho
    have HB := Lib.hid hbel
    clear ho hbel
    by_cases hk : k < 8
    · have hcl : (wr.alloc (.cells #[.int .u8 ((n : Int) / 2 ^ (8 * k) % 256)] 5)).cell? ⟨wr.heap.size, 0, none⟩ = some (byteV (byteN n k)) := by
        rw [byteV_byteN]; exact cell_of_block (heap_alloc_at rfl _) 0
      have HCL := Lib.hid hcl
      have hbw : base ≤ wr.heap.size := by have := HB.out.size; omega
      have hlk : (l ++ (le8 n).take k).length + 1 ≤ 1000000000 := by
        have : ((le8 n).take k).length ≤ 8 := by rw [List.length_take, le8_length]; omega
        simp only [List.length_append]; omega
      have HLK := Lib.hid hlk
      clear hcl hlk
      go_wp2_with (at_builtin; refine wpList_append_bytes rfl _ _ rfl base _ _ rfl (HO.out.alloc _) wr.heap.size 0 1 1 [byteN n k] rfl rfl (one_news HCL.out) HLK.out (by simp; omega) ?_; intro v2 w2 hown2 hbel2)
      have HO2 := Lib.hid hown2
      have HB2 := Lib.hid hbel2
      clear hown2 hbel2
      go_wp2
      go_roundg (gk - 1)
      case measure => omega
      case rel => exact ⟨k + 1, by omega, by go_num, by rw [le8_take hk, ← List.append_assoc]; exact HO2.out, (HB.out.alloc hbw _).trans HB2.out⟩
    · have hk8 : (le8 n).take k = le8 n := List.take_of_length_le (by rw [le8_length]; omega)
      have h2 := HO.out
      rw [hk8] at h2
      have HO2 := Lib.hid h2
      clear hk8 h2
      go_wp2
      go_ret
      exact ⟨_, rfl, HO2.out, HB.out⟩
end

section
open Go.RowKit

/-- block b begins by these bytes, and they may be written -/
structure BRow (w : World) (b : Nat) (n : Nat) (f : Nat → UInt8) : Prop where
  lt : b < w.heap.size
  cell : ∀ j, j < n → w.cell? ⟨b, j, none⟩ = some (byteV (f j))
  free : ∀ j, j < n → w.frozen? ⟨b, j, none⟩ = false

/-- the bytes behind k exchanges -/
def turnF (n k : Nat) (f : Nat → UInt8) (t : Nat) : UInt8 := if t < k ∨ n - k ≤ t then f (n - 1 - t) else f t

theorem turnF_lo {n k : Nat} {f : Nat → UInt8} (h : 2 * k < n) : turnF n k f k = f k := by unfold turnF; rw [if_neg (by omega)]
theorem turnF_hi {n k : Nat} {f : Nat → UInt8} (h : 2 * k < n) : turnF n k f (n - 1 - k) = f (n - 1 - k) := by unfold turnF; rw [if_neg (by omega)]

set_option maxRecDepth 100000 in
set_option maxHeartbeats 1000000 in
theorem reverse_any (w : World) (b n cap : Nat) (f : Nat → UInt8) (hr : BRow w b n f) (hn : n ≤ 1000000000) :
    Calls Tryz.prog 115 #[.slice (some ⟨b, 0, none⟩) n cap] w fun e w' => e = .returned (.tuple #[]) ∧ BRow w' b n (fun t => f (n - 1 - t)) ∧ Fp [b] w w' := by
  have HR := Lib.hid hr
  clear hr
  go_enter Tryz.func115, Tryz.ntmps115
  go_wp2_with (fail)
  go_loopg [2, 3] n (fun g vi vj wr => ∃ k : Nat, g + k = n ∧ vi = .int .i64 k ∧ vj = .int .i64 ((n : Int) - 1 - k) ∧ 2 * k ≤ n ∧ BRow wr b n (turnF n k f) ∧ Fp [b] w wr)
  case atStart =>
    refine ⟨0, rfl, rfl, by simp, by omega, ⟨HR.out.lt, fun j hj => ?_, HR.out.free⟩, Fp.refl _ _⟩
    rw [HR.out.cell j hj]
    unfold turnF
    rw [if_neg (by omega)]
  case round =>
    obtain ⟨k, hg, rfl, rfl, hk2, hrow, hfp⟩ := hrel
    have HROW := Lib.hid hrow
    have HFP := Lib.hid hfp
    clear hfp
    by_cases hlt : k + 1 + k < n
    · obtain ⟨m, hm⟩ : ∃ m, m = n - 1 - k := ⟨_, rfl⟩
      have hmi : (n : Int) - 1 - k = (m : Int) := by omega
      have c1 : wr.cell? ⟨b, k, none⟩ = some (byteV (f k)) := by rw [hrow.cell k (by omega), turnF_lo (by omega)]
      have c2 : wr.cell? ⟨b, m, none⟩ = some (byteV (f m)) := by rw [hrow.cell m (by omega), hm, turnF_hi (by omega)]
      have f1 : wr.frozen? ⟨b, k, none⟩ = false := hrow.free k (by omega)
      have f2 : wr.frozen? ⟨b, m, none⟩ = false := hrow.free m (by omega)
      have hne : k ≠ m := by omega
      have hmn : m < n := by omega
      have hkm : k < m := by omega
      have hkn : k < n := by omega
      unfold byteV at c1 c2
      have HM := Lib.hid hm
      rw [hmi]
      have HMI := Lib.hid hmi
      clear hrow hm hmi
      have hkm1 : (k : Int) < (m : Int) := by omega
      go_wp2_with (fail)
      go_region
      go_wp2_with (fail)
      go_roundg (gk - 1)
      case measure => omega
      case rel =>
        refine ⟨k + 1, by omega, by go_num, ?_, by omega, ⟨?_, ?_, ?_⟩, ?_⟩
        · have := HMI.out
          congr 1
          omega
        · simpa [World.setCell] using HROW.out.lt
        · intro j hj
          have hc := HROW.out.cell j hj
          show ((wr.setCell ⟨b, k, none⟩ _).setCell ⟨b, m, none⟩ _).cell? ⟨b, j, none⟩ = _
          by_cases e1 : j = m
          · subst e1
            have c3 : (wr.setCell ⟨b, k, none⟩ (.int .u8 (f j).toNat)).cell? ⟨b, j, none⟩ = some (.int .u8 (f j).toNat) := by
              rw [World.cell?_setCell_other _ _ _ _ (fun e => hne (congrArg Addr.off e))]; exact c2
            rw [World.cell?_setCell_same _ _ _ c3]
            unfold turnF byteV
            rw [if_pos (by have := HM.out; omega), show n - 1 - j = k by have := HM.out; omega]
          · rw [World.cell?_setCell_other _ _ _ _ (fun e => e1 (congrArg Addr.off e).symm)]
            by_cases e2 : j = k
            · subst e2
              rw [World.cell?_setCell_same _ _ _ c1]
              unfold turnF byteV
              rw [if_pos (by omega), show n - 1 - j = m by have := HM.out; omega]
            · rw [World.cell?_setCell_other _ _ _ _ (fun e => e2 (congrArg Addr.off e).symm), hc]
              have hmm := HM.out
              unfold turnF
              by_cases e3 : j < k ∨ n - k ≤ j
              · rw [if_pos e3, if_pos (by omega)]
              · rw [if_neg e3, if_neg (by omega)]
        · intro j hj
          show ((wr.setCell ⟨b, k, none⟩ _).setCell ⟨b, m, none⟩ _).frozen? ⟨b, j, none⟩ = _
          rw [World.frozen?_setCell, World.frozen?_setCell]
          exact HROW.out.free j hj
        · exact (((HFP.out.setCell' (by simp) _).setCell' (by simp) _).drew')
    · have H : Hid (BRow wr b n (fun t => f (n - 1 - t))) := by
        refine ⟨HROW.out.lt, fun j hj => ?_, HROW.out.free⟩
        rw [HROW.out.cell j hj]
        unfold turnF
        by_cases e : j < k ∨ n - k ≤ j
        · rw [if_pos e]
        · rw [if_neg e, show n - 1 - j = j by omega]
      have hge : ¬ (k : Int) < (n : Int) - 1 - k := by omega
      clear hrow hlt
      go_wp2_with (fail)
      go_end0
      exact ⟨rfl, H.out, HFP.out⟩

/-- the bytes of a string, as a function -/
def atB (s : ByteArray) (j : Nat) : UInt8 := s.data.toList.getD j 0

theorem bytes_brow (w : World) (s : ByteArray) : ∃ cap W, (convert 9 52 (.string s)).run Tryz.prog w = .ok (.slice (some ⟨w.heap.size, 0, none⟩) s.size cap) W ∧ BRow W w.heap.size s.size (atB s) ∧ Fp [] w W := by
  have h := run_bytes_of_string (P := Tryz.prog) w 9 52 5 s Tryz.underlying9 Tryz.underlying52 Tryz.underlying5
  refine ⟨_, _, h, ?_, (Fp.drew w).alloc' _⟩
  have hb := heap_alloc_at (w := w.drew) (n := w.heap.size) rfl (.cells (bytesRow s (grownCap w s.size 0 5)) 5 ((bytesRow s (grownCap w s.size 0 5)).size, (bytesRow s (grownCap w s.size 0 5)).size + 1))
  refine ⟨heap_lt hb, fun j hj => ?_, fun j hj => ?_⟩
  · rw [cell_of_block hb, bytesRow_at s _ j hj]
    unfold byteV atB
    have : s.data.toList.getD j 0 = s.data[j] := by
      rw [List.getD_eq_getElem?_getD, List.getElem?_eq_getElem (by simpa using hj)]
      simp
    rw [this]
  · have hsz : s.size ≤ (bytesRow s (grownCap w s.size 0 5)).size := by
      unfold bytesRow
      simp only [Array.size_append, Array.size_map, Array.size_replicate]
      exact Nat.le_add_right _ _
    simp only [World.frozen?, hb]
    have : ¬ (bytesRow s (grownCap w s.size 0 5)).size ≤ j := by omega
    simp [this]

theorem str_of_brow {w : World} {b n cap : Nat} {f : Nat → UInt8} (h : BRow w b n f) : (convert 52 9 (.slice (some ⟨b, 0, none⟩) n cap)).run Tryz.prog w = .ok (.string ⟨((List.range n).map f).toArray⟩) w := by
  have := run_convert_bytes_back (P := Tryz.prog) w 52 9 5 ⟨b, 0, none⟩ cap ((List.range n).map f) Tryz.underlying52 Tryz.underlying5 Tryz.underlying9 (by
    intro j hj
    have hj' : j < n := by simpa using hj
    have e1 : (⟨b, 0, none⟩ : Addr).add j = ⟨b, j, none⟩ := by unfold Addr.add; split <;> simp_all
    rw [e1, h.cell j hj']
    simp [byteV])
  simpa using this

theorem atB_rev (s : ByteArray) : ((List.range s.size).map (fun t => atB s (s.size - 1 - t))) = s.data.toList.reverse := by
  apply List.ext_getElem
  · simp
  · intro i h1 h2
    have hi : i < s.data.toList.length := by simpa using h1
    have hi' : i < s.size := by simpa using h1
    simp only [List.getElem_map, List.getElem_range, List.getElem_reverse]
    unfold atB
    have hlen : s.data.toList.length = s.size := rfl
    rw [List.getD_eq_getElem?_getD, List.getElem?_eq_getElem (by omega)]
    simp only [Option.getD_some]
    congr 1

theorem turned_any (w : World) (s : ByteArray) (hs : s.size ≤ 1000000000) :
    Calls Tryz.prog 104 #[.string s] w fun e w' => e = .returned (.string ⟨s.data.toList.reverse.toArray⟩) ∧ Fp [] w w' := by
  obtain ⟨cap, W, hconv, hrow, hfp⟩ := bytes_brow w s
  have hrev := reverse_any W w.heap.size s.size cap (atB s) hrow hs
  have HREV := Lib.hid hrev
  have HFP := Lib.hid hfp
  clear hrow hfp hrev
  go_enter Tryz.func104, Tryz.ntmps104
  go_wp2_with (fail)
  refine HREV.out.mono ?_
  rintro e w2 ⟨rfl, hrow2, hf2⟩
  have hstr := str_of_brow (cap := cap) hrow2
  rw [atB_rev] at hstr
  have HF2 := Lib.hid (HFP.out.trans hf2 (by simp))
  clear hrow2 hf2
  go_wp2_with (fail)
  go_ret
  exact ⟨rfl, HF2.out⟩

set_option maxRecDepth 100000 in
theorem big_any (w : World) (base : Nat) (v : Value) (l : List UInt8) (n : Nat) (hown : Owned w base v l) (hb : base ≤ w.heap.size) (hl : l.length ≤ 1000000) (hn : n < 18446744073709551616) :
    Calls Tryz.prog 92 #[v, .int .u64 n] w fun e w' => ∃ v', e = .returned v' ∧ Owned w' base v' (l ++ be8 n) ∧ Below base w w' := by
  have hli := little_any w w.heap.size (.slice none 0 0) [] n (Owned.nil _ _) (Nat.le_refl _) (by simp) hn
  have HLI := Lib.hid hli
  have HO := Lib.hid hown
  clear hli hown hn
  go_enter Tryz.func92, Tryz.ntmps92
  go_wp2_with (fail)
  refine HLI.out.mono ?_
  rintro e w2 ⟨v2, rfl, ho2, hb2⟩
  have hstr := run_str_of ho2
  rw [List.nil_append] at hstr
  have hf2 : Fp [] w w2 := ⟨hb2.os, hb2.tape, hb2.output, hb2.size, fun k hk _ => hb2.block k hk⟩
  have HO2 := Lib.hid (HO.out.fp hf2)
  have HF2 := Lib.hid hf2
  clear ho2 hb2 hf2
  go_wp2_with (fail)
  refine (turned_any w2 _ (by show (le8 n).toArray.size ≤ _; simp [le8_length])).mono ?_
  rintro e w3 ⟨rfl, hf3⟩
  have HO3 := Lib.hid (HO2.out.fp hf3)
  have HF3 := Lib.hid (HF2.out.trans hf3 (by simp))
  have hbw : base ≤ w3.heap.size := by have := HF3.out.size; omega
  have hbs : l.length + (⟨(le8 n).reverse.toArray⟩ : ByteArray).size ≤ 1000000000 := by
    show l.length + (le8 n).reverse.toArray.size ≤ _
    simp [le8_length]; omega
  have HBS := Lib.hid hbs
  clear hf3 hstr hbs
  go_wp2_with (at_builtin; refine wpList_append_str rfl _ _ rfl base _ _ rfl HO3.out _ rfl HBS.out hbw ?_; intro v4 w4 hown4 hbel4)
  have HO4 := Lib.hid hown4
  have HB4 := Lib.hid hbel4
  clear hown4 hbel4
  go_wp2_with (fail)
  go_ret
  exact ⟨_, rfl, HO4.out, (HF3.out.below hb (by simp)).trans HB4.out⟩
end

section
open Go.RowKit

/-- a slice of just these bytes, wherever it lies -/
def Reads (w : World) (v : Value) (l : List UInt8) : Prop :=
  (v = .slice none 0 0 ∧ l = []) ∨ ∃ b off cap, v = .slice (some ⟨b, off, none⟩) l.length cap ∧ b < w.heap.size ∧ ∀ j (h : j < l.length), w.cell? ⟨b, off + j, none⟩ = some (byteV l[j])

theorem Reads.fp {w w' : World} {v : Value} {l : List UInt8} (h : Reads w v l) (hf : Fp [] w w') : Reads w' v l := by
  rcases h with h | ⟨b, off, cap, h1, h2, h3⟩
  · exact Or.inl h
  · exact Or.inr ⟨b, off, cap, h1, Nat.lt_of_lt_of_le h2 hf.size, fun j hj => by rw [hf.cell h2 (by simp)]; exact h3 j hj⟩
theorem Owned.reads {w : World} {base : Nat} {v : Value} {l : List UInt8} (h : Owned w base v l) : Reads w v l := by
  obtain ⟨h1, h2⟩ := h
  rcases h2 with ⟨rfl, h0⟩ | ⟨g, cap, cur, rfl, hg, hh, hn, hm, hs, ht⟩
  · exact Or.inl ⟨rfl, List.eq_nil_of_length_eq_zero h0⟩
  · refine Or.inr ⟨g, 0, cap, rfl, heap_lt hh, fun j hj => ?_⟩
    rw [Nat.zero_add, cell_of_block hh]
    have h3 : (cur.toList.take (l.length * 1))[j]? = (l.map byteV)[j]? := by rw [ht]
    rw [List.getElem?_take, if_pos (by omega), List.getElem?_map, List.getElem?_eq_getElem hj] at h3
    simpa using h3

/-- append of whatever reads -/
theorem wpList_append_reads {w : World} {ops : Array Oper} {rest : List Oper} {o : Oper} {a : Act} {Q : Exit → Act → World → Prop} (hgd : o.guard = none) (s x : Operand)
    (ho : o.op = .call { callee := .builtin .append, args := #[s, x], argTypes := #[52, 52] }) (base : Nat) (v : Value) (l : List UInt8) (hs : a.eval s = v) (hown : Owned w base v l)
    (vx : Value) (bs : List UInt8) (hx : a.eval x = vx) (hr : Reads w vx bs) (hlen : l.length + bs.length ≤ 1000000000) (hbase : base ≤ w.heap.size)
    (h : ∀ v' w', Owned w' base v' (l ++ bs) → Below base w w' → wpList Tryz.prog ops Q rest (a.put o.dst v') w') : wpList Tryz.prog ops Q (o :: rest) a w := by
  obtain ⟨i0, hi, hz0, hz1, hz2⟩ := info_parts Tryz.info5
  rcases hr with ⟨rfl, rfl⟩ | ⟨b, off, cap, rfl, _, hn⟩
  · refine wpList_append_own_none hgd s x 52 ho base 5 i0 1 Tryz.underlying52 hi v l.length (l.map byteV) hs hown hx ?_
    exact h v w (by rw [List.append_nil]; exact hown) (Below.refl _ _)
  · exact wpList_append_bytes hgd s x ho base v l hs hown b off bs.length cap bs hx rfl hn hlen hbase h

/-- a block of slices, and their bytes -/
structure RowsAt (w : World) (sb : Nat) (vs : List Value) (ls : List (List UInt8)) : Prop where
  blk : w.heap[sb]? = some (.cells vs.toArray 52 (0, 0))
  len : vs.length = ls.length
  row : ∀ i (h : i < vs.length), Reads w vs[i] (ls.getD i [])
theorem RowsAt.fp {w w' : World} {sb : Nat} {vs : List Value} {ls : List (List UInt8)} (h : RowsAt w sb vs ls) (hf : Fp [] w w') : RowsAt w' sb vs ls :=
  ⟨(hf.block sb (heap_lt h.blk) (by simp)).trans h.blk, h.len, fun i hi => (h.row i hi).fp hf⟩

def lenV (v : Value) : Nat := match v with | .slice _ n _ => n | _ => 0
theorem Reads.form {w : World} {v : Value} {l : List UInt8} (h : Reads w v l) : ∃ a cap, v = .slice a l.length cap := by
  rcases h with ⟨rfl, rfl⟩ | ⟨b, off, cap, rfl, _⟩
  · exact ⟨_, _, rfl⟩
  · exact ⟨_, _, rfl⟩

def totL (ls : List (List UInt8)) (k : Nat) : Nat := (ls.take k).flatten.length
theorem totL_succ (ls : List (List UInt8)) (k : Nat) (h : k < ls.length) : totL ls (k + 1) = totL ls k + (ls.getD k []).length := by
  unfold totL
  rw [List.take_succ_eq_append_getElem h, List.flatten_append, List.length_append]
  simp [List.getD_eq_getElem?_getD, List.getElem?_eq_getElem h]
theorem totL_le (ls : List (List UInt8)) (k : Nat) : totL ls k ≤ ls.flatten.length := by
  unfold totL
  conv => rhs; rw [← List.take_append_drop k ls, List.flatten_append, List.length_append]
  omega
theorem flat_succ (ls : List (List UInt8)) (k : Nat) (h : k < ls.length) : (ls.take (k + 1)).flatten = (ls.take k).flatten ++ ls.getD k [] := by
  rw [List.take_succ_eq_append_getElem h, List.flatten_append]
  simp [List.getD_eq_getElem?_getD, List.getElem?_eq_getElem h]

end
end Go.Proofs.YtjnapcfclejknaaGreatDoor
