/-
 Byte slices that a call owns. Bytes turned round. slices.Grow and slices.Concat of bytes. Key. A number of eight bytes, the lowest one first. The reader of bytes. The reader of bytes: numbers and flags. Appends of bytes, as steps of a region that draws its order.
-/
import Derived.Test.YtkjmgbifoaoefaaGreatDoorQRegion
import Derived.Test.YtkjmgbifoaoefaaGreatDoorRows
import Derived.Maps.AppendAt
import Derived.Lib.AppendStr
import Derived.Lib.AppendZeros
import Derived.Laws.AppendOwnNone
import Derived.Outline
import Derived.Test.YtkjmgbifoaoefaaGreatDoorQMem
import Derived.Test.YtkjmgbifoaoefaaGreatDoorQCellA
import Derived.Test.YtkjmgbifoaoefaaGreatDoorQEngA
import Derived.Laws.Bits64
import Derived.Laws.Bits64b
import Derived.Deep.AppendLies
import Derived.Deep.RegionHeld3
set_option maxRecDepth 100000
set_option maxHeartbeats 8000000
namespace Go.Proofs.YtkjmgbifoaoefaaGreatDoor
section
section
open Go.RowKit
def byteV (b : UInt8) : Value := .int .u8 b.toNat
def Owned (w : World) (base : Nat) (v : Value) (l : List UInt8) : Prop := w.ownsRow base 5 1 v l.length (l.map byteV)
theorem Tryz.info5 : (Tryz.prog.info? 5).map (fun i => (i.zero, i.size, i.bytes)) = some (some (.int .u8 0), 1, 1) := by kernel_rfl
theorem Owned.nil (w : World) (base : Nat) : Owned w base (.slice none 0 0) [] := World.ownsRow_nil w base _ _
theorem Owned.mono {w : World} {base base' : Nat} {v : Value} {l : List UInt8} (h : Owned w base v l) (hb : base' ≤ base) : Owned w base' v l := by
 obtain ⟨h1, h2⟩ := h
 refine ⟨h1, ?_⟩
 rcases h2 with h2 | ⟨g, cap, cur, hv, hg, r⟩
 ·exact Or.inl h2
 ·exact Or.inr ⟨g, cap, cur, hv, Nat.le_trans hb hg, r⟩
theorem Owned.alloc {w : World} {base : Nat} {v : Value} {l : List UInt8} (h : Owned w base v l) (o : Obj) : Owned (w.alloc o) base v l := World.ownsRow.alloc h o
theorem Owned.lt {w : World} {base : Nat} {v : Value} {l : List UInt8} (h : Owned w base v l) : ∀ k, v.ownBlock = some k → base ≤ k ∧ k < w.heap.size := World.ownsRow.lt h
theorem Owned.kept {w w' : World} {base : Nat} {v : Value} {l : List UInt8} (h : Owned w base v l) (hf : ∀ k, v.ownBlock = some k → w'.heap[k]? = w.heap[k]?) : Owned w' base v l := by
 obtain ⟨h1, h2⟩ := h
 refine ⟨h1, ?_⟩
 rcases h2 with h2 | ⟨g, cap, cur, hv, hg, hh, r⟩
 ·exact Or.inl h2
 ·exact Or.inr ⟨g, cap, cur, hv, hg, (hf g (by rw [hv]; rfl)).trans hh, r⟩
theorem Owned.fp {w w' : World} {base : Nat} {v : Value} {l : List UInt8} (h : Owned w base v l) (hf : Fp [] w w') : Owned w' base v l :=
 h.kept fun k hk => hf.block k (h.lt k hk).2 (by simp)
theorem Owned.made (w : World) (base : Nat) (l : List UInt8) (hb : base ≤ w.heap.size) (hl : l.length ≤ maxLen) :
  Owned (w.alloc (.cells (l.map byteV).toArray 5)) base (.slice (some ⟨w.heap.size, 0, none⟩) l.length l.length) l :=
 ⟨by simp, Or.inr ⟨w.heap.size, l.length, (l.map byteV).toArray, rfl, hb, (MapKept.heap_alloc w _).1, Nat.le_refl _, hl, by simp, by
  rw [List.take_of_length_le (by simp)]⟩⟩
theorem grown_below {w w' : World} {base : Nat} {v : Value} {l : List UInt8} (h : Owned w base v l) (hg : w.grownBy w' v.ownBlock) (hb : base ≤ w.heap.size) : Below base w w' :=
 (Below.refl base w).grown hg hb (fun k hk => (h.lt k hk).1)
theorem bytes_oneCell (l : List UInt8) : ∀ u ∈ l.map byteV, u.oneCell' = true := by
 intro u hu
 obtain ⟨b, _, rfl⟩ := List.mem_map.1 hu
 rfl
theorem wpList_append_bytes {w : World} {ops : Array Oper} {rest : List Oper} {o : Oper} {a : Act} {Q : Exit → Act → World → Prop} (hgd : o.guard = none) (s x : Operand)
  (ho : o.op = .call { callee := .builtin .append, args := #[s, x], argTypes := #[67, 67] }) (base : Nat) (v : Value) (l : List UInt8) (hs : a.eval s = v) (hown : Owned w base v l)
  (b off m c : Nat) (bs : List UInt8) (hx : a.eval x = .slice (some ⟨b, off, none⟩) m c) (hm : m = bs.length) (hnews : ∀ j (h : j < bs.length), w.cell? ⟨b, off + j, none⟩ = some (byteV bs[j])) (hlen : l.length + bs.length ≤ 1000000000) (hbase : base ≤ w.heap.size)
  (h : ∀ v' w', Owned w' base v' (l ++ bs) → Below base w w' → wpList Tryz.prog ops Q rest (a.put o.dst v') w') : wpList Tryz.prog ops Q (o :: rest) a w := by
 obtain ⟨i0, hi, hz0, hz1, hz2⟩ := info_parts Tryz.info5
 subst hm
 refine wpList_append_own w hgd s x 67 ho base 5 i0 (.int .u8 0) 1 1 Tryz.underlying67 hi hz0 hz1 hz2 rfl (by decide) v l.length (l.map byteV) hs hown ⟨b, off, none⟩ bs.length c (bs.map byteV) hx (by simp) ?_ (bytes_oneCell bs) (by unfold maxLen; omega) (by omega) hbase ?_
 ·intro j u hu
  rw [List.getElem?_map] at hu
  cases hj : bs[j]? with
  |none => rw [hj] at hu; cases hu
  |some y =>
   rw [hj] at hu
   simp only [Option.map_some, Option.some.injEq] at hu
   subst hu
   have hlt := (List.getElem?_eq_some_iff.1 hj).1
   have e1 : (⟨b, off, none⟩ : Addr).add j = ⟨b, off + j, none⟩ := by unfold Addr.add; split <;> simp_all
   rw [e1, hnews j hlt]
   obtain ⟨_, e2⟩ := List.getElem?_eq_some_iff.1 hj
   rw [e2]
 ·intro v' w' h1 h2 _
  refine h v' w' ?_ (grown_below hown h2 hbase)
  unfold Owned
  rw [List.length_append, List.map_append]
  exact h1
theorem one_news {w : World} {b : Nat} {x : UInt8} (h : w.cell? ⟨b, 0, none⟩ = some (byteV x)) : ∀ j (h : j < [x].length), w.cell? ⟨b, 0 + j, none⟩ = some (byteV [x][j]) := by
 intro j hj
 have : j = 0 := by simpa using hj
 subst this
 exact h
theorem wpList_append_str {w : World} {ops : Array Oper} {rest : List Oper} {o : Oper} {a : Act} {Q : Exit → Act → World → Prop} (hgd : o.guard = none) (sl x : Operand)
  (ho : o.op = .call { callee := .builtin .append, args := #[sl, x], argTypes := #[67, 9] }) (base : Nat) (v : Value) (l : List UInt8) (hs : a.eval sl = v) (hown : Owned w base v l) (s : ByteArray) (hx : a.eval x = .string s)
  (hlen : l.length + s.size ≤ 1000000000) (hbase : base ≤ w.heap.size)
  (h : ∀ v' w', Owned w' base v' (l ++ s.data.toList) → Below base w w' → wpList Tryz.prog ops Q rest (a.put o.dst v') w') : wpList Tryz.prog ops Q (o :: rest) a w := by
 obtain ⟨i0, hi, hz0, hz1, hz2⟩ := info_parts Tryz.info5
 refine Lib.wpList_append_own_string w hgd sl x 67 9 ho base 5 i0 Tryz.underlying67 Tryz.underlying9 hi hz0 hz1 hz2 v l.length (l.map byteV) hs hown s hx (by unfold maxLen; omega) (by omega) hbase ?_
 intro v' w' h1 h2 _
 refine h v' w' ?_ (grown_below hown h2 hbase)
 unfold Owned
 rw [List.length_append, List.map_append]
 exact h1
theorem run_append_str {w : World} (base : Nat) (v : Value) (l : List UInt8) (hown : Owned w base v l) (s : ByteArray) (hlen : l.length + s.size ≤ 1000000000) (hbase : base ≤ w.heap.size) (ty : TypeId) :
  ∃ v' w', (Builtin.append_ #[67, 9] ty #[v, .string s]).run Tryz.prog w = .ok v' w' ∧ Owned w' base v' (l ++ s.data.toList) ∧ Below base w w' := by
 obtain ⟨i0, hi, hz0, hz1, hz2⟩ := info_parts Tryz.info5
 obtain ⟨v', w', h1, h2, h3, _⟩ := Lib.run_append_own_string (P := Tryz.prog) w base 67 9 ty 5 i0 Tryz.underlying67 Tryz.underlying9 hi hz0 hz1 hz2 v l.length (l.map byteV) hown s (by unfold maxLen; omega) (by omega) hbase
 refine ⟨v', w', h1, ?_, grown_below hown h3 hbase⟩
 unfold Owned
 rw [List.length_append, List.map_append]
 exact h2
theorem run_str_of {w : World} {base : Nat} {v : Value} {l : List UInt8} (hown : Owned w base v l) : (convert 67 9 v).run Tryz.prog w = .ok (.string ⟨l.toArray⟩) w := by
 obtain ⟨h1, h2⟩ := hown
 rcases h2 with ⟨rfl, h0⟩ | ⟨g, cap, cur, rfl, hg, hh, hn, hm, hs, ht⟩
 ·have : l = [] := List.eq_nil_of_length_eq_zero h0
  subst this
  rw [run_convert_bytes_string w _ _ 5 none 0 0 Tryz.underlying67 Tryz.underlying5 Tryz.underlying9]
  rfl
 ·refine run_convert_bytes_back w _ _ 5 ⟨g, 0, none⟩ cap l Tryz.underlying67 Tryz.underlying5 Tryz.underlying9 ?_
  intro j hj
  have e1 : (⟨g, 0, none⟩ : Addr).add j = ⟨g, j, none⟩ := by unfold Addr.add; split <;> simp_all
  rw [e1, cell_of_block hh]
  have h3 : (cur.toList.take (l.length * 1))[j]? = (l.map byteV)[j]? := by rw [ht]
  rw [List.getElem?_take, if_pos (by omega), List.getElem?_map, List.getElem?_eq_getElem hj] at h3
  simpa [byteV] using h3
def byteN (n i : Nat) : UInt8 := UInt8.ofNat (n / 256 ^ i)
def le8 (n : Nat) : List UInt8 := (List.range 8).map (byteN n)
def be8 (n : Nat) : List UInt8 := (le8 n).reverse
theorem byteV_byteN (n k : Nat) : byteV (byteN n k) = .int .u8 ((n : Int) / 2 ^ (8 * k) % 256) := by
 unfold byteV byteN
 have h1 : (2 : Nat) ^ (8 * k) = 256 ^ k := by rw [Nat.pow_mul]
 have h2 : ((UInt8.ofNat (n / 256 ^ k)).toNat : Int) = (n : Int) / 2 ^ (8 * k) % 256 := by
  rw [UInt8.toNat_ofNat', ← h1]
  rw [Int.natCast_emod, Int.natCast_ediv, Int.natCast_pow]
  rfl
 rw [h2]
theorem le8_take {n k : Nat} (h : k < 8) : (le8 n).take (k + 1) = (le8 n).take k ++ [byteN n k] := by
 unfold le8
 rw [List.take_succ_eq_append_getElem (by simpa using h)]
 simp
theorem le8_length (n : Nat) : (le8 n).length = 8 := by simp [le8]
theorem little_any (w : World) (base : Nat) (v : Value) (l : List UInt8) (n : Nat) (hown : Owned w base v l) (hb : base ≤ w.heap.size) (hl : l.length ≤ 1000000) (hn : n < 18446744073709551616) :
  Calls Tryz.prog 70 #[v, .int .u64 n] w fun e w' => ∃ v', e = .returned v' ∧ Owned w' base v' (l ++ le8 n) ∧ Below base w w' := by
 have HN := Lib.hid hn
 clear hn
 go_enter Tryz.func70, Tryz.ntmps70
 go_wp2
 go_loopg [0, 6] 8 (fun g v' i wr => ∃ k : Nat, g + k = 8 ∧ i = .int .i64 k ∧ Owned wr base v' (l ++ (le8 n).take k) ∧ Below base w wr)
 case atStart => exact ⟨0, rfl, rfl, by simpa using hown, Below.refl _ _⟩
 case round =>
  obtain ⟨k, hg, rfl, ho, hbel⟩ := hrel
  have HO := Lib.hid ho
  have HB := Lib.hid hbel
  clear ho hbel
  by_cases hk : k < 8
  ·have hcl : (wr.alloc (.cells #[.int .u8 ((n : Int) / 2 ^ (8 * k) % 256)] 5)).cell? ⟨wr.heap.size, 0, none⟩ = some (byteV (byteN n k)) := by
    rw [byteV_byteN]; exact cell_of_block (heap_alloc_at rfl _) 0
   have HCL := Lib.hid hcl
   have hbw : base ≤ wr.heap.size := by have := HB.out.size; omega
   have hlk : (l ++ (le8 n).take k).length + 1 ≤ 1000000000 := by
    have : ((le8 n).take k).length ≤ 8 := by rw [List.length_take, le8_length]; omega
    simp only [List.length_append]; omega
   have HLK := Lib.hid hlk
   clear hcl hlk
   go_wp2_with (at_builtin; refine wpList_append_bytes rfl _ _ rfl base _ _ rfl (HO.out.alloc _) wr.heap.size 0 1 1 [byteN n k] rfl rfl (one_news HCL.out) HLK.out (by simp; omega) ?_; intro v2 w2 hown2 hbel2)
   have HO2 := Lib.hid hown2
   have HB2 := Lib.hid hbel2
   clear hown2 hbel2
   go_wp2
   go_roundg (gk - 1)
   case measure => omega
   case rel => exact ⟨k + 1, by omega, by go_num, by rw [le8_take hk, ← List.append_assoc]; exact HO2.out, (HB.out.alloc hbw _).trans HB2.out⟩
  ·have hk8 : (le8 n).take k = le8 n := List.take_of_length_le (by rw [le8_length]; omega)
   have h2 := HO.out
   rw [hk8] at h2
   have HO2 := Lib.hid h2
   clear hk8 h2
   go_wp2
   go_ret
   exact ⟨_, rfl, HO2.out, HB.out⟩
end
section
open Go.RowKit
structure BRow (w : World) (b : Nat) (n : Nat) (f : Nat → UInt8) : Prop where
 lt : b < w.heap.size
 cell : ∀ j, j < n → w.cell? ⟨b, j, none⟩ = some (byteV (f j))
 free : ∀ j, j < n → w.frozen? ⟨b, j, none⟩ = false
def turnF (n k : Nat) (f : Nat → UInt8) (t : Nat) : UInt8 := if t < k ∨ n - k ≤ t then f (n - 1 - t) else f t
theorem turnF_lo {n k : Nat} {f : Nat → UInt8} (h : 2 * k < n) : turnF n k f k = f k := by unfold turnF; rw [if_neg (by omega)]
theorem turnF_hi {n k : Nat} {f : Nat → UInt8} (h : 2 * k < n) : turnF n k f (n - 1 - k) = f (n - 1 - k) := by unfold turnF; rw [if_neg (by omega)]
theorem reverse_any (w : World) (b n cap : Nat) (f : Nat → UInt8) (hr : BRow w b n f) (hn : n ≤ 1000000000) :
  Calls Tryz.prog 212 #[.slice (some ⟨b, 0, none⟩) n cap] w fun e w' => e = .returned (.tuple #[]) ∧ BRow w' b n (fun t => f (n - 1 - t)) ∧ Fp [b] w w' := by
 have HR := Lib.hid hr
 clear hr
 go_enter Tryz.func212, Tryz.ntmps212
 go_wp2_with (fail)
 go_loopg [2, 3] n (fun g vi vj wr => ∃ k : Nat, g + k = n ∧ vi = .int .i64 k ∧ vj = .int .i64 ((n : Int) - 1 - k) ∧ 2 * k ≤ n ∧ BRow wr b n (turnF n k f) ∧ Fp [b] w wr)
 case atStart =>
  refine ⟨0, rfl, rfl, by simp, by omega, ⟨HR.out.lt, fun j hj => ?_, HR.out.free⟩, Fp.refl _ _⟩
  rw [HR.out.cell j hj]
  unfold turnF
  rw [if_neg (by omega)]
 case round =>
  obtain ⟨k, hg, rfl, rfl, hk2, hrow, hfp⟩ := hrel
  have HROW := Lib.hid hrow
  have HFP := Lib.hid hfp
  clear hfp
  by_cases hlt : k + 1 + k < n
  ·obtain ⟨m, hm⟩ : ∃ m, m = n - 1 - k := ⟨_, rfl⟩
   have hmi : (n : Int) - 1 - k = (m : Int) := by omega
   have c1 : wr.cell? ⟨b, k, none⟩ = some (byteV (f k)) := by rw [hrow.cell k (by omega), turnF_lo (by omega)]
   have c2 : wr.cell? ⟨b, m, none⟩ = some (byteV (f m)) := by rw [hrow.cell m (by omega), hm, turnF_hi (by omega)]
   have f1 : wr.frozen? ⟨b, k, none⟩ = false := hrow.free k (by omega)
   have f2 : wr.frozen? ⟨b, m, none⟩ = false := hrow.free m (by omega)
   have hne : k ≠ m := by omega
   have hmn : m < n := by omega
   have hkm : k < m := by omega
   have hkn : k < n := by omega
   unfold byteV at c1 c2
   have HM := Lib.hid hm
   rw [hmi]
   have HMI := Lib.hid hmi
   clear hrow hm hmi
   have hkm1 : (k : Int) < (m : Int) := by omega
   go_wp2_with (fail)
   go_region
   go_wp2_with (fail)
   go_roundg (gk - 1)
   case measure => omega
   case rel =>
    refine ⟨k + 1, by omega, by go_num, ?_, by omega, ⟨?_, ?_, ?_⟩, ?_⟩
    ·have := HMI.out
     congr 1
     omega
    ·simpa [World.setCell] using HROW.out.lt
    ·intro j hj
     have hc := HROW.out.cell j hj
     show ((wr.setCell ⟨b, k, none⟩ _).setCell ⟨b, m, none⟩ _).cell? ⟨b, j, none⟩ = _
     by_cases e1 : j = m
     ·subst e1
      have c3 : (wr.setCell ⟨b, k, none⟩ (.int .u8 (f j).toNat)).cell? ⟨b, j, none⟩ = some (.int .u8 (f j).toNat) := by
       rw [World.cell?_setCell_other _ _ _ _ (fun e => hne (congrArg Addr.off e))]; exact c2
      rw [World.cell?_setCell_same _ _ _ c3]
      unfold turnF byteV
      rw [if_pos (by have := HM.out; omega), show n - 1 - j = k by have := HM.out; omega]
     ·rw [World.cell?_setCell_other _ _ _ _ (fun e => e1 (congrArg Addr.off e).symm)]
      by_cases e2 : j = k
      ·subst e2
       rw [World.cell?_setCell_same _ _ _ c1]
       unfold turnF byteV
       rw [if_pos (by omega), show n - 1 - j = m by have := HM.out; omega]
      ·rw [World.cell?_setCell_other _ _ _ _ (fun e => e2 (congrArg Addr.off e).symm), hc]
       have hmm := HM.out
       unfold turnF
       by_cases e3 : j < k ∨ n - k ≤ j
       ·rw [if_pos e3, if_pos (by omega)]
       ·rw [if_neg e3, if_neg (by omega)]
    ·intro j hj
     show ((wr.setCell ⟨b, k, none⟩ _).setCell ⟨b, m, none⟩ _).frozen? ⟨b, j, none⟩ = _
     rw [World.frozen?_setCell, World.frozen?_setCell]
     exact HROW.out.free j hj
    ·exact (((HFP.out.setCell' (by simp) _).setCell' (by simp) _).drew')
  ·have H : Hid (BRow wr b n (fun t => f (n - 1 - t))) := by
    refine ⟨HROW.out.lt, fun j hj => ?_, HROW.out.free⟩
    rw [HROW.out.cell j hj]
    unfold turnF
    by_cases e : j < k ∨ n - k ≤ j
    ·rw [if_pos e]
    ·rw [if_neg e, show n - 1 - j = j by omega]
   have hge : ¬ (k : Int) < (n : Int) - 1 - k := by omega
   clear hrow hlt
   go_wp2_with (fail)
   go_end0
   exact ⟨rfl, H.out, HFP.out⟩
def atB (s : ByteArray) (j : Nat) : UInt8 := s.data.toList.getD j 0
theorem bytes_brow (w : World) (s : ByteArray) : ∃ cap W, (convert 9 67 (.string s)).run Tryz.prog w = .ok (.slice (some ⟨w.heap.size, 0, none⟩) s.size cap) W ∧ BRow W w.heap.size s.size (atB s) ∧ Fp [] w W := by
 have h := run_bytes_of_string (P := Tryz.prog) w 9 67 5 s Tryz.underlying9 Tryz.underlying67 Tryz.underlying5
 refine ⟨_, _, h, ?_, (Fp.drew w).alloc' _⟩
 have hb := heap_alloc_at (w := w.drew) (n := w.heap.size) rfl (.cells (bytesRow s (grownCap w s.size 0 5)) 5 ((bytesRow s (grownCap w s.size 0 5)).size, (bytesRow s (grownCap w s.size 0 5)).size + 1))
 refine ⟨heap_lt hb, fun j hj => ?_, fun j hj => ?_⟩
 ·rw [cell_of_block hb, bytesRow_at s _ j hj]
  unfold byteV atB
  have : s.data.toList.getD j 0 = s.data[j] := by
   rw [List.getD_eq_getElem?_getD, List.getElem?_eq_getElem (by simpa using hj)]
   simp
  rw [this]
 ·have hsz : s.size ≤ (bytesRow s (grownCap w s.size 0 5)).size := by
   unfold bytesRow
   simp only [Array.size_append, Array.size_map, Array.size_replicate]
   exact Nat.le_add_right _ _
  simp only [World.frozen?, hb]
  have : ¬ (bytesRow s (grownCap w s.size 0 5)).size ≤ j := by omega
  simp [this]
theorem str_of_brow {w : World} {b n cap : Nat} {f : Nat → UInt8} (h : BRow w b n f) : (convert 67 9 (.slice (some ⟨b, 0, none⟩) n cap)).run Tryz.prog w = .ok (.string ⟨((List.range n).map f).toArray⟩) w := by
 have := run_convert_bytes_back (P := Tryz.prog) w 67 9 5 ⟨b, 0, none⟩ cap ((List.range n).map f) Tryz.underlying67 Tryz.underlying5 Tryz.underlying9 (by
  intro j hj
  have hj' : j < n := by simpa using hj
  have e1 : (⟨b, 0, none⟩ : Addr).add j = ⟨b, j, none⟩ := by unfold Addr.add; split <;> simp_all
  rw [e1, h.cell j hj']
  simp [byteV])
 simpa using this
theorem atB_rev (s : ByteArray) : ((List.range s.size).map (fun t => atB s (s.size - 1 - t))) = s.data.toList.reverse := by
 apply List.ext_getElem
 ·simp
 ·intro i h1 h2
  have hi : i < s.data.toList.length := by simpa using h1
  have hi' : i < s.size := by simpa using h1
  simp only [List.getElem_map, List.getElem_range, List.getElem_reverse]
  unfold atB
  have hlen : s.data.toList.length = s.size := rfl
  rw [List.getD_eq_getElem?_getD, List.getElem?_eq_getElem (by omega)]
  simp only [Option.getD_some]
  congr 1
theorem turned_any (w : World) (s : ByteArray) (hs : s.size ≤ 1000000000) :
  Calls Tryz.prog 155 #[.string s] w fun e w' => e = .returned (.string ⟨s.data.toList.reverse.toArray⟩) ∧ Fp [] w w' := by
 obtain ⟨cap, W, hconv, hrow, hfp⟩ := bytes_brow w s
 have hrev := reverse_any W w.heap.size s.size cap (atB s) hrow hs
 have HREV := Lib.hid hrev
 have HFP := Lib.hid hfp
 clear hrow hfp hrev
 go_enter Tryz.func155, Tryz.ntmps155
 go_wp2_with (fail)
 refine HREV.out.mono ?_
 rintro e w2 ⟨rfl, hrow2, hf2⟩
 have hstr := str_of_brow (cap := cap) hrow2
 rw [atB_rev] at hstr
 have HF2 := Lib.hid (HFP.out.trans hf2 (by simp))
 clear hrow2 hf2
 go_wp2_with (fail)
 go_ret
 exact ⟨rfl, HF2.out⟩
theorem big_any (w : World) (base : Nat) (v : Value) (l : List UInt8) (n : Nat) (hown : Owned w base v l) (hb : base ≤ w.heap.size) (hl : l.length ≤ 1000000) (hn : n < 18446744073709551616) :
  Calls Tryz.prog 213 #[v, .int .u64 n] w fun e w' => ∃ v', e = .returned v' ∧ Owned w' base v' (l ++ be8 n) ∧ Below base w w' := by
 have hli := little_any w w.heap.size (.slice none 0 0) [] n (Owned.nil _ _) (Nat.le_refl _) (by simp) hn
 have HLI := Lib.hid hli
 have HO := Lib.hid hown
 clear hli hown hn
 go_enter Tryz.func213, Tryz.ntmps213
 go_wp2_with (fail)
 refine HLI.out.mono ?_
 rintro e w2 ⟨v2, rfl, ho2, hb2⟩
 have hstr := run_str_of ho2
 rw [List.nil_append] at hstr
 have hf2 : Fp [] w w2 := ⟨hb2.os, hb2.tape, hb2.output, hb2.size, fun k hk _ => hb2.block k hk⟩
 have HO2 := Lib.hid (HO.out.fp hf2)
 have HF2 := Lib.hid hf2
 clear ho2 hb2 hf2
 go_wp2_with (fail)
 refine (turned_any w2 _ (by show (le8 n).toArray.size ≤ _; simp [le8_length])).mono ?_
 rintro e w3 ⟨rfl, hf3⟩
 have HO3 := Lib.hid (HO2.out.fp hf3)
 have HF3 := Lib.hid (HF2.out.trans hf3 (by simp))
 have hbw : base ≤ w3.heap.size := by have := HF3.out.size; omega
 have hbs : l.length + (⟨(le8 n).reverse.toArray⟩ : ByteArray).size ≤ 1000000000 := by
  show l.length + (le8 n).reverse.toArray.size ≤ _
  simp [le8_length]; omega
 have HBS := Lib.hid hbs
 clear hf3 hstr hbs
 go_wp2_with (at_builtin; refine wpList_append_str rfl _ _ rfl base _ _ rfl HO3.out _ rfl HBS.out hbw ?_; intro v4 w4 hown4 hbel4)
 have HO4 := Lib.hid hown4
 have HB4 := Lib.hid hbel4
 clear hown4 hbel4
 go_wp2_with (fail)
 go_ret
 exact ⟨_, rfl, HO4.out, (HF3.out.below hb (by simp)).trans HB4.out⟩
end
section
open Go.RowKit
theorem grow_any (w : World) (n : Nat) (hn : n ≤ 1000000000) :
  Calls Tryz.prog 139 #[.slice none 0 0, .int .i64 n] w fun e w' => ∃ v', e = .returned v' ∧ Owned w' w.heap.size v' [] ∧ Fp [] w w' := by
 by_cases h0 : n = 0
 ·subst h0
  go_enter Tryz.func139, Tryz.ntmps139
  go_wp2_with (fail)
  go_ret
  exact ⟨_, rfl, Owned.nil _ _, Fp.refl _ _⟩
 ·obtain ⟨i0, hi, hz0, hz1, hz2⟩ := info_parts Tryz.info5
  have hpos : 0 < n := by omega
  have happ := Lib.run_append_nil_zeros (P := Tryz.prog) w 67 3 67 5 i0 (.int .u8 0) .i64 .i64 Tryz.underlying67 Tryz.underlying3 hi hz0 n hpos (by rw [hz1]; decide) (by omega) (by rw [hz2]; omega)
  have hge := grownCap_ge w n 0 5
  have hle := grownCap_le_maxLen w n 0 5 (by unfold maxLen; omega)
  obtain ⟨cp, hcp⟩ : ∃ cp, cp = grownCap w n 0 5 := ⟨_, rfl⟩
  rw [← hcp] at happ hge hle
  clear hcp hi hz0 hz1 hz2 h0
  obtain ⟨W, hW⟩ : ∃ W, W = (w.drew.alloc (.cells (Builtin.zeroCells (Value.int .u8 0).cells n ++ Builtin.zeroCells (Value.int .u8 0).cells (cp - n)) 5)) := ⟨_, rfl⟩
  rw [← hW] at happ
  have hf : Fp [] w W := by rw [hW]; exact (Fp.drew w).alloc' _
  have ho : Owned W w.heap.size (.slice (some ⟨w.heap.size, 0, none⟩) 0 cp) [] := by
   refine ⟨rfl, Or.inr ⟨w.heap.size, cp, _, rfl, Nat.le_refl _, by rw [hW]; exact heap_alloc_at (w := w.drew) rfl _, Nat.zero_le _, hle, ?_, by simp⟩⟩
   simp [Builtin.zeroCells, Value.cells]
   omega
  have HO := Lib.hid ho
  have HF := Lib.hid hf
  have HA := Lib.hid happ
  clear ho hf hW happ
  go_enter Tryz.func139, Tryz.ntmps139
  go_wp2_with (at_builtin; refine Lib.wpList_append_run _ rfl _ _ _ _ rfl _ _ rfl rfl _ _ HA.out ?_)
  go_ret
  exact ⟨_, rfl, HO.out, HF.out⟩
def Reads (w : World) (v : Value) (l : List UInt8) : Prop :=
 (v = .slice none 0 0 ∧ l = []) ∨ ∃ b off cap, v = .slice (some ⟨b, off, none⟩) l.length cap ∧ b < w.heap.size ∧ ∀ j (h : j < l.length), w.cell? ⟨b, off + j, none⟩ = some (byteV l[j])
theorem Reads.fp {w w' : World} {v : Value} {l : List UInt8} (h : Reads w v l) (hf : Fp [] w w') : Reads w' v l := by
 rcases h with h | ⟨b, off, cap, h1, h2, h3⟩
 ·exact Or.inl h
 ·exact Or.inr ⟨b, off, cap, h1, Nat.lt_of_lt_of_le h2 hf.size, fun j hj => by rw [hf.cell h2 (by simp)]; exact h3 j hj⟩
theorem Owned.reads {w : World} {base : Nat} {v : Value} {l : List UInt8} (h : Owned w base v l) : Reads w v l := by
 obtain ⟨h1, h2⟩ := h
 rcases h2 with ⟨rfl, h0⟩ | ⟨g, cap, cur, rfl, hg, hh, hn, hm, hs, ht⟩
 ·exact Or.inl ⟨rfl, List.eq_nil_of_length_eq_zero h0⟩
 ·refine Or.inr ⟨g, 0, cap, rfl, heap_lt hh, fun j hj => ?_⟩
  rw [Nat.zero_add, cell_of_block hh]
  have h3 : (cur.toList.take (l.length * 1))[j]? = (l.map byteV)[j]? := by rw [ht]
  rw [List.getElem?_take, if_pos (by omega), List.getElem?_map, List.getElem?_eq_getElem hj] at h3
  simpa using h3
theorem wpList_append_reads {w : World} {ops : Array Oper} {rest : List Oper} {o : Oper} {a : Act} {Q : Exit → Act → World → Prop} (hgd : o.guard = none) (s x : Operand)
  (ho : o.op = .call { callee := .builtin .append, args := #[s, x], argTypes := #[67, 67] }) (base : Nat) (v : Value) (l : List UInt8) (hs : a.eval s = v) (hown : Owned w base v l)
  (vx : Value) (bs : List UInt8) (hx : a.eval x = vx) (hr : Reads w vx bs) (hlen : l.length + bs.length ≤ 1000000000) (hbase : base ≤ w.heap.size)
  (h : ∀ v' w', Owned w' base v' (l ++ bs) → Below base w w' → wpList Tryz.prog ops Q rest (a.put o.dst v') w') : wpList Tryz.prog ops Q (o :: rest) a w := by
 obtain ⟨i0, hi, hz0, hz1, hz2⟩ := info_parts Tryz.info5
 rcases hr with ⟨rfl, rfl⟩ | ⟨b, off, cap, rfl, _, hn⟩
 ·refine wpList_append_own_none hgd s x 67 ho base 5 i0 1 Tryz.underlying67 hi v l.length (l.map byteV) hs hown hx ?_
  exact h v w (by rw [List.append_nil]; exact hown) (Below.refl _ _)
 ·exact wpList_append_bytes hgd s x ho base v l hs hown b off bs.length cap bs hx rfl hn hlen hbase h
structure RowsAt (w : World) (sb : Nat) (vs : List Value) (ls : List (List UInt8)) : Prop where
 blk : w.heap[sb]? = some (.cells vs.toArray 67 (0, 0))
 len : vs.length = ls.length
 row : ∀ i (h : i < vs.length), Reads w vs[i] (ls.getD i [])
theorem RowsAt.fp {w w' : World} {sb : Nat} {vs : List Value} {ls : List (List UInt8)} (h : RowsAt w sb vs ls) (hf : Fp [] w w') : RowsAt w' sb vs ls :=
 ⟨(hf.block sb (heap_lt h.blk) (by simp)).trans h.blk, h.len, fun i hi => (h.row i hi).fp hf⟩
theorem Reads.form {w : World} {v : Value} {l : List UInt8} (h : Reads w v l) : ∃ a cap, v = .slice a l.length cap := by
 rcases h with ⟨rfl, rfl⟩ | ⟨b, off, cap, rfl, _⟩
 ·exact ⟨_, _, rfl⟩
 ·exact ⟨_, _, rfl⟩
def totL (ls : List (List UInt8)) (k : Nat) : Nat := (ls.take k).flatten.length
theorem totL_succ (ls : List (List UInt8)) (k : Nat) (h : k < ls.length) : totL ls (k + 1) = totL ls k + (ls.getD k []).length := by
 unfold totL
 rw [List.take_succ_eq_append_getElem h, List.flatten_append, List.length_append]
 simp [List.getD_eq_getElem?_getD, List.getElem?_eq_getElem h]
theorem totL_le (ls : List (List UInt8)) (k : Nat) : totL ls k ≤ ls.flatten.length := by
 unfold totL
 conv => rhs; rw [← List.take_append_drop k ls, List.flatten_append, List.length_append]
 omega
theorem flat_succ (ls : List (List UInt8)) (k : Nat) (h : k < ls.length) : (ls.take (k + 1)).flatten = (ls.take k).flatten ++ ls.getD k [] := by
 rw [List.take_succ_eq_append_getElem h, List.flatten_append]
 simp [List.getD_eq_getElem?_getD, List.getElem?_eq_getElem h]
theorem concat_any (w : World) (sb : Nat) (vs : List Value) (ls : List (List UInt8)) (hr : RowsAt w sb vs ls) (hn : vs.length ≤ 1000000) (ht : ls.flatten.length ≤ 1000000) :
  Calls Tryz.prog 71 #[.slice (some ⟨sb, 0, none⟩) vs.length vs.length] w fun e w' => ∃ v', e = .returned v' ∧ Owned w' w.heap.size v' ls.flatten ∧ Fp [] w w' := by
 have HR := Lib.hid hr
 have hlen := hr.len
 have HLEN := Lib.hid hlen
 clear hr hlen
 go_enter Tryz.func71, Tryz.ntmps71
 go_wp2_with (fail)
 go_loopg [3, 11] vs.length (fun g vt vi wr => ∃ k : Nat, g + k = vs.length ∧ vi = .int .i64 k ∧ vt = .int .i64 (totL ls k) ∧ w = wr)
 case atStart => exact ⟨0, rfl, rfl, rfl, rfl⟩
 case round =>
  obtain ⟨k, hg, rfl, rfl, rfl⟩ := hrel
  by_cases hk : k < vs.length
  ·obtain ⟨a, cap, hv⟩ := (HR.out.row k hk).form
   have hcell : w.cell? ⟨sb, k, none⟩ = some (.slice a (ls.getD k []).length cap) := by
    rw [cell_of_block HR.out.blk, ← hv]; simp [hk]
   have hts := totL_succ ls k (by rw [← HLEN.out]; exact hk)
   have htl := totL_le ls (k + 1)
   obtain ⟨m, hm⟩ : ∃ m, m = (ls.getD k []).length := ⟨_, rfl⟩
   rw [← hm] at hcell hts
   have HM := Lib.hid hm
   obtain ⟨t, htt⟩ : ∃ t, t = totL ls k := ⟨_, rfl⟩
   rw [← htt] at hts ⊢
   have HTS := Lib.hid hts
   have hbd : t + m ≤ 1000000 := by omega
   clear hv hm hts htl htt
   have hnn : ¬ ((t : Int) + (m : Int)) < 0 := by omega
   go_wp2_with (fail)
   go_roundg (gk - 1)
   case measure => omega
   case rel => exact ⟨k + 1, by omega, by go_num, by rw [HTS.out]; go_num, rfl⟩
  ·have hkl : k = vs.length := by omega
   have htot : totL ls k = ls.flatten.length := by unfold totL; rw [hkl, HLEN.out, List.take_length]
   have hb := htot ▸ ht
   obtain ⟨t, htt⟩ : ∃ t, t = totL ls k := ⟨_, rfl⟩
   rw [← htt] at hb ⊢
   clear htot htt hkl
   go_wp2_with (fail)
   refine (grow_any w t (by omega)).mono ?_
   rintro e w1 ⟨v1, rfl, ho1, hf1⟩
   have HO1 := Lib.hid ho1
   have HF1 := Lib.hid hf1
   clear ho1 hf1
   go_wp2_with (fail)
   go_loopg [6, 27] vs.length (fun g vb vi wx => ∃ k : Nat, g + k = vs.length ∧ vi = .int .i64 k ∧ Owned wx w.heap.size vb (ls.take k).flatten ∧ Fp [] w wx)
   case atStart => exact ⟨0, rfl, rfl, HO1.out, HF1.out⟩
   case round =>
    obtain ⟨k, hg, rfl, ho, hf⟩ := hrel
    have HO := Lib.hid ho
    have HF := Lib.hid hf
    have hbw := hf.size
    clear ho hf
    by_cases hk : k < vs.length
    ·have hR2 := HR.out.fp HF.out
     have hcell : wr.cell? ⟨sb, k, none⟩ = some vs[k] := by
      have := cell_of_block hR2.blk k
      rw [this]; simp [hk]
     have HRD := Lib.hid (hR2.row k hk)
     have HFS := Lib.hid (flat_succ ls k (by rw [← HLEN.out]; exact hk))
     have hL : (ls.take k).flatten.length + (ls.getD k []).length ≤ 1000000000 := by
      have h1 := totL_succ ls k (by rw [← HLEN.out]; exact hk)
      have h2 := totL_le ls (k + 1)
      unfold totL at h1 h2
      omega
     have HL := Lib.hid hL
     obtain ⟨x, hx⟩ : ∃ x, x = vs[k] := ⟨_, rfl⟩
     rw [← hx] at hcell HRD
     clear hR2 hx hL
     go_wp2_with (at_builtin; go_loud (refine wpList_append_reads rfl _ _ rfl w.heap.size _ _ rfl HO.out _ _ rfl HRD.out HL.out hbw ?_); intro v2 w2 hown2 hbel2)
     have HO2 := Lib.hid hown2
     have HF2 := Lib.hid (HF.out.belowTrans hbel2)
     clear hown2 hbel2
     go_wp2_with (fail)
     go_roundg (gk - 1)
     case measure => omega
     case rel => exact ⟨k + 1, by omega, by go_num, by rw [HFS.out]; exact HO2.out, HF2.out⟩
    ·have hkl : k = vs.length := by omega
     have h2 := HO.out
     rw [hkl, HLEN.out, List.take_length] at h2
     have HO2 := Lib.hid h2
     clear h2 hkl
     go_wp2_with (fail)
     go_ret
     exact ⟨_, rfl, HO2.out, HF.out⟩
end
end
section
open Go.RowKit
def M64 : Nat := 18446744073709551615
def keyL (c : Cel) : List UInt8 := esc c.row.data.toList ++ 0 :: 1 :: (esc c.col.data.toList ++ 0 :: 1 :: (be8 (M64 - c.ts) ++ be8 (M64 - c.seq)))
def keyB (c : Cel) : ByteArray := if mayB c = true then ⟨(keyL c).toArray⟩ else ⟨#[]⟩
def keyPre (c : Cel) : Nat → List UInt8
 |0 => []
 |1 => esc c.row.data.toList ++ [0, 1]
 |_ => esc c.row.data.toList ++ [0, 1] ++ esc c.col.data.toList ++ [0, 1]
theorem mayB_true {c : Cel} (h : mayB c = true) : (1 ≤ c.row.size ∧ c.row.size ≤ 40) ∧ (1 ≤ c.col.size ∧ c.col.size ≤ 40) ∧ c.val.size ≤ 100 ∧ (c.del = true → c.val.size = 0) := by
 unfold mayB nmB at h
 simp only [Bool.and_eq_true, decide_eq_true_eq, Bool.or_eq_true, Bool.not_eq_true'] at h
 obtain ⟨⟨⟨h1, h2⟩, h3⟩, h4⟩ := h
 refine ⟨h1, h2, h3, fun hd => ?_⟩
 rcases h4 with h4 | h4
 ·rw [hd] at h4; cases h4
 ·exact h4
theorem two_news (w : World) (x y : UInt8) : ∀ j (h : j < [x, y].length), (w.alloc (.cells #[byteV x, byteV y] 5)).cell? ⟨w.heap.size, 0 + j, none⟩ = some (byteV [x, y][j]) := by
 intro j hj
 have h2 : j = 0 ∨ j = 1 := by have : j < 2 := hj; omega
 rcases h2 with rfl | rfl
 ·exact cell_of_block (heap_alloc_at rfl _) 0
 ·exact cell_of_block (heap_alloc_at rfl _) 1
theorem esc_size (s : ByteArray) : (⟨(esc s.data.toList).toArray⟩ : ByteArray).size ≤ 2 * s.size := by
 have h := esc_length s.data.toList
 rw [← Lib.size_eq] at h
 show (esc s.data.toList).toArray.size ≤ _
 simpa using h
theorem keyPre_length (c : Cel) (k : Nat) (hr : c.row.size ≤ 40) (hc : c.col.size ≤ 40) : (keyPre c k).length ≤ 200 := by
 have h1 := esc_length c.row.data.toList
 have h2 := esc_length c.col.data.toList
 rw [← Lib.size_eq] at h1 h2
 unfold keyPre
 split <;> simp only [List.length_append, List.length_cons, List.length_nil] <;> omega
theorem keyPre_step0 (c : Cel) {w : World} {b : Nat} {v : Value} (h : Owned w b v (keyPre c 0 ++ (⟨(esc c.row.data.toList).toArray⟩ : ByteArray).data.toList ++ [0, 1])) : Owned w b v (keyPre c (0 + 1)) := h
theorem keyPre_step1 (c : Cel) {w : World} {b : Nat} {v : Value} (h : Owned w b v (keyPre c 1 ++ (⟨(esc c.col.data.toList).toArray⟩ : ByteArray).data.toList ++ [0, 1])) : Owned w b v (keyPre c (1 + 1)) := h
theorem not_u64 (a : Nat) (h : a < 18446744073709551616) : bits .xor .u64 IntKind.u64.max (a : Int) = ((M64 - a : Nat) : Int) := by
 have h1 := BitVec.toNat_not (x := BitVec.ofNat 64 a)
 rw [BitVec.not_def, BitVec.toNat_xor, BitVec.toNat_allOnes, BitVec.toNat_ofNat, Nat.mod_eq_of_lt h] at h1
 have h2 := bits_xor_u64_nat 18446744073709551615 a (by decide) h
 have h3 : (18446744073709551615 : Nat) ^^^ a = M64 - a := h1
 rw [h3] at h2
 exact h2
theorem keyPre_all (c : Cel) : keyPre c 2 ++ be8 (M64 - c.ts) ++ be8 (M64 - c.seq) = keyL c := by
 unfold keyPre keyL; simp
theorem esc_any (s : ByteArray) (w : World) (hm : MaxAt w) (hs : s.size ≤ 1000) :
  Calls Tryz.prog 153 #[.string s, .string ⟨#[0]⟩, .string ⟨#[0, 255]⟩] w fun e w' => e = .returned (.string ⟨(esc s.data.toList).toArray⟩) ∧ Fp [] w w' := by
 obtain ⟨m, hm⟩ := hm
 have hcb : Lib.countB s ⟨#[0]⟩ ≤ s.size := Lib.countB_le ⟨#[0]⟩ (by decide) s.size s (Nat.le_refl _)
 have h2 : (⟨#[0, 255]⟩ : ByteArray).size = 2 := rfl
 refine (Tryz.strings_ReplaceAll s ⟨#[0]⟩ ⟨#[0, 255]⟩ m w (by omega) hm (by decide) (by rw [h2]; omega)).mono ?_
 rintro e w' ⟨rfl, hb⟩
 exact ⟨by rw [← repl_esc], Below.toFp hb⟩
theorem index_two0 (a b : ByteArray) (w : World) : (Instr.index 256 (.agg #[.string a, .string b]) (.int .i64 0)).run Tryz.prog w = .ok (.string a) w := by
 simp [Instr.index, run_underlying Tryz.underlying256, asIntOf, go_sem]
theorem index_two1 (a b : ByteArray) (w : World) : (Instr.index 256 (.agg #[.string a, .string b]) (.int .i64 1)).run Tryz.prog w = .ok (.string b) w := by
 simp [Instr.index, run_underlying Tryz.underlying256, asIntOf, go_sem]
theorem key_no (c : Cel) (w : World) (hc : CelOK c) (hmay : mayB c = false) : Calls Tryz.prog 156 #[cellV c] w fun e w' => e = .returned (.string ⟨#[]⟩) ∧ Fp [] w w' := by
 have n1 := fun w => may_any c w hc
 rw [hmay] at n1
 unfold cellV at n1 ⊢
 have N1 := Lib.hid n1
 clear n1 hmay
 go_enter Tryz.func156, Tryz.ntmps156
 go_wp2_with (fail)
 refine (N1.out _).mono ?_
 rintro e w1 ⟨rfl, hf1⟩
 have HF1 := Lib.hid hf1
 clear hf1
 go_wp2_with (fail)
 go_ret
 exact ⟨rfl, (Fp.alloc w _).trans HF1.out (by simp)⟩
theorem key_yes (c : Cel) (w : World) (hc : CelOK c) (hmay : mayB c = true) (hm : MaxAt w) : Calls Tryz.prog 156 #[cellV c] w fun e w' => e = .returned (.string ⟨(keyL c).toArray⟩) ∧ Fp [] w w' := by
 have n1 := fun w => may_any c w hc
 obtain ⟨hr, hk, _⟩ := mayB_true hmay
 rw [hmay] at n1
 have ht := hc.ts
 have hq := hc.seq
 unfold cellV at n1 ⊢
 have N1 := Lib.hid n1
 have HM := Lib.hid hm
 clear n1 hmay hm
 obtain ⟨W, hW⟩ : ∃ W, W = w.alloc (.cells #[.string c.row, .string c.col, .int .u64 c.ts, .int .u64 c.seq, .bool c.del, .string c.val] 24) := ⟨_, rfl⟩
 have hb : W.heap[w.heap.size]? = some (.cells #[.string c.row, .string c.col, .int .u64 c.ts, .int .u64 c.seq, .bool c.del, .string c.val] 24 (0, 0)) := by
  rw [hW]; exact heap_alloc_at rfl _
 have hfw : Fp [] w W := by rw [hW]; exact Fp.alloc _ _
 have hcell : ∀ w', Fp [] W w' → w'.cell? ⟨w.heap.size, 0, none⟩ = some (.string c.row) ∧ w'.cell? ⟨w.heap.size, 1, none⟩ = some (.string c.col) ∧ w'.cell? ⟨w.heap.size, 2, none⟩ = some (.int .u64 c.ts) ∧ w'.cell? ⟨w.heap.size, 3, none⟩ = some (.int .u64 c.seq) ∧ w.heap.size < w'.heap.size := by
  intro w' hf
  have h1 := (hf.block _ (heap_lt hb) (by simp)).trans hb
  exact ⟨cell_of_block h1 0, cell_of_block h1 1, cell_of_block h1 2, cell_of_block h1 3, heap_lt h1⟩
 have HCELL := Lib.hid hcell
 have HFW := Lib.hid hfw
 have HW := Lib.hid hW
 have HMM := Lib.hid (MaxAt.fp HM.out hfw (by simp))
 clear hcell hfw hb hW
 go_enter Tryz.func156, Tryz.ntmps156
 go_wp2_with (fail)
 rw [← HW.out]
 refine (N1.out _).mono ?_
 rintro e w1 ⟨rfl, hf1⟩
 have HF1 := Lib.hid hf1
 obtain ⟨c0, c1, -, -, hlt⟩ := HCELL.out _ hf1
 clear hf1
 go_wp2_with (fail)
 have HLT := Lib.hid hlt
 have hw1 : W.heap.size ≤ w1.heap.size := HF1.out.size
 have hwW : W.heap.size = w.heap.size + 1 := by rw [HW.out]; simp
 clear c0 c1 hlt
 go_loopg [3, 15] 2 (fun g vb vi wr => ∃ k : Nat, g + k = 2 ∧ vi = .int .i64 k ∧ Owned wr W.heap.size vb (keyPre c k) ∧ Fp [] W wr)
 case atStart =>
  refine ⟨0, rfl, rfl, ?_, HF1.out.alloc' _⟩
  exact Owned.made w1 W.heap.size [] (by omega) (by decide)
 case round =>
  obtain ⟨k, hg, rfl, ho, hf⟩ := hrel
  have HO := Lib.hid ho
  have HF := Lib.hid hf
  clear ho hf
  have h3 : k = 0 ∨ k = 1 ∨ k = 2 := by omega
  rcases h3 with rfl | rfl | rfl
  ·rw [show ((0 : Nat) : Int) = 0 from rfl]
   have hx := fun w => index_two0 c.row c.col w
   go_wp2_with (fail)
   refine (esc_any c.row _ (HMM.out.fp HF.out (by simp)) (by omega)).mono ?_
   rintro e w2 ⟨rfl, hf2⟩
   have HF2 := Lib.hid (HF.out.trans hf2 (by simp))
   have HO2 := Lib.hid (HO.out.fp hf2)
   have hb2 : W.heap.size ≤ w2.heap.size := by have := HF2.out.size; omega
   have hlen : (keyPre c 0).length + (⟨(esc c.row.data.toList).toArray⟩ : ByteArray).size ≤ 1000000000 := by
    have := keyPre_length c 0 hr.2 hk.2
    have := esc_size c.row
    omega
   have HL := Lib.hid hlen
   clear hf2 hlen
   have hlen : (keyPre c 0 ++ (⟨(esc c.row.data.toList).toArray⟩ : ByteArray).data.toList).length + 2 ≤ 1000000000 := by
    have h4 := keyPre_length c 0 hr.2 hk.2
    have h5 := esc_length c.row.data.toList
    rw [← Lib.size_eq] at h5
    show (keyPre c 0 ++ esc c.row.data.toList).length + 2 ≤ _
    simp only [List.length_append]
    omega
   have HL3 := Lib.hid hlen
   clear hlen
   go_wp2_with (first
    |(at_builtin; refine wpList_append_str rfl _ _ rfl W.heap.size _ _ rfl HO2.out _ rfl HL.out hb2 ?_; intro v3 w3 hown3 hbel3; have HF3 := Lib.hid (HF2.out.belowTrans hbel3); have hb3 : W.heap.size ≤ w3.heap.size := HF3.out.size; have HO3 := Lib.hid hown3; have HCL := Lib.hid (two_news w3 0 1); clear hown3 hbel3)
    |(at_builtin; refine wpList_append_bytes rfl _ _ rfl W.heap.size _ _ rfl (HO3.out.alloc _) w3.heap.size 0 2 2 [0, 1] rfl rfl HCL.out HL3.out (by simp; omega) ?_; intro v4 w4 hown4 hbel4))
   have HF4 := Lib.hid ((HF3.out.alloc' _).belowTrans hbel4)
   have HO4 := Lib.hid hown4
   clear hown4 hbel4
   go_wp2_with (fail)
   go_roundg (gk - 1)
   case measure => omega
   case rel => exact ⟨1, by omega, by go_num, keyPre_step0 c HO4.out, HF4.out⟩
  ·rw [show ((1 : Nat) : Int) = 1 from rfl]
   have hx := fun w => index_two1 c.row c.col w
   go_wp2_with (fail)
   refine (esc_any c.col _ (HMM.out.fp HF.out (by simp)) (by omega)).mono ?_
   rintro e w2 ⟨rfl, hf2⟩
   have HF2 := Lib.hid (HF.out.trans hf2 (by simp))
   have HO2 := Lib.hid (HO.out.fp hf2)
   have hb2 : W.heap.size ≤ w2.heap.size := by have := HF2.out.size; omega
   have hlen : (keyPre c 1).length + (⟨(esc c.col.data.toList).toArray⟩ : ByteArray).size ≤ 1000000000 := by
    have := keyPre_length c 1 hr.2 hk.2
    have := esc_size c.col
    omega
   have HL := Lib.hid hlen
   clear hf2 hlen
   have hlen : (keyPre c 1 ++ (⟨(esc c.col.data.toList).toArray⟩ : ByteArray).data.toList).length + 2 ≤ 1000000000 := by
    have h4 := keyPre_length c 1 hr.2 hk.2
    have h5 := esc_length c.col.data.toList
    rw [← Lib.size_eq] at h5
    show (keyPre c 1 ++ esc c.col.data.toList).length + 2 ≤ _
    simp only [List.length_append]
    omega
   have HL3 := Lib.hid hlen
   clear hlen
   go_wp2_with (first
    |(at_builtin; refine wpList_append_str rfl _ _ rfl W.heap.size _ _ rfl HO2.out _ rfl HL.out hb2 ?_; intro v3 w3 hown3 hbel3; have HF3 := Lib.hid (HF2.out.belowTrans hbel3); have hb3 : W.heap.size ≤ w3.heap.size := HF3.out.size; have HO3 := Lib.hid hown3; have HCL := Lib.hid (two_news w3 0 1); clear hown3 hbel3)
    |(at_builtin; refine wpList_append_bytes rfl _ _ rfl W.heap.size _ _ rfl (HO3.out.alloc _) w3.heap.size 0 2 2 [0, 1] rfl rfl HCL.out HL3.out (by simp; omega) ?_; intro v4 w4 hown4 hbel4))
   have HF4 := Lib.hid ((HF3.out.alloc' _).belowTrans hbel4)
   have HO4 := Lib.hid hown4
   clear hown4 hbel4
   go_wp2_with (fail)
   go_roundg (gk - 1)
   case measure => omega
   case rel => exact ⟨2, by omega, by go_num, keyPre_step1 c HO4.out, HF4.out⟩
  ·obtain ⟨-, -, c2, c3, hlt⟩ := HCELL.out _ HF.out
   have hbw : W.heap.size ≤ wr.heap.size := HF.out.size
   have NX := Lib.hid (not_u64 c.ts ht)
   have NY := Lib.hid (not_u64 c.seq hq)
   go_wp2_with (fail)
   rw [NX.out]
   refine (big_any wr W.heap.size _ _ (M64 - c.ts) HO.out hbw (by have := keyPre_length c 2 hr.2 hk.2; omega) (by unfold M64; omega)).mono ?_
   rintro e w5 ⟨v5, rfl, ho5, hb5⟩
   have HO5 := Lib.hid ho5
   have hf5 := HF.out.belowTrans hb5
   have HF5 := Lib.hid hf5
   have hbw5 : W.heap.size ≤ w5.heap.size := hf5.size
   obtain ⟨-, -, d2, d3, hlt5⟩ := HCELL.out _ hf5
   clear ho5 hb5 hf5 c2 c3
   go_wp2_with (fail)
   rw [NY.out]
   refine (big_any w5 W.heap.size _ _ (M64 - c.seq) HO5.out hbw5 (by have := keyPre_length c 2 hr.2 hk.2; simp only [List.length_append, be8, List.length_reverse, le8_length]; omega) (by unfold M64; omega)).mono ?_
   rintro e w6 ⟨v6, rfl, ho6, hb6⟩
   have HF6 := Lib.hid (HF5.out.belowTrans hb6)
   have hs := run_str_of ho6
   clear ho6 hb6 d2 d3
   go_wp2_with (fail)
   go_ret
   exact ⟨ret_str (by rw [← keyPre_all, List.append_assoc]), HFW.out.trans HF6.out (by simp)⟩
end
section
section
open Go.RowKit
def leN (s : ByteArray) : Nat → Nat
 |0 => 0
 |k + 1 => leN s k + (atB s k).toNat * 256 ^ k
theorem leN_lt (s : ByteArray) : ∀ k, leN s k < 256 ^ k
 |0 => Nat.one_pos
 |k + 1 => by
  have h1 := leN_lt s k
  have h2 := (atB s k).toNat_lt
  show leN s k + (atB s k).toNat * 256 ^ k < 256 ^ (k + 1)
  have h3 : (atB s k).toNat * 256 ^ k ≤ 255 * 256 ^ k := Nat.mul_le_mul_right _ (by omega)
  rw [Nat.pow_succ]
  omega
theorem leN_or (s : ByteArray) (k : Nat) : leN s k ||| ((atB s k).toNat * 256 ^ k) = leN s (k + 1) := by
 have h1 := leN_lt s k
 have h2 : (256 : Nat) ^ k = 2 ^ (8 * k) := by rw [Nat.pow_mul]
 rw [h2] at h1 ⊢
 have h3 := Nat.two_pow_add_eq_or_of_lt h1 (atB s k).toNat
 show _ = leN s k + (atB s k).toNat * 256 ^ k
 rw [h2, Nat.or_comm, Nat.mul_comm, ← h3]
 omega
theorem or_step {s : ByteArray} {k : Nat} (hks : k < s.size) (hk : k < 8) :
  bits .or .u64 (leN s k : Int) (IntKind.u64.wrap (IntKind.u64.wrap (s[k].toNat : Int) * 2 ^ (8 * k))) = (leN s (k + 1) : Int) := by
 have h0 : s[k].toNat < 256 := s[k].toNat_lt
 have e1 : atB s k = s[k] := by
  unfold atB
  rw [List.getD_eq_getElem?_getD, List.getElem?_eq_getElem (by simpa using hks)]
  simp
  rfl
 have h1 := leN_lt s k
 have h2 := leN_lt s (k + 1)
 have h3 := leN_or s k
 rw [e1] at h3
 have h4 : (256 : Nat) ^ k = 2 ^ (8 * k) := by rw [Nat.pow_mul]
 have h5 : (256 : Nat) ^ (k + 1) ≤ 256 ^ 8 := Nat.pow_le_pow_right (by decide) (by omega)
 have h6 : (256 : Nat) ^ 8 = 18446744073709551616 := by decide
 have h7 : s[k].toNat * 256 ^ k < 18446744073709551616 := by
  have : leN s (k + 1) = leN s k + s[k].toNat * 256 ^ k := by rw [← e1]; rfl
  omega
 have w1 : IntKind.u64.wrap (s[k].toNat : Int) = (s[k].toNat : Int) := by rw [IntKind.wrap_u64]; omega
 have w2 : ((s[k].toNat : Int) * 2 ^ (8 * k)) = ((s[k].toNat * 256 ^ k : Nat) : Int) := by
  rw [h4]; push_cast; rfl
 rw [w1, w2, IntKind.wrap_u64, show ((s[k].toNat * 256 ^ k : Nat) : Int) % 18446744073709551616 = ((s[k].toNat * 256 ^ k : Nat) : Int) by omega]
 have h8 : (256 : Nat) ^ k ≤ 256 ^ 8 := Nat.pow_le_pow_right (by decide) (by omega)
 rw [bits_or_u64_nat _ _ (by omega) h7, h3]
theorem number_any (w : World) (s : ByteArray) (hs : 8 ≤ s.size) (hs2 : s.size ≤ 9223372036854775807) :
  Calls Tryz.prog 154 #[.string s] w fun e w' => e = .returned (.int .u64 (leN s 8)) ∧ Fp [] w w' := by
 go_enter Tryz.func154, Tryz.ntmps154
 go_wp2
 go_loopg [2, 4] 8 (fun g n i wr => ∃ k : Nat, g + k = 8 ∧ n = .int .u64 (leN s k) ∧ i = .int .i64 k ∧ Fp [] w wr)
 case atStart => exact ⟨0, rfl, rfl, rfl, Fp.refl _ _⟩
 case round =>
  obtain ⟨k, hg, rfl, rfl, hf⟩ := hrel
  have HF := Lib.hid hf
  clear hf
  by_cases hk : k < 8
  ·have hks : k < s.size := by omega
   go_wp2_with (fail)
   go_roundg (gk - 1)
   case measure => omega
   case rel => exact ⟨k + 1, by omega, by rw [or_step hks hk], by go_num, HF.out⟩
  ·obtain rfl : k = 8 := by omega
   go_wp2_with (fail)
   go_ret
   exact ⟨rfl, HF.out⟩
end
section
open Go.RowKit
end
section
open Go.RowKit
end
end
section
open Go.RowKit
theorem byteV_ofNat {n : Nat} (h : n < 256) : byteV (UInt8.ofNat n) = .int .u8 n := by
 unfold byteV
 rw [UInt8.toNat_ofNat', Nat.mod_eq_of_lt h]
theorem wp_append_reads {w : World} {o : Oper} {a : Act} {K : Act → World → Prop} {Q : Exit → Act → World → Prop} (s x : Operand)
  (ho : o.op = .call { callee := .builtin .append, args := #[s, x], argTypes := #[67, 67] }) (base : Nat) (v : Value) (l : List UInt8) (hs : a.eval s = v) (hown : Owned w base v l)
  (vx : Value) (bs : List UInt8) (hx : a.eval x = vx) (hr : Reads w vx bs) (hlen : l.length + bs.length ≤ 1000000000) (hbase : base ≤ w.heap.size)
  (h : ∀ v' w', Owned w' base v' (l ++ bs) → Below base w w' → K (a.put o.dst v') w') : o.wp Tryz.prog a w K Q := by
 obtain ⟨i0, hi, hz0, hz1, hz2⟩ := info_parts Tryz.info5
 rcases hr with ⟨rfl, rfl⟩ | ⟨b, off, cap, rfl, _, hn⟩
 ·have hrun := run_append_owned_none (P := Tryz.prog) (w := w) base 67 o.type 5 i0 1 Tryz.underlying67 hi v l.length (l.map byteV) hown
  unfold Oper.wp
  simp only [execOp, ho, resolve, invoke, builtin, Sem.run_bind, Sem.run_pure, Result.andThen_ok, List.map_toArray, List.map_cons, List.map_nil, hs, hx, hrun]
  exact h v w (by rw [List.append_nil]; exact hown) (Below.refl _ _)
 ·refine wp_append_own (P := Tryz.prog) w s x 67 ho base 5 i0 (.int .u8 0) 1 1 Tryz.underlying67 hi hz0 hz1 hz2 rfl (by decide) v l.length (l.map byteV) hs hown ⟨b, off, none⟩ bs.length cap (bs.map byteV) hx (by simp) ?_ (bytes_oneCell bs) (by unfold maxLen; omega) (by omega) hbase ?_
  ·intro j u hu
   rw [List.getElem?_map] at hu
   cases hj : bs[j]? with
   |none => rw [hj] at hu; cases hu
   |some y =>
    rw [hj] at hu
    simp only [Option.map_some, Option.some.injEq] at hu
    subst hu
    have hlt := (List.getElem?_eq_some_iff.1 hj).1
    have e1 : (⟨b, off, none⟩ : Addr).add j = ⟨b, off + j, none⟩ := by unfold Addr.add; split <;> simp_all
    rw [e1, hn j hlt]
    obtain ⟨_, e2⟩ := List.getElem?_eq_some_iff.1 hj
    rw [e2]
  ·intro v' w' h1 h2 _
   refine h v' w' ?_ (grown_below hown h2 hbase)
   unfold Owned
   rw [List.length_append, List.map_append]
   exact h1
theorem step_bytes {w : World} {ops : Array Oper} {o : Oper} {a : Act} {K : Act → World → Prop} {Q : Exit → Act → World → Prop} {E : Prop} (hgd : o.guard = none) (s x : Operand)
  (ho : o.op = .call { callee := .builtin .append, args := #[s, x], argTypes := #[67, 67] }) (base : Nat) (v : Value) (l : List UInt8) (hs : a.eval s = v) (hown : Owned w base v l)
  (vx : Value) (bs : List UInt8) (hx : a.eval x = vx) (hr : Reads w vx bs) (hlen : l.length + bs.length ≤ 1000000000) (hbase : base ≤ w.heap.size)
  (h : ∀ v' w', Owned w' base v' (l ++ bs) → Below base w w' → K (a.put o.dst v') w') : if Region.wanted o (yielded ops a.tmps) = true then Oper.wp Tryz.prog o a w K Q else E := by
 rw [if_pos (by simp [Region.wanted, hgd])]
 exact wp_append_reads s x ho base v l hs hown vx bs hx hr hlen hbase h
theorem step_str {w : World} {ops : Array Oper} {o : Oper} {a : Act} {K : Act → World → Prop} {Q : Exit → Act → World → Prop} {E : Prop} (hgd : o.guard = none) (sl x : Operand)
  (ho : o.op = .call { callee := .builtin .append, args := #[sl, x], argTypes := #[67, 9] }) (base : Nat) (v : Value) (l : List UInt8) (hs : a.eval sl = v) (hown : Owned w base v l) (s : ByteArray) (hx : a.eval x = .string s)
  (hlen : l.length + s.size ≤ 1000000000) (hbase : base ≤ w.heap.size)
  (h : ∀ v' w', Owned w' base v' (l ++ s.data.toList) → Below base w w' → K (a.put o.dst v') w') : if Region.wanted o (yielded ops a.tmps) = true then Oper.wp Tryz.prog o a w K Q else E := by
 rw [if_pos (by simp [Region.wanted, hgd])]
 obtain ⟨v', w', hr, h1, h2⟩ := run_append_str base v l hown s hlen hbase o.type
 exact Lib.wp_append_run w sl x 67 9 ho v (.string s) hs hx v' w' hr (h v' w' h1 h2)
theorem Reads.one (w : World) {n : Nat} (h : n < 256) : Reads (w.alloc (.cells #[.int .u8 n] 5)) (.slice (some ⟨w.heap.size, 0, none⟩) 1 1) [UInt8.ofNat n] := by
 refine Or.inr ⟨w.heap.size, 0, 1, rfl, by simp, one_news ?_⟩
 rw [byteV_ofNat h]
 exact cell_of_block (heap_alloc_at rfl _) 0
theorem Owned.one (w : World) (base : Nat) (hb : base ≤ w.heap.size) {n : Nat} (h : n < 256) : Owned (w.alloc (.cells #[.int .u8 n] 5)) base (.slice (some ⟨w.heap.size, 0, none⟩) 1 1) [UInt8.ofNat n] := by
 have := Owned.made w base [UInt8.ofNat n] hb (by simp [maxLen])
 simp only [List.map_cons, List.map_nil, byteV_ofNat h] at this
 exact this
theorem Owned.two (w : World) (base : Nat) (hb : base ≤ w.heap.size) {n m : Nat} (h : n < 256) (h2 : m < 256) : Owned (w.alloc (.cells #[.int .u8 n, .int .u8 m] 5)) base (.slice (some ⟨w.heap.size, 0, none⟩) 2 2) [UInt8.ofNat n, UInt8.ofNat m] := by
 have := Owned.made w base [UInt8.ofNat n, UInt8.ofNat m] hb (by simp [maxLen])
 simp only [List.map_cons, List.map_nil, byteV_ofNat h, byteV_ofNat h2] at this
 exact this
theorem Owned.drew {w : World} {base : Nat} {v : Value} {l : List UInt8} (h : Owned w base v l) : Owned w.drew base v l := h.fp (Fp.drew w)
theorem Reads.drew {w : World} {v : Value} {l : List UInt8} (h : Reads w v l) : Reads w.drew v l := h.fp (Fp.drew w)
theorem concat3_any (w : World) (v1 v2 v3 : Value) (l1 l2 l3 : List UInt8) (h1 : Reads w v1 l1) (h2 : Reads w v2 l2) (h3 : Reads w v3 l3) (hl : (l1 ++ l2 ++ l3).length ≤ 1000000) :
  Calls Tryz.prog 71 #[.slice (some ⟨w.heap.size, 0, none⟩) 3 3] (w.alloc (.cells #[v1, v2, v3] 67)) fun e w' => ∃ v', e = .returned v' ∧ Owned w' w.heap.size v' (l1 ++ l2 ++ l3) ∧ Fp [] w w' := by
 have hf := Fp.alloc w (.cells #[v1, v2, v3] 67)
 have hr : RowsAt (w.alloc (.cells #[v1, v2, v3] 67)) w.heap.size [v1, v2, v3] [l1, l2, l3] := by
  refine ⟨heap_alloc_at rfl _, rfl, fun i hi => ?_⟩
  have h4 : i = 0 ∨ i = 1 ∨ i = 2 := by have : i < 3 := hi; omega
  rcases h4 with rfl | rfl | rfl
  ·exact h1.fp hf
  ·exact h2.fp hf
  ·exact h3.fp hf
 have e1 : [l1, l2, l3].flatten = l1 ++ l2 ++ l3 := by simp
 refine (concat_any _ w.heap.size [v1, v2, v3] [l1, l2, l3] hr (by simp) (by rw [e1]; exact hl)).mono ?_
 rintro e w' ⟨v', rfl, ho, hf'⟩
 rw [e1] at ho
 exact ⟨v', rfl, ho.mono (by simp), hf.trans hf' (by simp)⟩
theorem BRow.reads {w : World} {b n cap : Nat} {f : Nat → UInt8} (h : BRow w b n f) : Reads w (.slice (some ⟨b, 0, none⟩) n cap) ((List.range n).map f) :=
 Or.inr ⟨b, 0, cap, by simp, h.lt, fun j hj => by
  have hj' : j < n := by simpa using hj
  rw [Nat.zero_add, h.cell j hj']; simp⟩
theorem atB_all (s : ByteArray) : (List.range s.size).map (atB s) = s.data.toList := by
 apply List.ext_getElem
 ·simp
 ·intro i h1 h2
  simp only [List.getElem_map, List.getElem_range]
  unfold atB
  rw [List.getD_eq_getElem?_getD, List.getElem?_eq_getElem h2]
  rfl
theorem Owned.slice {w : World} {base : Nat} {v : Value} {l : List UInt8} (h : Owned w base v l) : ∃ a n cap, v = .slice a n cap := by
 obtain ⟨a, cap, rfl⟩ := h.reads.form
 exact ⟨_, _, _, rfl⟩
theorem wrap_u8 {n : Nat} (h : n < 256) : IntKind.u8.wrap (n : Int) = n := by rw [IntKind.wrap_u8]; omega
end
end Go.Proofs.YtkjmgbifoaoefaaGreatDoor
