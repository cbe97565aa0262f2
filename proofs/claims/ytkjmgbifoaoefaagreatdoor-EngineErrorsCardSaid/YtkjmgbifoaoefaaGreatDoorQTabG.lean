/-
 The rows of cells, each once (table.rows). bloom: a filter's bits; what it has. bloom.May: whether a filter has a name. As XRegionN, but what a value is good for may lapse once a later operation is done (S takes the bits), and the relation is told by the operation. Over any program. Slices of cells: what a part of one has; append to a slice of the call's own as a step of a drawn region; a store into one. Slices of cells: slices.Grow, Concat, Clone; what table's methods do with them. slices.DeleteFunc of cells, with table.Row's question. The reference of layer 4: two, Build. The reference's Par
-/
import Derived.Test.YtkjmgbifoaoefaaGreatDoorQTabD
import Derived.Test.YtkjmgbifoaoefaaGreatDoorQShelf
import Derived.Lib.OwnBridge
import Derived.Test.YtkjmgbifoaoefaaGreatDoorQCellA
import Derived.Test.YtkjmgbifoaoefaaGreatDoorQTabA
import Derived.Lib.AppendZeros
import Derived.Laws.IdiomCopy
import Derived.Lib.SliceRun
import Derived.Test.YtkjmgbifoaoefaaGreatDoorQBlkC
import Derived.Test.YtkjmgbifoaoefaaGreatDoorQBuild
import Derived.Test.YtkjmgbifoaoefaaGreatDoorQBlkF
import Derived.Test.YtkjmgbifoaoefaaGreatDoorRows
import Derived.Test.YtkjmgbifoaoefaaGreatDoorQMem
import Derived.ProofKit
import Derived.OpenShut
import Derived.ShutString
import Derived.ChangeOld
import Derived.SliceStrings
import Derived.Test.YtkjmgbifoaoefaaGreatDoorTie
import Derived.Test.YtkjmgbifoaoefaaGreatDoorCards
import Derived.Test.YtkjmgbifoaoefaaGreatDoorQCellPure
import Derived.Handed
import Derived.LaidMore
import Derived.Lay
import Derived.Stop.Joined
import Derived.Shelf.Vars
set_option maxRecDepth 100000
set_option maxHeartbeats 8000000
namespace Go.Proofs.YtkjmgbifoaoefaaGreatDoor
section
section
open Go.RowKit
def rowKeep (l : List Cel) (j : Nat) : Bool := decide (j = 0 ∨ (l.getD j zeroC).row ≠ (l.getD (j - 1) zeroC).row)
def rowsUpTo (l : List Cel) (m : Nat) : List ByteArray := ((List.range m).filter (rowKeep l)).map fun j => (l.getD j zeroC).row
def rowsP (l : List Cel) : List ByteArray := rowsUpTo l l.length
theorem rowsUpTo_length (l : List Cel) (m : Nat) : (rowsUpTo l m).length ≤ m := by
 unfold rowsUpTo
 rw [List.length_map]
 exact Nat.le_trans (List.length_filter_le _ _) (by simp)
theorem data_inj {a b : ByteArray} (h : a.data.toList = b.data.toList) : a = b := by
 have := congrArg bl h
 rwa [bl_data, bl_data] at this
theorem rows_compact (l : List Cel) : (Lib.compact (l.map fun c => c.row.data.toList)).map encStr = (rowsP l).map Value.string := by
 unfold Lib.compact Lib.compactUpTo rowsP rowsUpTo
 rw [List.length_map, List.map_map, List.map_map]
 have hget : ∀ j, j < l.length → (l.map fun c => c.row.data.toList).toArray[j]! = (l.getD j zeroC).row.data.toList := by
  intro j hj
  rw [getElem!_pos _ j (by simpa using hj)]
  simp only [List.getElem_toArray, List.getElem_map]
  rw [List.getD_eq_getElem?_getD, List.getElem?_eq_getElem hj]
  rfl
 have hk : (List.range l.length).filter (Lib.keeps (l.map fun c => c.row.data.toList).toArray) = (List.range l.length).filter (rowKeep l) := by
  apply List.filter_congr
  intro j hj
  have hj' := List.mem_range.1 hj
  unfold Lib.keeps rowKeep
  by_cases h0 : j = 0
  ·subst h0; simp
  ·rw [hget j hj', hget (j - 1) (by omega)]
   apply decide_eq_decide.2
   constructor
   ·rintro (h | h)
    ·exact Or.inl h
    ·exact Or.inr fun e => h (by rw [e])
   ·rintro (h | h)
    ·exact Or.inl h
    ·exact Or.inr fun e => h (data_inj e)
 rw [hk]
 apply List.map_congr_left
 intro j hj
 have hj' := List.mem_range.1 (List.mem_filter.1 hj).1
 simp only [Function.comp]
 rw [hget j hj']
theorem rows_any (w : World) (a : Option Addr) (len cap : Nat) (l : List Cel) (hl : CelsAt w a len l) (hn : len ≤ 1000000) :
  Calls Tryz.prog 92 #[.slice a len cap] w fun e w' => ∃ v, e = .returned v ∧ OwnS w' w.heap.size v (rowsP l) ∧ Fp [] w w' := by
 have HL := Lib.hid hl
 have HLEN := Lib.hid hl.len
 clear hl
 go_enter Tryz.func92, Tryz.ntmps92
 go_wp2_with (fail)
 go_loopg [2, 7] len (fun g va vi wr => ∃ (k : Nat) (v : Value), g + k = len ∧ v = va ∧ vi = .int .i64 k ∧ OwnS wr w.heap.size v ((l.take k).map (·.row)) ∧ Fp [] w wr)
 case atStart => exact ⟨0, _, by omega, rfl, rfl, by simpa using OwnS.nil _ _, Fp.refl _ _⟩
 case round =>
  obtain ⟨k, va, hg, rfl, rfl, ho, hf⟩ := hrel
  have HF := Lib.hid hf
  have HO := Lib.hid ho
  clear hf ho
  by_cases hk : k < len
  ·have zk : (k : Int) < (len : Int) := by omega
   have hkl : k < l.length := by rw [← HLEN.out]; exact hk
   obtain ⟨b1, o1, rfl, hb1, hcells⟩ := cels_get HL.out hkl
   have htk : (l.take (k + 1)).map (·.row) = (l.take k).map (·.row) ++ [l[k].row] := by rw [List.take_succ_eq_append_getElem hkl, List.map_append]; rfl
   have HTK := Lib.hid htk
   have htl : ((l.take k).map (·.row)).length ≤ 1000000 := by rw [List.length_map, List.length_take]; omega
   have HTL := Lib.hid htl
   obtain ⟨c, hc⟩ : ∃ c, l[k] = c := ⟨_, rfl⟩
   rw [hc] at hcells HTK
   obtain ⟨q0, q1, q2, q3, q4, q5⟩ := hcells wr HF.out
   clear hcells hc htk htl
   obtain ⟨row, col, ts, seq, del, val⟩ := c
   simp only at HTK q0 q1 q2 q3 q4 q5
   have hbw : w.heap.size ≤ wr.heap.size := HF.out.size
   go_wp2_with (at_builtin; (refine wpList_append_one rfl _ _ rfl w.heap.size _ _ rfl ((HO.out.fp (Fp.alloc _ _) (by simp)).fp (Fp.alloc _ _) (by simp)) _ row rfl (by rw [cell_of_block (heap_alloc_at (by simp) _)]; rfl) (by have := HTL.out; omega) (by simp; omega) ?_); intro v2 w2 ho2 hb2; have HO2 := Lib.hid ho2; have HB2 := Lib.hid hb2; clear ho2 hb2)
   go_roundg (gk - 1)
   case measure => omega
   case rel => exact ⟨k + 1, _, by omega, rfl, by simp, by rw [HTK.out]; exact HO2.out, ((HF.out.alloc' _).alloc' _).belowTrans HB2.out⟩
  ·obtain rfl : k = len := by omega
   have zk : ¬ (k : Int) < (k : Int) := by omega
   have ho : OwnS wr w.heap.size va (l.map (·.row)) := by
    have := HO.out
    rwa [List.take_of_length_le (by rw [HLEN.out]; exact Nat.le_refl _)] at this
   have HRC := Lib.hid (rows_compact l)
   have hown : wr.ownsRow w.heap.size 9 1 va (l.map fun c => c.row.data.toList).length ((l.map fun c => c.row.data.toList).map encStr) := by
    have h1 : wr.ownsRow w.heap.size 9 1 va (l.map (·.row)).length ((l.map (·.row)).map Value.string) := ho
    rw [← Lib.map_encStr, List.map_map, List.map_map, List.length_map] at h1
    rw [List.map_map, List.length_map]
    exact h1
   by_cases hv : va = .slice none 0 0
   ·subst hv
    have h0 : l.map (·.row) = [] := by
     have h1 := ho.1
     rcases ho.2 with ⟨_, h2⟩ | ⟨g, _, _, h2, _⟩
     ·exact List.eq_nil_of_length_eq_zero h2
     ·cases h2
    have hl0 : l = [] := List.map_eq_nil_iff.1 h0
    subst hl0
    have HCE := Lib.hid (Tryz.slices_Compact_string_empty none 0 wr)
    clear ho hown
    go_wp2_with (fail)
    (with_reducible refine HCE.out.mono ?_)
    rintro e w2 ⟨rfl, rfl⟩
    go_wp2_with (fail)
    go_ret
    exact ⟨_, rfl, OwnS.nil _ _, HF.out⟩
   ·obtain ⟨g, cap2, rfl, hbg, hgl, hnc, hcm, hln, hH⟩ := Lib.holds_of_ownsRow hown hv
    have HC := Lib.hid (Tryz.slices_Compact_string g 0 cap2 (l.map fun c => c.row.data.toList) wr hH (by rw [List.length_map]; have := HLEN.out; omega) (by rw [List.length_map] at hnc ⊢; exact hnc))
    have HOW := Lib.hid hown
    clear ho hown hH
    have hlen := congrArg List.length HRC.out
    rw [List.length_map, List.length_map] at hlen
    obtain ⟨zs, hzs⟩ : ∃ zs, (l.map fun c => c.row.data.toList) = zs := ⟨_, rfl⟩
    rw [hzs] at HC HOW HRC hlen hln hnc
    rw [hzs]
    have hcl : (Lib.compact zs).length ≤ zs.length := by
     unfold Lib.compact Lib.compactUpTo
     rw [List.length_map]
     exact Nat.le_trans (List.length_filter_le _ _) (by simp)
    clear hzs
    go_wp2_with (fail)
    (with_reducible refine HC.out.mono ?_)
    rintro e w2 ⟨rfl, q, rfl⟩
    have hown2 := Lib.ownsRow_putRow (q := q) (k := (Lib.compact zs).length) (ys := Lib.compact zs ++ List.replicate (zs.length - (Lib.compact zs).length) []) HOW.out (by rw [List.length_append, List.length_replicate]; omega) hcl
    rw [List.take_left' rfl, HRC.out] at hown2
    have hbel := Lib.below_putRow (enc := encStr) (q := q) (d := (Lib.compact zs ++ List.replicate (zs.length - (Lib.compact zs).length) []).toArray) (Below.refl w.heap.size wr) hbg
    obtain ⟨w3, hw3⟩ : ∃ w3, Sort.putRow encStr (Sort.ahead wr q) g 0 (Lib.compact zs ++ List.replicate (zs.length - (Lib.compact zs).length) []).toArray = w3 := ⟨_, rfl⟩
    rw [hw3] at hown2 hbel ⊢
    have HO2 := Lib.hid hown2
    have HB2 := Lib.hid hbel
    clear hown2 hbel hw3
    go_wp2_with (fail)
    go_ret
    refine ⟨_, rfl, ?_, HF.out.belowTrans HB2.out⟩
    have h2 := HO2.out
    rw [hlen] at h2
    exact h2
end
section
open Go.RowKit
def orB (x : UInt8) (k : Nat) : UInt8 := UInt8.ofNat (x.toNat ||| 2 ^ k)
def setBit (d : List UInt8) (i : Nat) : List UInt8 := d.set (i / 8) (orB (d.getD (i / 8) 0) (i % 8))
def hashA (s : ByteArray) : Nat := moreN 0 s
def hashB (s : ByteArray) : Nat := moreN (hashA s) ⟨#[1]⟩
def hashK (s : ByteArray) (k : Nat) : Nat := (hashA s + k * hashB s) % 4294967296
def placeN (s : ByteArray) (many k : Nat) : Nat := hashK s k % many
def setPlaces (s : ByteArray) (d : List UInt8) (k : Nat) : List UInt8 := (List.range k).foldl (fun d j => setBit d (placeN s (8 * d.length) j)) d
theorem setBit_length (d : List UInt8) (i : Nat) : (setBit d i).length = d.length := by simp [setBit]
theorem setPlaces_succ (s : ByteArray) (d : List UInt8) (k : Nat) : setPlaces s d (k + 1) = setBit (setPlaces s d k) (placeN s (8 * (setPlaces s d k).length) k) := by
 unfold setPlaces; rw [List.range_succ, List.foldl_append]; rfl
theorem setPlaces_length (s : ByteArray) (d : List UInt8) : ∀ k, (setPlaces s d k).length = d.length
 |0 => rfl
 |k + 1 => by rw [setPlaces_succ, setBit_length, setPlaces_length s d k]
theorem hashK_zero (s : ByteArray) : hashK s 0 = hashA s := by
 have := moreN_lt 0 s
 unfold hashK hashA
 rw [Nat.zero_mul, Nat.add_zero]
 exact Nat.mod_eq_of_lt this
theorem hashK_succ (s : ByteArray) (k : Nat) : hashK s (k + 1) = (hashK s k + hashB s) % 4294967296 := by
 unfold hashK
 rw [Nat.add_mul, Nat.one_mul]
 omega
theorem hashK_lt (s : ByteArray) (k : Nat) : hashK s k < 4294967296 := Nat.mod_lt _ (by decide)
theorem placeN_lt (s : ByteArray) {many : Nat} (k : Nat) (h : 0 < many) : placeN s many k < many := Nat.mod_lt _ h
theorem or_u8 (a b : Nat) (ha : a < 256) (hb : b < 256) : bits .or .u8 (a : Int) (b : Int) = ((a ||| b : Nat) : Int) := by
 have hx : a ||| b < 2 ^ 8 := Nat.or_lt_two_pow (by omega) (by omega)
 have h1 : (BitVec.ofInt 8 (a : Int)).toNat = a := by
  rw [BitVec.ofInt_natCast, BitVec.toNat_ofNat]; exact Nat.mod_eq_of_lt (by omega)
 have h2 : (BitVec.ofInt 8 (b : Int)).toNat = b := by
  rw [BitVec.ofInt_natCast, BitVec.toNat_ofNat]; exact Nat.mod_eq_of_lt (by omega)
 show IntKind.u8.wrap ((BitVec.ofInt 8 (a : Int) ||| BitVec.ofInt 8 (b : Int)).toNat : Int) = _
 rw [BitVec.toNat_or, h1, h2, IntKind.wrap_u8]
 omega
theorem orB_toNat (x : UInt8) {k : Nat} (h : k < 8) : (orB x k).toNat = x.toNat ||| 2 ^ k := by
 unfold orB
 rw [UInt8.toNat_ofNat']
 apply Nat.mod_eq_of_lt
 have h2 : (2 : Nat) ^ k ≤ 2 ^ 7 := Nat.pow_le_pow_right (by decide) (by omega)
 exact Nat.or_lt_two_pow (n := 8) x.toNat_lt (by omega)
def FilAt (w : World) (g : Nat) (d : List UInt8) : Prop := w.heap[g]? = some (.cells (d.map byteV).toArray 5 (0, 0))
theorem FilAt.cell {w : World} {g j : Nat} {d : List UInt8} (h : FilAt w g d) (hj : j < d.length) : w.cell? ⟨g, j, none⟩ = some (.int .u8 (d.getD j 0).toNat) := by
 rw [cell_of_block h]
 rw [List.getElem?_toArray, List.getElem?_map, List.getElem?_eq_getElem hj, List.getD_eq_getElem?_getD, List.getElem?_eq_getElem hj]
 rfl
theorem FilAt.free {w : World} {g : Nat} {d : List UInt8} (h : FilAt w g d) (j : Nat) : w.frozen? ⟨g, j, none⟩ = false := frozen_of_block h j
theorem FilAt.set {w : World} {g j : Nat} {d : List UInt8} {x : UInt8} (h : FilAt w g d) : FilAt (w.setCell ⟨g, j, none⟩ (.int .u8 x.toNat)) g (d.set j x) := by
 unfold FilAt
 rw [heap_setCell_same h]
 simp only [List.setIfInBounds_toArray]
 rw [show (Value.int .u8 (x.toNat : Int)) = byteV x from rfl, ← List.map_set]
theorem FilAt.fp {w w' : World} {g : Nat} {d : List UInt8} {S : List Nat} (h : FilAt w g d) (hf : Fp S w w') (hs : g ∉ S) : FilAt w' g d := (hf.block g (heap_lt h) hs).trans h
structure CMs (w : World) (bx g n : Nat) (d d' : List UInt8) (done : Bool) (w' : World) : Prop where
 row : FilAt w' g (if done = true then d' else d)
 box : w'.heap[bx]? = some (.cells #[.slice (some ⟨g, 0, none⟩) n n] 67 (0, 0))
 fp : Fp [g] w w'
def CM (w : World) (bx g n : Nat) (d d' : List UInt8) (b : Nat → Bool) (w' : World) : Prop := CMs w bx g n d d' (b 10) w'
theorem make1_any (w : World) (bx g n i : Nat) (d : List UInt8) (hbx : w.heap[bx]? = some (.cells #[.slice (some ⟨g, 0, none⟩) n n] 67 (0, 0))) (hg : FilAt w g d) (hd : d.length = n) (hi : i < 8 * n) (hn : n ≤ 100000) (hbg : bx ≠ g) :
  Calls Tryz.prog 163 #[.int .i64 i, .pointer (some ⟨bx, 0, none⟩)] w fun e w' => e = .returned (.bool true) ∧ FilAt w' g (setBit d i) ∧ Fp [g] w w' := by
 have HBX := Lib.hid hbx
 have HG := Lib.hid hg
 obtain ⟨q, hq⟩ : ∃ q, i / 8 = q := ⟨_, rfl⟩
 obtain ⟨r, hr⟩ : ∃ r, i % 8 = r := ⟨_, rfl⟩
 have e1 : (i : Int) / 8 = (q : Int) := by omega
 have e2 : (i : Int).tmod 8 = (r : Int) := by rw [Int.tmod_eq_emod_of_nonneg (by omega)]; omega
 have e3 : IntKind.i64.wrap (q : Int) = (q : Int) := by rw [IntKind.wrap_i64]; omega
 have e4 : min r 8 = r := by omega
 have hqn : (q : Int) < (n : Int) := by omega
 have hqd : q < d.length := by omega
 obtain ⟨x, hx⟩ : ∃ x, d.getD q 0 = x := ⟨_, rfl⟩
 have HC := Lib.hid (fun w (h : FilAt w g d) => h.cell hqd)
 rw [hx] at HC
 have HS : Hid (setBit d i = d.set q (orB x r)) := by unfold Hid setBit; rw [hq, hr, hx]
 have hp : (2 : Nat) ^ r ≤ 2 ^ 7 := Nat.pow_le_pow_right (by decide) (by omega)
 obtain ⟨p, hp2⟩ : ∃ p, 2 ^ r = p := ⟨_, rfl⟩
 rw [hp2] at hp
 have p1 : IntKind.u8.wrap (((2 : Nat) : Int) ^ r) = (p : Int) := by
  rw [IntKind.wrap_u8, ← hp2]
  have : (((2 : Nat) : Int) ^ r) = ((2 ^ r : Nat) : Int) := by push_cast; rfl
  rw [this, hp2]
  omega
 have p1' : IntKind.u8.wrap ((2 : Int) ^ r) = (p : Int) := p1
 have hxl := x.toNat_lt
 obtain ⟨y, hy⟩ : ∃ y, orB x r = y := ⟨_, rfl⟩
 have p2 : bits .or .u8 (x.toNat : Int) (p : Int) = (y.toNat : Int) := by
  rw [or_u8 _ _ hxl (by omega), ← hy, orB_toNat x (by omega), hp2]
 rw [hy] at HS
 have hr8 : r < 8 := by omega
 clear hq hr hx hy hp2 hbx hg hi hp
 go_enter Tryz.func163, Tryz.ntmps163
 go_wp2_with (fail)
 refine wp_region_n (CM w bx g n d (d.set q y)) (fun _ _ => True) (by kernel_rfl) (by kernel_rfl) ⟨HG.out.fp (Fp.drew w) (by simp), ((Fp.drew w).block _ (heap_lt HBX.out) (by simp)).trans HBX.out, (Fp.drew w).mono (by simp)⟩ ?_
 iterate 4
  apply nx_plain (fun _ _ h => h) rfl rfl rfl
  ·intro b a w hC hA K hK
   have := hA.f 1
   have := hA.f 0
   try have := hA.e 1 5
   try have := hA.e 0 4
   try have := hA.e 2 6
   have q0 := cell_of_block (CMs.box hC) 0
   simp only [List.getElem?_toArray, List.getElem?_cons_zero] at q0
   simp only [Oper.wp, execOp]; go_simp
   exact hK _ hC trivial
 apply nx_plain (fun _ _ h => h) rfl rfl rfl
 ·intro b a w hC hA K hK
  have h7 := hA.e 3 7
  have q0 := cell_of_block (CMs.box hC) 0
  simp only [List.getElem?_toArray, List.getElem?_cons_zero] at q0
  have hrow := CMs.row hC
  rw [hA.post 10 (by kernel_rfl)] at hrow
  have q1 := HC.out _ hrow
  simp only [Oper.wp, execOp]; go_simp
  exact hK _ hC trivial
 iterate 5
  apply nx_plain (fun _ _ h => h) rfl rfl rfl
  ·intro b a w hC hA K hK
   have := hA.f 0
   try have := hA.e 5 9
   try have := hA.e 6 10
   try have := hA.e 4 8
   try have := hA.e 7 11
   try have := hA.e 0 4
   try have := hA.e 2 6
   have q0 := cell_of_block (CMs.box hC) 0
   simp only [List.getElem?_toArray, List.getElem?_cons_zero] at q0
   simp only [Oper.wp, execOp]; go_simp
   exact hK _ hC trivial
 apply nx_effect (fun _ => True) rfl rfl
 ·intro b a w hC hA K hK
  have h13 := hA.e 9 13
  have h12 := hA.e 8 12
  have hrow := CMs.row hC
  rw [hA.self] at hrow
  have q1 := HC.out _ hrow
  have z1 := hrow.free q
  simp only [Oper.wp, execOp]; go_simp
  exact hK undef _ ⟨hrow.set, ((Fp.setCell w ⟨g, q, none⟩ _).block _ (heap_lt (CMs.box hC)) (by simpa using hbg)).trans (CMs.box hC), (CMs.fp hC).setCell' (Or.inl (by simp)) _⟩ trivial trivial
 refine ⟨?_, ?_⟩
 ·refine ⟨fun _ _ _ _ _ => trivial, ?_⟩
  iterate 10 refine stabN_val _ ?_
  exact trivial
 ·intro w1 bb hC hbb
  simp only [List.reverse_cons, List.reverse_nil, List.nil_append, List.cons_append]
  iterate 10 (refine all_val ?_)
  refine all_some ?_
  intro v10 u10
  refine all_nil ?_
  simp only [putAll, Act.put, List.setIfInBounds_toArray, List.set_cons_succ, List.set_cons_zero]
  have hrow := CMs.row hC
  rw [hbb 10 (by decide)] at hrow
  have HR := Lib.hid hrow
  have HF := Lib.hid (CMs.fp hC)
  clear hrow hC hbb u10
  go_wp2_with (fail)
  go_ret
  exact ⟨rfl, by rw [HS.out]; exact HR.out, HF.out⟩
theorem places_any (name : ByteArray) (M gf bx : Nat) (I : Nat → World → Prop) (X : World → Prop) (w : World) (eg : ∀ args w, (callFunc gf args).run Tryz.prog w = .ok (.enter gf args) w)
  (hname : name.size ≤ 100000000) (hM : 0 < M) (hM2 : M ≤ 1000000) (ht : ∀ k w, I k w → TabAt w) (hI : ∀ k w w', I k w → Fp [] w w' → I k w') (h0 : I 0 w)
  (hlook : ∀ k w, k < 4 → I k w → Calls Tryz.prog gf #[.int .i64 (placeN name M k : Nat), .pointer (some ⟨bx, 0, none⟩)] w fun e w' => (e = .returned (.bool true) ∧ I (k + 1) w') ∨ (e = .returned (.bool false) ∧ X w')) :
  Calls Tryz.prog 162 #[.string name, .int .i64 M, .func (.func gf) #[] #[.pointer (some ⟨bx, 0, none⟩)]] w fun e w' => (e = .returned (.bool true) ∧ I 4 w') ∨ (e = .returned (.bool false) ∧ X w') := by
 have HT := Lib.hid ht
 have HI := Lib.hid hI
 have H0 := Lib.hid h0
 have HL := Lib.hid hlook
 have HS : Hid (∀ w, TabAt w → Calls Tryz.prog 82 #[.string name] w fun e w' => e = .returned (.int .u32 (hashA name)) ∧ Fp [] w w') := fun w ht => sum_any name w hname ht
 have HM : Hid (∀ w, TabAt w → Calls Tryz.prog 81 #[.int .u32 (hashA name), .string ⟨#[1]⟩] w fun e w' => e = .returned (.int .u32 (hashB name)) ∧ Fp [] w w') := fun w ht => more_any (hashA name) ⟨#[1]⟩ w (moreN_lt _ _) (by show 1 ≤ _; decide) ht
 clear ht hI h0 hlook
 have HK0 := Lib.hid (hashK_zero name)
 obtain ⟨ha, hha⟩ : ∃ x, hashA name = x := ⟨_, rfl⟩
 obtain ⟨hb, hhb⟩ : ∃ x, hashB name = x := ⟨_, rfl⟩
 have HHB := Lib.hid hhb
 have hbl : hb < 4294967296 := by rw [← hhb]; exact moreN_lt _ _
 rw [hha] at HS HM HK0
 rw [hhb] at HM
 clear hha hhb
 have u0 : IntKind.u32.wrap (M : Int) = (M : Int) := by rw [IntKind.wrap_u32]; omega
 go_enter Tryz.func162, Tryz.ntmps162
 go_wp2_with (fail)
 (with_reducible refine (HS.out _ (HT.out _ _ H0.out)).mono ?_)
 rintro e w1 ⟨rfl, hf1⟩
 have H1 := Lib.hid (HI.out _ _ _ H0.out hf1)
 clear hf1
 go_wp2_with (fail)
 (with_reducible refine (HM.out _ (HT.out _ _ H1.out)).mono ?_)
 rintro e w2 ⟨rfl, hf2⟩
 have H2 := Lib.hid (HI.out _ _ _ H1.out hf2)
 clear hf2
 go_wp2_with (fail)
 go_loopg [7, 13] 4 (fun g va vi wr => ∃ k : Nat, g + k = 4 ∧ va = .int .u32 (hashK name k : Nat) ∧ vi = .int .i64 k ∧ I k wr)
 case atStart => exact ⟨0, by omega, by rw [HK0.out], rfl, H2.out⟩
 case round =>
  obtain ⟨k, hg, rfl, rfl, hik⟩ := hrel
  have HIK := Lib.hid hik
  clear hik
  by_cases hk : k < 4
  ·have zk : (k : Int) < 4 := by omega
   have HS1 := Lib.hid (hashK_succ name k)
   rw [HHB.out] at HS1
   have HLK := Lib.hid (HL.out k wr hk HIK.out)
   have hkl := hashK_lt name k
   have HPN : Hid (placeN name M k = hashK name k % M) := rfl
   obtain ⟨x, hx⟩ : ∃ x, hashK name k = x := ⟨_, rfl⟩
   rw [hx] at HS1 hkl HPN
   rw [hx]
   obtain ⟨p, hp⟩ : ∃ p, x % M = p := ⟨_, rfl⟩
   have hp2 : (x : Int) % (M : Int) = (p : Int) := by rw [← hp]; rfl
   have hp3 : p < M := by rw [← hp]; exact Nat.mod_lt _ hM
   rw [HPN.out, hp] at HLK
   have u1 : IntKind.i64.wrap (p : Int) = (p : Int) := by rw [IntKind.wrap_i64]; omega
   have u1' : IntKind.u32.wrap (p : Int) = (p : Int) := by rw [IntKind.wrap_u32]; omega
   have M0 : ¬ M = 0 := by omega
   obtain ⟨y, hy⟩ : ∃ y, (x + hb) % 4294967296 = y := ⟨_, rfl⟩
   have u2 : IntKind.u32.wrap ((x : Int) + (hb : Int)) = (y : Int) := by rw [IntKind.wrap_u32]; omega
   rw [hy] at HS1
   clear hx hp hy HPN
   go_wp2_with (fail)
   (with_reducible refine HLK.out.mono ?_)
   rintro e w3 (⟨rfl, hi3⟩ | ⟨rfl, hx3⟩)
   ·have H3 := Lib.hid hi3
    clear hi3
    go_wp2_with (fail)
    go_roundg (gk - 1)
    case measure => omega
    case rel => exact ⟨k + 1, by omega, by rw [HS1.out], by simp, H3.out⟩
   ·have HX := Lib.hid hx3
    clear hx3
    go_wp2_with (fail)
    go_ret
    exact Or.inr ⟨rfl, HX.out⟩
  ·obtain rfl : k = 4 := by omega
   go_wp2_with (fail)
   go_ret
   exact Or.inl ⟨rfl, HIK.out⟩
theorem places_make (name : ByteArray) (bx g n : Nat) (d : List UInt8) (w : World) (hname : name.size ≤ 100000000) (hn0 : 0 < n) (hn : n ≤ 100000) (hd : d.length = n) (hbx : w.heap[bx]? = some (.cells #[.slice (some ⟨g, 0, none⟩) n n] 67 (0, 0))) (hg : FilAt w g d)
  (hbg : bx ≠ g) (hgt : g ≠ 0) (ht : TabAt w) :
  Calls Tryz.prog 162 #[.string name, .int .i64 (8 * n : Nat), .func (.func 163) #[] #[.pointer (some ⟨bx, 0, none⟩)]] w fun e w' => e = .returned (.bool true) ∧ FilAt w' g (setPlaces name d 4) ∧ Fp [g] w w' := by
 refine (places_any name (8 * n) 163 bx (fun k w' => FilAt w' g (setPlaces name d k) ∧ w'.heap[bx]? = some (.cells #[.slice (some ⟨g, 0, none⟩) n n] 67 (0, 0)) ∧ Fp [g] w w') (fun _ => False) w (enters_of Tryz.func163 (by kernel_rfl) rfl) hname (by omega) (by omega)
  (fun k w' h => ht.fp h.2.2 (by simpa using Ne.symm hgt)) (fun k a b h hf => ⟨h.1.fp hf (by simp), (hf.block _ (heap_lt h.2.1) (by simp)).trans h.2.1, h.2.2.trans hf (by simp)⟩) ⟨hg, hbx, Fp.refl _ _⟩ ?_).mono ?_
 ·rintro k w' hk ⟨h1, h2, h3⟩
  refine (make1_any w' bx g n (placeN name (8 * n) k) (setPlaces name d k) h2 h1 (by rw [setPlaces_length, hd]) (placeN_lt _ _ (by omega)) hn hbg).mono ?_
  rintro e w2 ⟨rfl, hr, hf⟩
  refine Or.inl ⟨rfl, ?_, (hf.block _ (heap_lt h2) (by simpa using hbg)).trans h2, h3.trans hf (by intro i hi; exact Or.inl hi)⟩
  rw [setPlaces_succ, setPlaces_length, hd]
  exact hr
 ·rintro e w' (⟨rfl, h1, _, h3⟩ | ⟨_, h⟩)
  ·exact ⟨rfl, h1, h3⟩
  ·exact h.elim
def bloomN (k : Nat) : Nat := max ((k * 10 + 7) / 8) 8
def bloomL (names : List ByteArray) (k : Nat) : List UInt8 := (names.take k).foldl (fun d s => setPlaces s d 4) (List.replicate (bloomN names.length) 0)
def bloomP (names : List ByteArray) : ByteArray := bl (bloomL names names.length)
theorem bloomL_succ (names : List ByteArray) {k : Nat} (h : k < names.length) : bloomL names (k + 1) = setPlaces names[k] (bloomL names k) 4 := by
 unfold bloomL
 rw [List.take_succ_eq_append_getElem h, List.foldl_append]
 rfl
theorem foldP_length (names : List ByteArray) : ∀ d : List UInt8, (names.foldl (fun d s => setPlaces s d 4) d).length = d.length := by
 induction names with
 |nil => intro d; rfl
 |cons s l ih => intro d; rw [List.foldl_cons, ih, setPlaces_length]
theorem bloomL_length (names : List ByteArray) (k : Nat) : (bloomL names k).length = bloomN names.length := by
 unfold bloomL; rw [foldP_length, List.length_replicate]
theorem FilAt.str {w : World} {g cap : Nat} {d : List UInt8} (h : FilAt w g d) : (convert 67 9 (.slice (some ⟨g, 0, none⟩) d.length cap)).run Tryz.prog w = .ok (.string (bl d)) w := by
 have h2 := str_of_brow (cap := cap) (n := d.length) (f := fun j => d.getD j 0) (b := g) (w := w) ⟨heap_lt h, fun j hj => by
  rw [h.cell hj]; rfl, fun j _ => h.free j⟩
 rw [h2]
 have e : (List.range d.length).map (fun j => d.getD j 0) = d := by
  apply List.ext_getElem
  ·simp
  ·intro i h1 h2
   simp only [List.getElem_map, List.getElem_range]
   rw [List.getD_eq_getElem?_getD, List.getElem?_eq_getElem h2]
   rfl
 rw [e]
 rfl
theorem made_one' (v : Value) (n : Nat) : madeCells #[v] n = (List.replicate n v).toArray := by
 apply Array.ext
 ·rw [size_madeCells]; simp
 ·intro i h1 h2
  simp [madeCells, Nat.mod_one]
theorem make_row (w : World) (n : Nat) (hn : n ≤ 100000) : (Instr.makeSlice 67 (.int .i64 n) (.int .i64 n)).run Tryz.prog w = .ok (.slice (some ⟨w.heap.size, 0, none⟩) n n) (w.alloc (.cells ((List.replicate n (0 : UInt8)).map byteV).toArray 5)) := by
 have h := run_makeSlice (P := Tryz.prog) w 67 5 Tryz.t5 (.int .u8 0) Tryz.underlying67 (by kernel_rfl) (by kernel_rfl) .i64 .i64 n n (by omega) (Int.le_refl _) (by show (n : Int).toNat * 1 ≤ _; omega) (by show ((1 : Nat) : Int) * n ≤ _; omega) (by omega)
 change _ = Result.ok _ (w.alloc (.cells (madeCells (Value.int .u8 0).cells ((n : Int).toNat * 1)) 5)) at h
 rw [h, Int.toNat_natCast, Nat.mul_one]
 rw [show (Value.int .u8 0).cells = #[Value.int .u8 0] from rfl, made_one', List.map_replicate]
 rfl
theorem make_any (w : World) (v : Value) (base : Nat) (names : List ByteArray) (hv : OwnS w base v names) (hn : names.length ≤ 2000) (hsm : ∀ s ∈ names, s.size ≤ 100000000) (ht : TabAt w) :
  Calls Tryz.prog 91 #[v, .int .i64 10] w fun e w' => e = .returned (.tuple #[.string (bloomP names), .int .i64 0]) ∧ Fp [] w w' := by
 obtain ⟨⟨a, cap, rfl⟩, hat⟩ := hv.at
 have HAT := Lib.hid hat
 have HT := Lib.hid ht
 have HSM := Lib.hid hsm
 obtain ⟨nl, hnl⟩ : ∃ nl, names.length = nl := ⟨_, rfl⟩
 obtain ⟨n, hn2⟩ : ∃ n, bloomN nl = n := ⟨_, rfl⟩
 have hnv : n = max ((nl * 10 + 7) / 8) 8 := by rw [← hn2]; rfl
 have n1 : IntKind.i64.wrap ((nl : Int) * 10) = ((nl * 10 : Nat) : Int) := by rw [IntKind.wrap_i64]; omega
 obtain ⟨m1, hm1⟩ : ∃ m, nl * 10 = m := ⟨_, rfl⟩
 rw [hm1] at n1
 have n2 : IntKind.i64.wrap ((m1 : Int) + 7) = ((m1 + 7 : Nat) : Int) := by rw [IntKind.wrap_i64]; omega
 obtain ⟨m2, hm2⟩ : ∃ m, m1 + 7 = m := ⟨_, rfl⟩
 rw [hm2] at n2
 obtain ⟨m3, hm3⟩ : ∃ m, m2 / 8 = m := ⟨_, rfl⟩
 have n3 : (m2 : Int) / 8 = (m3 : Int) := by omega
 have n4 : max (m3 : Int) 8 = (n : Int) := by omega
 have hn8 : 8 ≤ n := by omega
 have hnb : n ≤ 100000 := by omega
 clear hm1 hm2 hm3 hnv hv hat ht hsm
 rw [hnl]
 go_enter Tryz.func91, Tryz.ntmps91
 have hmk := make_row w n hnb
 have hfil : FilAt (w.alloc (.cells ((List.replicate n (0 : UInt8)).map byteV).toArray 5)) w.heap.size (List.replicate n 0) := heap_alloc_at rfl _
 have hfw := Fp.alloc w (.cells ((List.replicate n (0 : UInt8)).map byteV).toArray 5)
 have hsz : (w.alloc (.cells ((List.replicate n (0 : UInt8)).map byteV).toArray 5)).heap.size = w.heap.size + 1 := by simp
 obtain ⟨w1, hw1⟩ : ∃ w1, w.alloc (.cells ((List.replicate n (0 : UInt8)).map byteV).toArray 5) = w1 := ⟨_, rfl⟩
 rw [hw1] at hmk hfil hfw hsz
 have HFIL := Lib.hid hfil
 have HFW := Lib.hid hfw
 clear hw1 hfil hfw
 go_wp2_with (fail)
 go_loopg [30] nl (fun g vi wr => ∃ k : Nat, g + k = nl ∧ vi = .int .i64 k ∧ FilAt wr w.heap.size (bloomL names k) ∧ wr.heap[w.heap.size + 1]? = some (.cells #[.slice (some ⟨w.heap.size, 0, none⟩) n n] 67 (0, 0)) ∧ Fp [] w wr)
 case atStart =>
  refine ⟨0, by omega, rfl, ?_, heap_alloc_at hsz.symm _, HFW.out.alloc' _⟩
  have e : bloomL names 0 = List.replicate n 0 := by unfold bloomL; rw [hnl, hn2]; rfl
  rw [e]
  exact HFIL.out.fp (Fp.alloc _ _) (by simp)
 case round =>
  obtain ⟨k, hg, rfl, hfl, hbx, hf⟩ := hrel
  have HFL := Lib.hid hfl
  have HBX := Lib.hid hbx
  have HF := Lib.hid hf
  have q1 : wr.cell? ⟨w.heap.size + 1, 0, none⟩ = some (.slice (some ⟨w.heap.size, 0, none⟩) n n) := cell_of_block hbx 0
  clear hfl hbx hf
  by_cases hk : k < nl
  ·have zk : (k : Int) < (nl : Int) := by omega
   have hkn : k < names.length := by rw [hnl]; exact hk
   have hld : (bloomL names k).length = n := by rw [bloomL_length, hnl, hn2]
   have HLD := Lib.hid hld
   have HBS := Lib.hid (bloomL_succ names hkn)
   obtain ⟨s, hs⟩ : ∃ s, names[k] = s := ⟨_, rfl⟩
   have hss : s.size ≤ 100000000 := by rw [← hs]; exact HSM.out _ (List.getElem_mem hkn)
   rw [hs] at HBS
   have hat2 : ∃ g0 cap0, a = some ⟨g0, 0, none⟩ ∧ cap = cap0 ∧ wr.cell? ⟨g0, k, none⟩ = some (.string s) := by
    rcases HAT.out with h | ⟨g0, c0, e0, _, hlt, hc⟩
    ·rw [h] at hnl; simp at hnl; omega
    ·injection e0 with e1 _ e3
     refine ⟨g0, c0, e1, e3, ?_⟩
     rw [HF.out.cell (p := ⟨g0, k, none⟩) hlt (by simp), hc k hkn, hs]
   obtain ⟨g0, cap0, rfl, rfl, q0⟩ := hat2
   have n5 : IntKind.i64.wrap (8 * (n : Int)) = ((8 * n : Nat) : Int) := by rw [IntKind.wrap_i64]; omega
   have htw := HT.out.fp HF.out (by simp)
   have h4 : 0 < w.heap.size := World.block_lt_of_cell? _ _ (HT.out 0 (by decide))
   have HPM := Lib.hid (places_make s (w.heap.size + 1) w.heap.size n (bloomL names k) wr hss (by omega) hnb hld HBX.out HFL.out (by omega) (by omega) htw)
   obtain ⟨n8, hn8e⟩ : ∃ n8, 8 * n = n8 := ⟨_, rfl⟩
   rw [hn8e] at n5 HPM
   clear hs hld htw hn8e
   go_wp2_with (fail)
   (with_reducible refine HPM.out.mono ?_)
   rintro e w2 ⟨rfl, hfl2, hf2⟩
   have HFL2 := Lib.hid hfl2
   have HF2 := Lib.hid hf2
   clear hfl2 hf2
   go_wp2_with (fail)
   go_roundg (gk - 1)
   case measure => omega
   case rel => exact ⟨k + 1, by omega, by simp, by rw [HBS.out]; exact HFL2.out, (HF2.out.block _ (heap_lt HBX.out) (by simp)).trans HBX.out, HF.out.trans HF2.out (by simp)⟩
  ·obtain rfl : k = nl := by omega
   have zk : ¬ (k : Int) < (k : Int) := by omega
   have hcv := HFL.out.str (cap := n)
   rw [show (bloomL names k).length = n from by rw [bloomL_length, hnl, hn2]] at hcv
   have HBP : Hid (bloomP names = bl (bloomL names k)) := by unfold Hid bloomP; rw [hnl]
   obtain ⟨r, hr⟩ : ∃ r, bl (bloomL names k) = r := ⟨_, rfl⟩
   rw [hr] at hcv HBP
   clear hr
   go_wp2_with (fail)
   go_ret2
   exact ⟨by rw [HBP.out]; rfl, HF.out⟩
end
section
open Go.RowKit
end
end
section
open Go.RowKit
section
variable {P : Program} {l : List Oper}
abbrev BS := (Nat → Bool) → World → Value → Prop
variable {C : (Nat → Bool) → World → Prop} {R : Nat → World → World → Prop} {a0 : Act} {F : Act → World → Prop} {i n : Nat} {done : List BS}
end
end
section
open Go.RowKit
theorem CelsAt.take {w : World} {a : Option Addr} {len : Nat} {l : List Cel} (h : CelsAt w a len l) (n : Nat) (hn : n ≤ len) : CelsAt w a n (l.take n) := by
 have hl := h.len
 refine ⟨by rw [List.length_take]; omega, ?_, fun c hc => h.ok c (List.mem_of_mem_take hc)⟩
 rcases h.cells with h0 | ⟨b, o, h1, h2, h3⟩
 ·subst h0; exact Or.inl (by simp)
 ·refine Or.inr ⟨b, o, h1, h2, fun i hi => ?_⟩
  rw [List.getElem_take]
  exact h3 i (by rw [List.length_take] at hi; omega)
theorem CelsAt.drop {w : World} {b o len : Nat} {l : List Cel} (h : CelsAt w (some ⟨b, o, none⟩) len l) (n m : Nat) (hn : n + m = len) : CelsAt w (some ⟨b, o + n * 6, none⟩) m (l.drop n) := by
 have hl := h.len
 refine ⟨by rw [List.length_drop]; omega, ?_, fun c hc => h.ok c (List.mem_of_mem_drop hc)⟩
 rcases h.cells with h0 | ⟨b', o', h1, h2, h3⟩
 ·subst h0; exact Or.inl (by simp)
 ·cases h1
  refine Or.inr ⟨b, o + n * 6, rfl, h2, fun i hi => ?_⟩
  rw [List.getElem_drop]
  have h4 := h3 (n + i) (by rw [List.length_drop] at hi; omega)
  rw [show o + n * 6 + i * 6 = o + (n + i) * 6 from by omega]
  exact h4
theorem OwnC.empty {w : World} {base g : Nat} (hg : base ≤ g) (h : w.heap[g]? = some (.cells #[] 24 (0, 0))) : OwnC w base (.slice (some ⟨g, 0, none⟩) 0 0) [] :=
 ⟨rfl, Or.inr ⟨g, 0, #[], rfl, hg, h, Nat.le_refl _, Nat.zero_le _, rfl, rfl⟩⟩
theorem OwnC.open {w : World} {base : Nat} {v : Value} {l : List Cel} (h : OwnC w base v l) (h0 : 0 < l.length) :
  ∃ g cap cur, v = .slice (some ⟨g, 0, none⟩) l.length cap ∧ base ≤ g ∧ w.heap[g]? = some (.cells cur 24 (0, 0)) ∧ l.length ≤ cap ∧ cap ≤ maxLen ∧ cur.size = cap * 6 ∧ cur.toList.take (l.length * 6) = l.flatMap celRow := by
 rcases h.2 with ⟨_, h1⟩ | h1
 ·omega
 ·exact h1
end
section
section
open Go.RowKit
def strNe (a b : ByteArray) : Bool := !decide (a = b)
theorem str_ne (a b : ByteArray) : (!(a.toList == b.toList)) = strNe a b := by
 unfold strNe
 by_cases h : a = b
 ·subst h; simp
 ·rw [decide_eq_false h]
  have : a.toList ≠ b.toList := fun e => h (toList_inj' e)
  simpa using this
end
section
open Go.RowKit
theorem cells_of_own {cur : Array Value} {l : List Cel} (h : cur.toList.take (l.length * 6) = l.flatMap celRow) (i : Nat) (hi : i < l.length) (j : Nat) (hj : j < 6) : cur[i * 6 + j]? = (celRow l[i])[j]? := by
 rw [← flat_at l i j hj hi, ← h, List.getElem?_take, if_pos (by omega), Array.getElem?_toList]
theorem OwnC.cel {w : World} {base g n cap j : Nat} {l : List Cel} (h : OwnC w base (.slice (some ⟨g, 0, none⟩) n cap) l) (hj : j < l.length) : CelCells w g (j * 6) l[j] ∧ ∀ o, w.frozen? ⟨g, o, none⟩ = false := by
 obtain ⟨g2, cap2, cur, e, hg, hh, hn, hm, hs, ht⟩ := h.open (by omega)
 cases e
 have key := fun k hk => cells_of_own ht j hj k hk
 refine ⟨⟨?_, ?_, ?_, ?_, ?_, ?_⟩, fun o => frozen_of_block hh o⟩
 ·rw [cell_of_block hh]; exact key 0 (by decide)
 ·rw [cell_of_block hh]; exact key 1 (by decide)
 ·rw [cell_of_block hh]; exact key 2 (by decide)
 ·rw [cell_of_block hh]; exact key 3 (by decide)
 ·rw [cell_of_block hh]; exact key 4 (by decide)
 ·rw [cell_of_block hh]; exact key 5 (by decide)
end
end
section
open Go.RowKit Go.Lib
end
section
section
open Go.RowKit
end
section
open Go.RowKit Go.Lib
theorem build_ok {l : List Cel} (h : (buildP l).2 = 0) : l.length ≤ 255 ∧ l.all mayB = true ∧ risC l = true ∧ (buildP l).1 = bl (UInt8.ofNat l.length :: bodyL 0 [] l) := by
 unfold buildP at h ⊢
 split at h
 ·cases h
 ·split at h
  ·cases h
  ·split at h
   ·cases h
   ·rename_i h1 h2 h3
    rw [if_neg h1, if_neg h2, if_neg h3]
    exact ⟨by omega, by simpa using h2, by simpa using h3, rfl⟩
theorem parse_is {s : ByteArray} {l : List Cel} (h : parseP s = some l) : readP s = some l ∧ (buildP l).2 = 0 ∧ (buildP l).1 = s := by
 unfold parseP at h
 split at h
 ·cases h
 ·rename_i l' hl
  split at h
  ·rename_i hb
   cases h
   exact ⟨hl, hb⟩
  ·cases h
theorem readP_ok {s : ByteArray} {l : List Cel} (hs : s.size ≤ 100000) (h : readP s = some l) : ∀ c ∈ l, CelOK c := by
 unfold readP at h
 split at h
 ·refine cels_ok (fun x hx => ?_) h
  have h1 := (ents_sizes _ _ _ x hx).2
  obtain ⟨⟨n, r1⟩, e⟩ : ∃ t, (⟨s, !s.toList.isEmpty⟩ : Rb).num 1 = t := ⟨_, rfl⟩
  rw [e] at h1
  have h2 := (num_facts e).2
  have : ByteArray.empty.size = 0 := rfl
  simp only at h1 h2
  omega
 ·cases h
theorem parse_ok {s : ByteArray} {l : List Cel} (hs : s.size ≤ 100000) (h : parseP s = some l) : ∀ c ∈ l, CelOK c := readP_ok hs (parse_is h).1
end
end
section
open Go.RowKit
end
section
section
open Go.ChangeShapes Go.WideShapes Go.ChangeAt Go.RowKit
open Go.ChangeMaps (open_string shut_string)
theorem wf_i64 {a : Int} (h : (Lit.int .i64 a).wf = true) : -9223372036854775808 ≤ a ∧ a ≤ 9223372036854775807 := by simp only [Lit.wf, Bool.and_eq_true, decide_eq_true_eq] at h; exact h
theorem wf_u64 {a : Int} (h : (Lit.int .u64 a).wf = true) : 0 ≤ a ∧ a ≤ 18446744073709551615 := by simp only [Lit.wf, Bool.and_eq_true, decide_eq_true_eq] at h; exact h
theorem own : ownKnob Tryz.prog.godebug = none := by kernel_rfl
theorem laidOut : laidOutB Tryz.prog = true := by kernel_rfl
theorem Fp.toBelow {w w' : World} (h : Fp [] w w') : Below w.heap.size w w' := h.below (Nat.le_refl _) (by simp)
end
section
open Go.ChangeShapes Go.WideShapes Go.ChangeAt Go.RowKit
theorem max_of_shape {w : World} (h : w.ShapedOpen Tryz.prog) : MaxAt w :=
 cell_of_shapedOpen_int (P := Tryz.prog) (g := 1) (t := 3) (zero := #[.int .i64 0]) h (of_decide_eq_true (by kernel_rfl)) (by kernel_rfl) (by kernel_rfl) (by kernel_rfl) (by kernel_rfl) Tryz.underlying3
section
variable {H : Type} {enc : TypeId × Value → H}
end
theorem one9 : Tryz.prog.cellsOf 9 = 1 := by kernel_rfl
theorem one22 : Tryz.prog.cellsOf 22 = 1 := by kernel_rfl
theorem one4 : Tryz.prog.cellsOf 4 = 1 := by kernel_rfl
theorem six24 : Tryz.prog.cellsOf 24 = 6 := by kernel_rfl
theorem read_cel {H : Type} {enc : TypeId × Value → H} {W : World} {fuel : Nat} {l : List Value} (hl : l.length = 6) {x : DataW H × List MemPlace}
  (h : DataW.trod enc Tryz.prog W 0 (fun _ => true) true fuel 24 l = some x) : ∃ c : Cel, l = [.string c.row, .string c.col, .int .u64 c.ts, .int .u64 c.seq, .bool c.del, .string c.val] ∧ CelOK c ∧ c.row.size ≤ maxLen ∧ c.col.size ≤ maxLen ∧ c.val.size ≤ maxLen := by
 obtain ⟨ys, n', hn', hy, hlen, hyl, hf⟩ := DataW.trod_struct Tryz.underlying24 h
 have hyl6 : ys.length = 6 := hyl
 match l, hl, ys, hyl6 with
 |[v0, v1, v2, v3, v4, v5], _, [y0, y1, y2, y3, y4, y5], _ =>
  have g0 : DataW.trod enc Tryz.prog W 0 (fun _ => true) true n' 9 (List.take (Tryz.prog.cellsOf 9) [v0, v1, v2, v3, v4, v5]) = some y0 := hf 0 _ rfl
  have g1 : DataW.trod enc Tryz.prog W 0 (fun _ => true) true n' 9 (List.take (Tryz.prog.cellsOf 9) [v1, v2, v3, v4, v5]) = some y1 := hf 1 _ rfl
  have g2 : DataW.trod enc Tryz.prog W 0 (fun _ => true) true n' 22 (List.take (Tryz.prog.cellsOf 22) [v2, v3, v4, v5]) = some y2 := hf 2 _ rfl
  have g3 : DataW.trod enc Tryz.prog W 0 (fun _ => true) true n' 22 (List.take (Tryz.prog.cellsOf 22) [v3, v4, v5]) = some y3 := hf 3 _ rfl
  have g4 : DataW.trod enc Tryz.prog W 0 (fun _ => true) true n' 4 (List.take (Tryz.prog.cellsOf 4) [v4, v5]) = some y4 := hf 4 _ rfl
  have g5 : DataW.trod enc Tryz.prog W 0 (fun _ => true) true n' 9 (List.take (Tryz.prog.cellsOf 9) [v5]) = some y5 := hf 5 _ rfl
  rw [one9] at g0 g1 g5
  rw [one22] at g2 g3
  rw [one4] at g4
  obtain ⟨z0, h0, _, w0⟩ := DataW.trod_string Tryz.underlying9 g0
  obtain ⟨z1, h1, _, w1⟩ := DataW.trod_string Tryz.underlying9 g1
  obtain ⟨z2, h2, _, w2⟩ := DataW.trod_int Tryz.underlying22 g2
  obtain ⟨z3, h3, _, w3⟩ := DataW.trod_int Tryz.underlying22 g3
  obtain ⟨z4, h4, _⟩ := DataW.trod_bool Tryz.underlying4 g4
  obtain ⟨z5, h5, _, w5⟩ := DataW.trod_string Tryz.underlying9 g5
  simp only [List.take_succ_cons, List.take_zero, List.cons.injEq, and_true] at h0 h1 h2 h3 h4 h5
  subst h0 h1 h2 h3 h4 h5
  have b2 := wf_u64 w2
  have b3 := wf_u64 w3
  unfold maxLen at w0 w1 w5
  refine ⟨⟨z0, z1, z2.toNat, z3.toNat, z4, z5⟩, ?_, ⟨?_, ?_, ?_, ?_, ?_⟩, ?_, ?_, ?_⟩
  ·simp only [List.cons.injEq, Value.int.injEq, true_and, and_true]
   omega
  all_goals (try unfold maxLen); simp only; omega
theorem open_cel {H : Type} {enc : TypeId × Value → H} {W : World} {r : Reach} {b0 : Nat} {v : Value} {d : DataW H} {p : List MemPlace} (hv : Value.okWide Tryz.prog W r b0 24 v)
  (h : DataW.Trod enc Tryz.prog W 0 (fun _ => true) true 24 v d p) : ∃ c : Cel, v = cellV c ∧ CelOK c := by
 obtain ⟨cs, rfl, hsz⟩ := okWide_struct Tryz.underlying24 hv
 obtain ⟨fuel, hf⟩ := h
 obtain ⟨l⟩ := cs
 have hl : l.length = 6 := hsz.trans six24
 obtain ⟨c, hc, ok, _⟩ := read_cel hl hf
 exact ⟨c, by rw [hc]; rfl, ok⟩
end
end
section
section
open Go.RowKit Go.Lib
end
section
open Go.RowKit Go.Lib
theorem body_len : ∀ (l : List Cel) (i : Nat) (last : List UInt8), l.all mayB = true → (bodyL i last l).length ≤ 286 * l.length
 |[], _, _, _ => Nat.le_refl _
 |c :: r, i, last, h => by
  rw [List.all_cons, Bool.and_eq_true] at h
  unfold bodyL
  have h1 := body_len r (i + 1) (keyL c) h.2
  have h2 := key_short h.1
  have h3 := (may_sizes h.1).2.2
  have h4 : (entL (lastAt i last) c).length ≤ 286 := by
   unfold entL
   simp only [List.length_append, List.length_drop, List.length_cons, List.length_nil]
   have e1 : ∀ n, (two n).length = 2 := fun _ => rfl
   have e2 : c.val.data.toList.length = c.val.size := rfl
   rw [e1, e1, e2]
   omega
  rw [List.length_append, List.length_cons]
  omega
theorem built_size {l : List Cel} : (buildP l).1.size ≤ 80000 := by
 by_cases h0 : (buildP l).2 = 0
 ·obtain ⟨h1, h2, _, h4⟩ := build_ok h0
  rw [h4, bl_size, List.length_cons]
  have := body_len l 0 [] h2
  omega
 ·unfold buildP at h0 ⊢
  split
  ·exact Nat.zero_le _
  ·split
   ·exact Nat.zero_le _
   ·split
    ·exact Nat.zero_le _
    ·rename_i h1 h2 h3
     rw [if_neg h1, if_neg h2, if_neg h3] at h0
     exact absurd rfl h0
end
end
section
open Go.RowKit
def SKept (w w' : World) : Prop := ∀ (k : Nat) (cs : Array Value) (T : TypeId), T ≠ 5 → w.heap[k]? = some (Obj.cells cs T (0, 0)) → w'.heap[k]? = some (Obj.cells cs T (0, 0))
theorem SKept.refl (w : World) : SKept w w := fun _ _ _ _ h => h
theorem SKept.alloc (w : World) (o : Obj) : SKept w (w.alloc o) := fun _ _ _ _ h => heap_alloc_old h
theorem SKept.freeze {w : World} {g : Nat} {cur : Array Value} {fz : Nat × Nat} (hg : w.heap[g]? = some (.cells cur 5 fz)) (n : Nat) : SKept w (w.freeze ⟨g, 0, none⟩ n) := by
 intro k cs T hT hk
 have hne : g ≠ k := fun e => by
  subst e
  rw [hg] at hk
  cases hk
  exact hT rfl
 rw [← hk]
 unfold World.freeze
 split
 ·rfl
 ·simp [Array.getElem?_modify, hne]
theorem string_kept {T : TypeId} (B b : Nat) (l : List UInt8) (w : World) (h : BAt T B b l w) :
  Calls Tryz.prog 32 #[.pointer (some ⟨b, 0, none⟩)] w fun e w' => e = .returned (.string ⟨l.toArray⟩) ∧ Below B w w' ∧ SKept w w' := by
 obtain ⟨p, hB, v, hbk, hown, hne⟩ := h.at
 have hBw := h.le
 rw [Lib.byteCells_length] at hown
 have hlt := heap_lt hbk
 rcases hown.2 with ⟨rfl, h0⟩ | ⟨g, cap, cur, rfl, hbg, hg, hnc, hcm, hcs, htake⟩
 ·have : l = [] := List.eq_nil_of_length_eq_zero h0
  subst this
  have hUS := str_zero
  have c1 : w.drew.cell? ⟨b, 1, none⟩ = some (.slice none 0 0) := by rw [Lib.cell_of_heap (w := w.drew) hbk]; rfl
  have hSD : (Builtin.unsafeSliceData_ #[67] 140 #[.slice none 0 0]).run Tryz.prog w.drew = .ok (.pointer none) w.drew := rfl
  go_enter Tryz.func32, Tryz.ntmps32
  go_wp2
  go_region
  all_goals (go_wp2; go_ret; exact ⟨rfl, Below.drew (Below.refl B w), fun _ _ _ _ h => h⟩)
 ·by_cases hl : l = []
  ·subst hl
   have hUS := str_zero
   by_cases hc0 : cap = 0
   ·subst hc0
    have c0 : w.cell? ⟨b, 1, none⟩ = some (.slice (some ⟨g, 0, none⟩) 0 0) := by rw [Lib.cell_of_heap hbk]; rfl
    have c1 : w.drew.cell? ⟨b, 1, none⟩ = some (.slice (some ⟨g, 0, none⟩) 0 0) := c0
    have hSD : (Builtin.unsafeSliceData_ #[67] 140 #[.slice (some ⟨g, 0, none⟩) 0 0]).run Tryz.prog w.drew = .ok (.pointer (some ⟨w.drew.heap.size, 0, none⟩)) (w.drew.alloc (.view ⟨g, 0, none⟩ 5)) :=
     Lib.run_unsafeSliceData_zero w.drew _ _ 5 Tryz.underlying140 ⟨g, 0, none⟩ 0 (5, cur.size) (by have hg' : w.drew.heap[g]? = some (.cells cur 5 (0, 0)) := hg; simp [World.shape?, hg'])
    have c2 : (w.drew.alloc (.view ⟨g, 0, none⟩ 5)).cell? ⟨b, 1, none⟩ = some (.slice (some ⟨g, 0, none⟩) 0 0) := by
     rw [Lib.cell_of_heap ((Lib.alloc_old w.drew _ b hlt).trans hbk)]; rfl
    have c3 : (w.alloc (.view ⟨g, 0, none⟩ 5)).drew.cell? ⟨b, 1, none⟩ = some (.slice (some ⟨g, 0, none⟩) 0 0) := c2
    go_enter Tryz.func32, Tryz.ntmps32
    go_wp2
    go_region
    all_goals (go_wp2; go_ret; exact ⟨rfl, (Below.drew (Below.refl B w)).alloc hBw _, fun _ _ _ _ h => heap_alloc_old (w := w) h⟩)
   ·have c1 : w.drew.cell? ⟨b, 1, none⟩ = some (.slice (some ⟨g, 0, none⟩) 0 cap) := by rw [Lib.cell_of_heap (w := w.drew) hbk]; rfl
    have hSD : (Builtin.unsafeSliceData_ #[67] 140 #[.slice (some ⟨g, 0, none⟩) 0 cap]).run Tryz.prog w.drew = .ok (.pointer (some ⟨g, 0, none⟩)) w.drew :=
     Lib.run_unsafeSliceData_row _ _ _ _ _ _ hc0
    clear hc0
    go_enter Tryz.func32, Tryz.ntmps32
    go_wp2
    go_region
    all_goals (go_wp2; go_ret; exact ⟨rfl, Below.drew (Below.refl B w), fun _ _ _ _ h => h⟩)
  ·have hl0 : l.length ≠ 0 := fun e => hl (List.eq_nil_of_length_eq_zero e)
   have c1 : w.drew.cell? ⟨b, 1, none⟩ = some (.slice (some ⟨g, 0, none⟩) l.length cap) := by rw [Lib.cell_of_heap (w := w.drew) hbk]; rfl
   have hSD : (Builtin.unsafeSliceData_ #[67] 140 #[.slice (some ⟨g, 0, none⟩) l.length cap]).run Tryz.prog w.drew = .ok (.pointer (some ⟨g, 0, none⟩)) w.drew :=
    Lib.run_unsafeSliceData_row _ _ _ _ _ _ (by omega)
   have hUS : (Builtin.unsafeString_ #[140, 3] 9 #[.pointer (some ⟨g, 0, none⟩), .int .i64 l.length]).run Tryz.prog w.drew = .ok (.string ⟨l.toArray⟩) (w.drew.freeze ⟨g, 0, none⟩ l.length) := by
    refine Lib.run_unsafeString_row w.drew 140 3 9 5 Tryz.underlying140 Tryz.cellsB g cur.size (by have hg' : w.drew.heap[g]? = some (.cells cur 5 (0, 0)) := hg; simp [World.shape?, hg']) l hl (by omega) (by unfold maxLen at hcm; omega) ?_
    intro j x hx
    exact hown.cells (g := g) rfl j (.int .u8 x.toNat) (by simp [Lib.byteCells, hx])
   go_enter Tryz.func32, Tryz.ntmps32
   go_wp2
   go_region
   all_goals (go_wp2; go_ret; exact ⟨rfl, Lib.below_freeze (Below.drew (Below.refl B w)) (p := ⟨g, 0, none⟩) hbg _, fun k cs T hT hk => SKept.freeze (w := w.drew) hg _ k cs T hT hk⟩)
end
end Go.Proofs.YtkjmgbifoaoefaaGreatDoor
