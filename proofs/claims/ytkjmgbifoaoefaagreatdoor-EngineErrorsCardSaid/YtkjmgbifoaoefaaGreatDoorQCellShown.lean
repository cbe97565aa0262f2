/-
 Decode. Encode. Encode and Decode: plain laws. The small case of layer 1, and the bound. Cells stand as their keys' bytes do. Maps as lists of entries: laws on the model's map operations, over any program. The disk as data, and where it lies in memory. The disk's inner functions: set. The disk's inner functions: named; the small methods. The disk's small methods: New, On, Up, Size, Fuse, Synced, Read.
-/
import Derived.Test.YtkjmgbifoaoefaaGreatDoorQBytes
import Derived.Deep.RegionHeld3
import Derived.Outline
import Derived.Maps.RangeWalk
import Derived.WalkKit
import Derived.Test.YtkjmgbifoaoefaaGreatDoorRows
import Derived.Test.YtkjmgbifoaoefaaGreatDoorQMem
import Derived.Deep.RegionLaw
set_option maxRecDepth 100000
set_option maxHeartbeats 8000000
namespace Go.Proofs.YtkjmgbifoaoefaaGreatDoor
section
section
open Go.RowKit
end
section
open Go.RowKit
def delN (d : Bool) : UInt8 := if d then 1 else 0
def encL (c : Cel) : List UInt8 :=
 UInt8.ofNat c.row.size :: c.row.data.toList ++ (UInt8.ofNat c.col.size :: c.col.data.toList) ++ le8 c.ts ++ le8 c.seq ++ [delN c.del, UInt8.ofNat c.val.size] ++ c.val.data.toList
theorem enc_yes (c : Cel) (w : World) (hc : CelOK c) (hmay : mayB c = true) : Calls Tryz.prog 28 #[cellV c] w fun e w' => e = .returned (.tuple #[.string ⟨(encL c).toArray⟩, .int .i64 0]) ∧ Fp [] w w' := by
 have n1 := fun w => may_any c w hc
 obtain ⟨hr, hk, hv, _⟩ := mayB_true hmay
 rw [hmay] at n1
 have ht := hc.ts
 have hq := hc.seq
 unfold cellV at n1 ⊢
 have N1 := Lib.hid n1
 have HE : Hid (encL c = UInt8.ofNat c.row.size :: c.row.data.toList ++ (UInt8.ofNat c.col.size :: c.col.data.toList) ++ le8 c.ts ++ le8 c.seq ++ [delN c.del, UInt8.ofNat c.val.size] ++ c.val.data.toList) := rfl
 clear n1 hmay
 obtain ⟨dl, hdl⟩ : ∃ dl, dl = c.del := ⟨_, rfl⟩
 rw [← hdl] at N1 HE ⊢
 obtain ⟨W, hW⟩ : ∃ W, W = w.alloc (.cells #[.string c.row, .string c.col, .int .u64 c.ts, .int .u64 c.seq, .bool dl, .string c.val] 24) := ⟨_, rfl⟩
 have hb : W.heap[w.heap.size]? = some (.cells #[.string c.row, .string c.col, .int .u64 c.ts, .int .u64 c.seq, .bool dl, .string c.val] 24 (0, 0)) := by
  rw [hW]; exact heap_alloc_at rfl _
 have hfw : Fp [] w W := by rw [hW]; exact Fp.alloc _ _
 have hcell : ∀ w', Fp [] W w' → w'.cell? ⟨w.heap.size, 0, none⟩ = some (.string c.row) ∧ w'.cell? ⟨w.heap.size, 1, none⟩ = some (.string c.col) ∧ w'.cell? ⟨w.heap.size, 2, none⟩ = some (.int .u64 c.ts) ∧ w'.cell? ⟨w.heap.size, 3, none⟩ = some (.int .u64 c.seq) ∧ w'.cell? ⟨w.heap.size, 4, none⟩ = some (.bool dl) ∧ w'.cell? ⟨w.heap.size, 5, none⟩ = some (.string c.val) ∧ w.heap.size < w'.heap.size := by
  intro w' hf
  have h1 := (hf.block _ (heap_lt hb) (by simp)).trans hb
  exact ⟨cell_of_block h1 0, cell_of_block h1 1, cell_of_block h1 2, cell_of_block h1 3, cell_of_block h1 4, cell_of_block h1 5, heap_lt h1⟩
 have HCELL := Lib.hid hcell
 have HFW := Lib.hid hfw
 have HW := Lib.hid hW
 clear hcell hfw hb hW hdl
 go_enter Tryz.func28, Tryz.ntmps28
 go_wp2_with (fail)
 rw [← HW.out]
 refine (N1.out _).mono ?_
 rintro e w1 ⟨rfl, hf1⟩
 have HF1 := Lib.hid hf1
 obtain ⟨c0, -, -, -, -, -, hlt⟩ := HCELL.out _ hf1
 have hb1 := hf1.size
 clear hf1
 have hbw1 : W.heap.size ≤ w1.heap.size := hb1
 go_wp2_with (at_builtin; refine wpList_append_str rfl _ _ rfl W.heap.size _ _ rfl (Owned.one w1 W.heap.size hbw1 (by omega)) _ rfl (by simp; omega) (by simp; omega) ?_; intro v2 w2 hown2 hbel2)
 have HF2 := Lib.hid ((HF1.out.alloc' _).belowTrans hbel2)
 have HO2 := Lib.hid hown2
 obtain ⟨-, d1, -, -, -, -, hlt2⟩ := HCELL.out _ HF2.out
 have hbw2 : W.heap.size ≤ w2.heap.size := HF2.out.size
 have hL2 : ([UInt8.ofNat c.row.size] ++ c.row.data.toList).length ≤ 41 := by
  have := Lib.size_eq c.row; simp only [List.length_append, List.length_cons, List.length_nil]; omega
 have HL2 := Lib.hid hL2
 clear c0 hown2 hbel2 hL2
 go_wp2_with (fail)
 have hwr := wrap_u8 (n := c.col.size) (by omega)
 go_region_held3 (fun w' => w'.cell? ⟨w.heap.size, 1, none⟩ = some (.string c.col))
  (first
   |go_keep
   |exact (HCELL.out _ HF3.out).2.1
   |exact (HCELL.out _ HF4.out).2.1)
  (first
   |(refine step_bytes (by rfl) _ _ (by rfl) W.heap.size _ _ (by rfl) ((HO2.out.alloc _).drew) _ _ (by rfl) (Reads.one w2 (n := c.col.size) (by omega)).drew (by have := HL2.out; simp only [List.length_cons, List.length_nil]; omega) (by simp; omega) ?_; intro v3 w3 hown3 hbel3; have HF3 := Lib.hid ((HF2.out.alloc' _).drew'.belowTrans hbel3); have HO3 := Lib.hid hown3; clear hown3 hbel3)
   |(refine step_str (by rfl) _ _ (by rfl) W.heap.size _ _ (by rfl) HO3.out _ (by rfl) (by have := HL2.out; simp only [List.length_append, List.length_cons, List.length_nil] at this ⊢; omega) HF3.out.size ?_; intro v4 w4 hown4 hbel4; have HF4 := Lib.hid (HF3.out.belowTrans hbel4); have HO4 := Lib.hid hown4; clear hown4 hbel4))
 have hL4 : (([UInt8.ofNat c.row.size] ++ c.row.data.toList) ++ [UInt8.ofNat c.col.size] ++ c.col.data.toList).length ≤ 82 := by
  have := HL2.out; have := Lib.size_eq c.col; simp only [List.length_append, List.length_cons, List.length_nil] at *; omega
 have HL4 := Lib.hid hL4
 clear hL4 hwr
 obtain ⟨-, -, c2, c3, -, -, hlt4⟩ := HCELL.out _ HF4.out
 go_wp2_with (fail)
 go_region_held3 (fun w' => w'.cell? ⟨w.heap.size, 2, none⟩ = some (.int .u64 c.ts) ∧ w'.cell? ⟨w.heap.size, 3, none⟩ = some (.int .u64 c.seq))
  (first
   |go_keep
   |exact ⟨(HCELL.out _ HF5.out).2.2.1, (HCELL.out _ HF5.out).2.2.2.1⟩
   |exact ⟨(HCELL.out _ HF6.out).2.2.1, (HCELL.out _ HF6.out).2.2.2.1⟩)
  (first
   |(go_at_call 70; (with_reducible refine (little_any _ W.heap.size _ _ c.ts (by first | exact HO4.out | exact HO4.out.drew) (by first | exact HF4.out.size | exact HF4.out.drew'.size) (by have := HL4.out; omega) (by omega)).mono ?_); rintro e w5 ⟨v5, rfl, ho5, hb5⟩; have HF5 := Lib.hid (HF4.out.drew'.belowTrans hb5); have HO5 := Lib.hid ho5; clear ho5 hb5)
   |(go_at_call 70; (with_reducible refine (little_any _ W.heap.size _ _ c.seq (by first | exact HO5.out | exact HO5.out.drew) (by first | exact HF5.out.size | exact HF5.out.drew'.size) (by have := HL4.out; rw [List.length_append, le8_length]; omega) (by omega)).mono ?_); rintro e w6 ⟨v6, rfl, ho6, hb6⟩; have HF6 := Lib.hid (HF5.out.belowTrans hb6); have HO6 := Lib.hid ho6; clear ho6 hb6))
 obtain ⟨-, -, -, -, c4, c5, hlt6⟩ := HCELL.out _ HF6.out
 have hb6 : W.heap.size ≤ w6.heap.size := HF6.out.size
 obtain ⟨a6, n6, cap6, rfl⟩ := HO6.out.slice
 cases dl
 ·obtain ⟨cap, W7, hconv, hrow, hf7⟩ := bytes_brow (w6.alloc (.cells #[.int .u8 0, .int .u8 c.val.size] 5)) c.val
  have hsz : (w6.alloc (.cells #[.int .u8 0, .int .u8 c.val.size] 5)).heap.size = w6.heap.size + 1 := by simp
  rw [hsz] at hconv hrow
  clear hsz
  have ho2 : Owned (w6.alloc (.cells #[.int .u8 0, .int .u8 c.val.size] 5)) W.heap.size _ _ := Owned.two w6 W.heap.size hb6 (n := 0) (m := c.val.size) (by omega) (by omega)
  have hr1 := ((HO6.out.alloc (.cells #[.int .u8 0, .int .u8 c.val.size] 5)).fp hf7).reads
  have hr2 := (ho2.fp hf7).reads
  have hr3 := hrow.reads (cap := cap)
  rw [atB_all] at hr3
  have hcat := concat3_any W7 _ _ _ _ _ _ hr1 hr2 hr3 (by have := HL4.out; have := Lib.size_eq c.val; simp only [List.length_append, List.length_cons, List.length_nil, le8_length] at *; omega)
  have HCAT := Lib.hid hcat
  have HF7 := Lib.hid ((HF6.out.alloc' (.cells #[.int .u8 0, .int .u8 c.val.size] 5)).trans hf7 (by simp))
  clear hrow hf7 ho2 hr1 hr2 hr3 hcat
  go_wp2_with (fail)
  refine HCAT.out.mono ?_
  rintro e w8 ⟨v8, rfl, ho8, hf8⟩
  have hs := run_str_of ho8
  have HF8 := Lib.hid (HF7.out.trans hf8 (by simp))
  clear ho8 hf8 hconv
  go_wp2_with (fail)
  go_ret2
  refine ⟨?_, HFW.out.trans HF8.out (by simp)⟩
  rw [HE.out]
  simp [delN]
 ·obtain ⟨cap, W7, hconv, hrow, hf7⟩ := bytes_brow (w6.alloc (.cells #[.int .u8 1, .int .u8 c.val.size] 5)) c.val
  have hsz : (w6.alloc (.cells #[.int .u8 1, .int .u8 c.val.size] 5)).heap.size = w6.heap.size + 1 := by simp
  rw [hsz] at hconv hrow
  clear hsz
  have ho2 : Owned (w6.alloc (.cells #[.int .u8 1, .int .u8 c.val.size] 5)) W.heap.size _ _ := Owned.two w6 W.heap.size hb6 (n := 1) (m := c.val.size) (by omega) (by omega)
  have hr1 := ((HO6.out.alloc (.cells #[.int .u8 1, .int .u8 c.val.size] 5)).fp hf7).reads
  have hr2 := (ho2.fp hf7).reads
  have hr3 := hrow.reads (cap := cap)
  rw [atB_all] at hr3
  have hcat := concat3_any W7 _ _ _ _ _ _ hr1 hr2 hr3 (by have := HL4.out; have := Lib.size_eq c.val; simp only [List.length_append, List.length_cons, List.length_nil, le8_length] at *; omega)
  have HCAT := Lib.hid hcat
  have HF7 := Lib.hid ((HF6.out.alloc' (.cells #[.int .u8 1, .int .u8 c.val.size] 5)).trans hf7 (by simp))
  clear hrow hf7 ho2 hr1 hr2 hr3 hcat
  go_wp2_with (fail)
  refine HCAT.out.mono ?_
  rintro e w8 ⟨v8, rfl, ho8, hf8⟩
  have hs := run_str_of ho8
  have HF8 := Lib.hid (HF7.out.trans hf8 (by simp))
  clear ho8 hf8 hconv
  go_wp2_with (fail)
  go_ret2
  refine ⟨?_, HFW.out.trans HF8.out (by simp)⟩
  rw [HE.out]
  simp [delN]
end
section
open Go.Lib
def bl (l : List UInt8) : ByteArray := ⟨l.toArray⟩
theorem bl_data (s : ByteArray) : bl s.data.toList = s := mk_data s
theorem bl_size (l : List UInt8) : (bl l).size = l.length := by show l.toArray.size = _; simp
theorem bl_toList (l : List UInt8) : (bl l).data.toList = l := by simp [bl]
theorem toNat_ofNat {n : Nat} (h : n < 256) : (UInt8.ofNat n).toNat = n := by rw [UInt8.toNat_ofNat', Nat.mod_eq_of_lt h]
end
section
open Go.RowKit
def ca : Cel := ⟨⟨#[114]⟩, ⟨#[99]⟩, 5, 0, false, ⟨#[118]⟩⟩
end
section
open Go.Lib
end
end
section
open Go.RowKit Go.Maps Go.MapKept Go.ChangeMaps
section
variable {κ ν : Type}
def mget [DecidableEq κ] (F : List (κ × ν)) (x : κ) : Option ν := (F.find? (fun p => p.1 == x)).map (·.2)
def mput [DecidableEq κ] : List (κ × ν) → κ → ν → List (κ × ν)
 |[], x, v => [(x, v)]
 |p :: r, x, v => if p.1 = x then (x, v) :: r else p :: mput r x v
def mdel [DecidableEq κ] (F : List (κ × ν)) (x : κ) : List (κ × ν) := F.filter (fun p => p.1 ≠ x)
def mkeys (F : List (κ × ν)) : List κ := F.map (·.1)
structure MTy (P : Program) (t k e : TypeId) (κ ν : Type) where
 K : Keyed P k
 ht : P.underlying t = some (.map k e)
 kv : κ → Value
 mv : ν → Value
 ok : κ → Prop
 inj : ∀ {a b}, kv a = kv b → a = b
 key : ∀ {a}, ok a → ∃ l, keyOf P k (kv a) = some l
 zero : ν
 hz : ∀ w, (zeroValue e).run P w = .ok (mv zero) w
variable {P : Program} {t k e : TypeId} (M : MTy P t k e κ ν)
def MapAt (w : World) (b : Nat) (F : List (κ × ν)) : Prop :=
 ∃ es clock, w.heap[b]? = some (.map es clock) ∧ Stamped es clock ∧ es.toList.map (fun x => (x.key, x.val)) = F.map (fun p => (M.kv p.1, M.mv p.2)) ∧ ∀ p ∈ F, M.ok p.1
theorem entry_of {M : MTy P t k e κ ν} {es : List MapEntry} {F : List (κ × ν)} (h : es.map (fun x => (x.key, x.val)) = F.map (fun p => (M.kv p.1, M.mv p.2))) {j : Nat} {x : MapEntry} (hx : es[j]? = some x) :
  ∃ p, F[j]? = some p ∧ x.key = M.kv p.1 ∧ x.val = M.mv p.2 := by
 have h1 := congrArg (fun l => l[j]?) h
 simp only [List.getElem?_map, hx, Option.map_some] at h1
 cases hF : F[j]? with
 |none => rw [hF] at h1; cases h1
 |some p => rw [hF] at h1; simp at h1; exact ⟨p, rfl, h1.1, h1.2⟩
theorem MapAt.keys_nodup {M : MTy P t k e κ ν} {w : World} {b : Nat} {F : List (κ × ν)} (h : MapAt M w b F) : (mkeys F).Nodup := by
 obtain ⟨es, clock, hb, hst, hF, hok⟩ := h
 have h3 := ((stamped_iff es clock).1 hst).2.2
 unfold mkeys List.Nodup
 rw [List.pairwise_map]
 have h4 : (es.toList.map (fun x => (x.key, x.val))).Pairwise (fun p q => p.1 ≠ q.1) := by rw [List.pairwise_map]; exact h3
 rw [hF, List.pairwise_map] at h4
 exact h4.imp (fun hne e => hne (by rw [e]))
theorem MapAt.lt {M : MTy P t k e κ ν} {w : World} {b : Nat} {F : List (κ × ν)} (h : MapAt M w b F) : b < w.heap.size := by
 obtain ⟨es, clock, hb, _⟩ := h
 exact (Array.getElem?_eq_some_iff.1 hb).1
theorem MapAt.key_ok {M : MTy P t k e κ ν} {w : World} {b : Nat} {F : List (κ × ν)} (h : MapAt M w b F) {p : κ × ν} (hp : p ∈ F) : M.ok p.1 := by
 obtain ⟨es, clock, _, _, _, hok⟩ := h
 exact hok p hp
theorem MapAt.of_block {M : MTy P t k e κ ν} {w w' : World} {b : Nat} {F : List (κ × ν)} (h : MapAt M w b F) (hb : w'.heap[b]? = w.heap[b]?) : MapAt M w' b F := by
 obtain ⟨es, clock, h1, h2⟩ := h
 exact ⟨es, clock, hb.trans h1, h2⟩
theorem MapAt.made (w : World) : MapAt M (w.alloc (.map #[] 0)) w.heap.size [] :=
 ⟨#[], 0, (MapKept.heap_alloc w _).1, stamped_empty 0, rfl, by simp⟩
theorem mget_none [DecidableEq κ] {F : List (κ × ν)} {x : κ} (h : ∀ p ∈ F, p.1 ≠ x) : mget F x = none := by
 unfold mget
 rw [List.find?_eq_none.2]
 ·rfl
 ·intro p hp; simpa using h p hp
theorem mget_some [DecidableEq κ] : ∀ {F : List (κ × ν)} (_ : (mkeys F).Nodup) {x : κ} {v : ν} (_ : (x, v) ∈ F), mget F x = some v
 |[], _, _, _, h => by cases h
 |p :: r, hn, x, v, h => by
  unfold mkeys at hn
  rw [List.map_cons, List.nodup_cons] at hn
  unfold mget
  rcases List.mem_cons.1 h with rfl | h
  ·simp
  ·have : p.1 ≠ x := fun e => hn.1 (List.mem_map.2 ⟨(x, v), h, e.symm⟩)
   rw [List.find?_cons]
   simp only [beq_eq_false_iff_ne.2 this]
   exact mget_some hn.2 h
theorem mget_mem [DecidableEq κ] {F : List (κ × ν)} {x : κ} {v : ν} (h : mget F x = some v) : (x, v) ∈ F := by
 unfold mget at h
 cases hf : F.find? (fun p => p.1 == x) with
 |none => rw [hf] at h; cases h
 |some p =>
  rw [hf] at h
  have h1 := List.mem_of_find?_eq_some hf
  have h2 := List.find?_some hf
  simp at h2 h
  subst h2; subst h
  exact h1
theorem mget_none_iff [DecidableEq κ] {F : List (κ × ν)} {x : κ} : mget F x = none ↔ ∀ p ∈ F, p.1 ≠ x := by
 constructor
 ·intro h p hp e
  unfold mget at h
  rw [Option.map_eq_none_iff, List.find?_eq_none] at h
  have := h p hp
  simp [e] at this
 ·exact mget_none
theorem MapAt.find {M : MTy P t k e κ ν} {F : List (κ × ν)} {w : World} {es : Array MapEntry} (hF : es.toList.map (fun x => (x.key, x.val)) = F.map (fun p => (M.kv p.1, M.mv p.2))) (hok : ∀ p ∈ F, M.ok p.1) {x : κ} (hx : M.ok x) :
  ((Instr.findKey k (M.kv x) es.toList).run P w = .ok none w ∧ (∀ y ∈ es.toList, y.key ≠ M.kv x) ∧ ∀ p ∈ F, p.1 ≠ x) ∨
  ∃ j y v, (Instr.findKey k (M.kv x) es.toList).run P w = .ok (some (j, y.val)) w ∧ es.toList[j]? = some y ∧ F[j]? = some (x, v) ∧ y.key = M.kv x ∧ y.val = M.mv v := by
 obtain ⟨l, hl⟩ := M.key hx
 rcases M.K.find w hl es.toList (fun y hy => by
  obtain ⟨j, hj, rfl⟩ := List.getElem_of_mem hy
  obtain ⟨p, hp, h1, _⟩ := entry_of hF (List.getElem?_eq_getElem hj)
  rw [h1]
  exact M.key (hok p (List.mem_of_getElem? hp))) with ⟨h1, h2⟩ | ⟨j, y, h1, h2, h3⟩
 ·refine Or.inl ⟨h1, h2, fun p hp e => ?_⟩
  have hm : (M.kv p.1, M.mv p.2) ∈ F.map (fun p => (M.kv p.1, M.mv p.2)) := List.mem_map.2 ⟨p, hp, rfl⟩
  rw [← hF] at hm
  obtain ⟨y, hy, he⟩ := List.mem_map.1 hm
  have : y.key = M.kv p.1 := congrArg Prod.fst he
  exact h2 y hy (by rw [this, e])
 ·obtain ⟨p, hp, h4, h5⟩ := entry_of hF h2
  have : p.1 = x := M.inj (h4.symm.trans h3)
  exact Or.inr ⟨j, y, p.2, h1, h2, by rw [hp, ← this], h3, h5⟩
theorem MapAt.lookup [DecidableEq κ] {M : MTy P t k e κ ν} {w : World} {b : Nat} {F : List (κ × ν)} (h : MapAt M w b F) (c : Bool) {x : κ} (hx : M.ok x) :
  (Instr.lookup t (.map (some b)) (M.kv x) c).run P w = .ok (if c then .tuple #[M.mv ((mget F x).getD M.zero), .bool (mget F x).isSome] else M.mv ((mget F x).getD M.zero)) w := by
 have hnd := h.keys_nodup
 obtain ⟨es, clock, hb, hst, hF, hok⟩ := h
 obtain ⟨l, hl⟩ := M.key hx
 rcases MapAt.find (w := w) hF hok hx with ⟨h1, _, h2⟩ | ⟨j, y, v, h1, h2, h3, h4, h5⟩
 ·rw [mget_none h2]
  cases c <;> simp [Instr.lookup, run_underlying M.ht, MapKept.run_getObj_map hb, M.K.check w _ hl, h1, M.hz, Result.andThen]
 ·rw [mget_some hnd (List.mem_of_getElem? h3)]
  cases c <;> simp [Instr.lookup, run_underlying M.ht, MapKept.run_getObj_map hb, M.K.check w _ hl, h1, h5, Result.andThen]
theorem mput_none [DecidableEq κ] : ∀ {F : List (κ × ν)} {x : κ} {v : ν} (_ : ∀ p ∈ F, p.1 ≠ x), mput F x v = F ++ [(x, v)]
 |[], _, _, _ => rfl
 |p :: r, x, v, h => by
  unfold mput
  rw [if_neg (h p (by simp)), mput_none (fun q hq => h q (by simp [hq]))]
  rfl
theorem mput_set [DecidableEq κ] : ∀ {F : List (κ × ν)} (_ : (mkeys F).Nodup) {x : κ} {v v0 : ν} {j : Nat} (_ : F[j]? = some (x, v0)), mput F x v = F.set j (x, v)
 |[], _, _, _, _, _, h => by simp at h
 |p :: r, hn, x, v, v0, j, h => by
  unfold mkeys at hn
  rw [List.map_cons, List.nodup_cons] at hn
  unfold mput
  cases j with
  |zero => simp at h; subst h; simp
  |succ j =>
   simp at h
   have : p.1 ≠ x := fun e => hn.1 (List.mem_map.2 ⟨(x, v0), List.mem_of_getElem? h, e.symm⟩)
   rw [if_neg this, mput_set hn.2 h]
   rfl
theorem mem_mput [DecidableEq κ] {F : List (κ × ν)} {x : κ} {v : ν} {p : κ × ν} : p ∈ mput F x v → p ∈ F ∨ p = (x, v) := by
 induction F with
 |nil => intro h; right; simpa [mput] using h
 |cons q r ih =>
  intro h
  unfold mput at h
  split at h
  ·rcases List.mem_cons.1 h with rfl | h
   ·exact Or.inr rfl
   ·exact Or.inl (by simp [h])
  ·rcases List.mem_cons.1 h with rfl | h
   ·exact Or.inl (by simp)
   ·rcases ih h with h | h
    ·exact Or.inl (by simp [h])
    ·exact Or.inr h
theorem MapAt.update [DecidableEq κ] {M : MTy P t k e κ ν} {w : World} {b : Nat} {F : List (κ × ν)} (h : MapAt M w b F) {x : κ} (hx : M.ok x) (v : ν) :
  ∃ es' clock', (Instr.mapUpdate t (.map (some b)) (M.kv x) (M.mv v)).run P w = .ok () (setBlock w b (.map es' clock')) ∧ MapAt M (setBlock w b (.map es' clock')) b (mput F x v) ∧
   (∀ es0 clock0, w.heap[b]? = some (.map es0 clock0) → (mget F x).isSome = true → clock' = clock0 ∧ es'.toList.map (·.born) = es0.toList.map (·.born)) := by
 have hnd := h.keys_nodup
 obtain ⟨es, clock, hb, hst, hF, hok⟩ := h
 obtain ⟨l, hl⟩ := M.key hx
 have hok' : ∀ p ∈ mput F x v, M.ok p.1 := fun p hp => by
  rcases mem_mput hp with h | rfl
  ·exact hok p h
  ·exact hx
 rcases MapAt.find (w := w) hF hok hx with ⟨h1, h0, h2⟩ | ⟨j, y, v0, h1, h2, h3, h4, h5⟩
 ·refine ⟨es.push ⟨M.kv x, M.mv v, clock⟩, clock + 1, ?_, ⟨_, _, heap_setBlock_same hb _, stamped_push hst h0, ?_, hok'⟩, ?_⟩
  ·simp [Instr.mapUpdate, run_underlying M.ht, MapKept.run_getObj_map hb, M.K.check w false hl, h1, MapKept.run_setObj_map _ hb, Result.andThen, setBlock]
  ·rw [mput_none h2]
   simp [hF]
  ·intro es0 clock0 _ hs
   rw [mget_none h2] at hs
   cases hs
 ·have hj : es[j]? = some y := by simpa using h2
  have hmod : (es.modify j (fun e' => { e' with key := M.kv x, val := M.mv v })).toList = es.toList.set j { y with key := M.kv x, val := M.mv v } := by rw [Array.toList_modify, modify_eq_set _ _ _ _ h2]
  refine ⟨es.modify j (fun e' => { e' with key := M.kv x, val := M.mv v }), clock, ?_, ⟨_, _, heap_setBlock_same hb _, stamped_modify hst _ _ (fun _ _ => rfl) (fun e' _ he' => by rw [hj] at he'; cases he'; exact h4.symm), ?_, hok'⟩, ?_⟩
  ·simp [Instr.mapUpdate, run_underlying M.ht, MapKept.run_getObj_map hb, M.K.check w false hl, h1, hj, h4, M.K.stays w hl, MapKept.run_setObj_map _ hb, Result.andThen, setBlock]
  ·rw [mput_set hnd h3, hmod, List.map_set, List.map_set, hF]
  ·intro es0 clock0 hb0 _
   rw [hb] at hb0
   cases hb0
   refine ⟨rfl, ?_⟩
   rw [hmod, List.map_set]
   apply List.ext_getElem?
   intro i
   rw [List.getElem?_set]
   split
   ·rename_i e; subst e
    rw [List.getElem?_map, h2]
    split
    ·rfl
    ·rename_i hlt; exact absurd (by simpa using (List.getElem?_eq_some_iff.1 h2).1) hlt
   ·rfl
theorem mdel_none [DecidableEq κ] {F : List (κ × ν)} {x : κ} (h : ∀ p ∈ F, p.1 ≠ x) : mdel F x = F := by
 unfold mdel
 rw [List.filter_eq_self]
 intro p hp
 simpa using h p hp
theorem mdel_erase [DecidableEq κ] : ∀ {F : List (κ × ν)} (_ : (mkeys F).Nodup) {x : κ} {v0 : ν} {j : Nat} (_ : F[j]? = some (x, v0)), mdel F x = F.eraseIdx j
 |[], _, _, _, _, h => by simp at h
 |p :: r, hn, x, v0, j, h => by
  unfold mkeys at hn
  rw [List.map_cons, List.nodup_cons] at hn
  unfold mdel
  cases j with
  |zero =>
   simp at h; subst h
   rw [List.filter_cons]
   simp only [ne_eq, not_true_eq_false, decide_false, Bool.false_eq_true, if_false, List.eraseIdx_zero, List.tail_cons]
   exact mdel_none (fun q hq e => hn.1 (List.mem_map.2 ⟨q, hq, e⟩))
  |succ j =>
   simp at h
   have : p.1 ≠ x := fun e => hn.1 (List.mem_map.2 ⟨(x, v0), List.mem_of_getElem? h, e.symm⟩)
   rw [List.filter_cons, if_pos (by simpa using this), List.eraseIdx_cons_succ]
   exact congrArg _ (mdel_erase hn.2 h)
theorem MapAt.delete [DecidableEq κ] {M : MTy P t k e κ ν} {w : World} {b : Nat} {F : List (κ × ν)} (h : MapAt M w b F) {x : κ} (hx : M.ok x) (ty : TypeId) :
  ∃ es' clock', (Builtin.delete_ #[t, k] ty #[.map (some b), M.kv x]).run P w = .ok (.tuple #[]) (setBlock w b (.map es' clock')) ∧ MapAt M (setBlock w b (.map es' clock')) b (mdel F x) := by
 have hnd := h.keys_nodup
 obtain ⟨es, clock, hb, hst, hF, hok⟩ := h
 obtain ⟨l, hl⟩ := M.key hx
 have hok' : ∀ p ∈ mdel F x, M.ok p.1 := fun p hp => hok p ((List.mem_filter.1 hp).1)
 rcases MapAt.find (w := w) hF hok hx with ⟨h1, h0, h2⟩ | ⟨j, y, v0, h1, h2, h3, h4, h5⟩
 ·refine ⟨es, clock, ?_, _, _, heap_setBlock_same hb _, hst, ?_, hok'⟩
  ·simp [Builtin.delete_, run_underlying M.ht, MapKept.run_getObj_map hb, M.K.check w _ hl, h1, MapKept.run_setObj_map _ hb, Result.andThen, setBlock]
  ·rw [mdel_none h2]; exact hF
 ·refine ⟨es.eraseIdxIfInBounds j, clock, ?_, _, _, heap_setBlock_same hb _, stamped_erase hst j, ?_, hok'⟩
  ·simp [Builtin.delete_, run_underlying M.ht, MapKept.run_getObj_map hb, M.K.check w _ hl, h1, MapKept.run_setObj_map _ hb, Result.andThen, setBlock]
  ·rw [mdel_erase hnd h3]
   have hjl : j < es.toList.length := (List.getElem?_eq_some_iff.1 h2).1
   have : (es.eraseIdxIfInBounds j).toList = es.toList.eraseIdx j := by
    have hjs : j < es.size := by simpa using hjl
    simp only [Array.eraseIdxIfInBounds, dif_pos hjs, Array.toList_eraseIdx]
   rw [this, map_eraseIdx, map_eraseIdx, hF]
theorem MapAt.len {M : MTy P t k e κ ν} {w : World} {b : Nat} {F : List (κ × ν)} (h : MapAt M w b F) (ty : TypeId) :
  (Builtin.len_ #[t] ty #[.map (some b)]).run P w = .ok (.int .i64 F.length) w := by
 obtain ⟨es, clock, hb, hst, hF, hok⟩ := h
 have : es.size = F.length := by have := congrArg List.length hF; simpa using this
 simp [Builtin.len_, run_underlying M.ht, MapKept.run_getObj_map hb, Result.andThen, goInt, this]
def RangeAt (w : World) (b r : Nat) (F : List (κ × ν)) (done : List κ) : Prop :=
 ∃ es clock since seen c0, w.heap[b]? = some (.map es clock) ∧ Stamped es clock ∧ es.toList.map (fun x => (x.key, x.val)) = F.map (fun p => (M.kv p.1, M.mv p.2)) ∧ (∀ p ∈ F, M.ok p.1) ∧
  w.heap[r]? = some (.mapIter (some b) since seen c0) ∧ (∀ x ∈ es.toList, x.born < since) ∧ since ≤ c0 ∧ since ≤ clock ∧
  (∀ (j : Nat) (x : MapEntry) (p : κ × ν), es.toList[j]? = some x → F[j]? = some p → (seen.contains x.born = true ↔ p.1 ∈ done))
theorem RangeAt.map {M : MTy P t k e κ ν} {w : World} {b r : Nat} {F : List (κ × ν)} {done : List κ} (h : RangeAt M w b r F done) : MapAt M w b F := by
 obtain ⟨es, clock, since, seen, c0, h1, h2, h3, h4, _⟩ := h
 exact ⟨es, clock, h1, h2, h3, h4⟩
theorem RangeAt.ne {M : MTy P t k e κ ν} {w : World} {b r : Nat} {F : List (κ × ν)} {done : List κ} (h : RangeAt M w b r F done) : r ≠ b := by
 obtain ⟨es, clock, since, seen, c0, h1, _, _, _, h5, _⟩ := h
 rintro rfl
 rw [h1] at h5
 cases h5
theorem RangeAt.of_block {M : MTy P t k e κ ν} {w w' : World} {b r : Nat} {F : List (κ × ν)} {done : List κ} (h : RangeAt M w b r F done) (hb : w'.heap[b]? = w.heap[b]?) (hr : w'.heap[r]? = w.heap[r]?) : RangeAt M w' b r F done := by
 obtain ⟨es, clock, since, seen, c0, h1, h2, h3, h4, h5, h6⟩ := h
 exact ⟨es, clock, since, seen, c0, hb.trans h1, h2, h3, h4, hr.trans h5, h6⟩
theorem MapAt.range {M : MTy P t k e κ ν} {w : World} {b : Nat} {F : List (κ × ν)} (h : MapAt M w b F) :
  ∃ o, (Instr.range t (.map (some b))).run P w = .ok (.pointer (some ⟨w.heap.size, 0, none⟩)) (w.alloc o) ∧ RangeAt M (w.alloc o) b w.heap.size F [] := by
 have hlt := h.lt
 obtain ⟨es, clock, hb, hst, hF, hok⟩ := h
 refine ⟨_, run_range_map w t k e b es clock M.ht hb, es, clock, clock, #[], clock, ((MapKept.heap_alloc w _).2 b hlt).trans hb, hst, hF, hok, (MapKept.heap_alloc w _).1, ((stamped_iff es clock).1 hst).1, Nat.le_refl _, Nat.le_refl _, ?_⟩
 intro j x p _ _
 simp
theorem RangeAt.next {M : MTy P t k e κ ν} {w : World} {b r : Nat} {F : List (κ × ν)} {done : List κ} (h : RangeAt M w b r F done) (ty : TypeId) :
  ((∀ x ∈ mkeys F, x ∈ done) ∧ (Instr.next (.pointer (some ⟨r, 0, none⟩)) false ty).run P w = .ok (.tuple #[.bool false]) w) ∨
  ∃ x v w1 o, (x, v) ∈ F ∧ x ∉ done ∧ (w1 = w ∨ w1 = w.drew) ∧ (Instr.next (.pointer (some ⟨r, 0, none⟩)) false ty).run P w = .ok (.tuple #[.bool true, M.kv x, M.mv v]) (setBlock w1 r o) ∧
   RangeAt M (setBlock w1 r o) b r F (done ++ [x]) ∧ (Instr.entry (.pointer (some ⟨r, 0, none⟩))).run P (setBlock w1 r o) = .ok (.tuple #[M.kv x, M.mv v]) (setBlock w1 r o) := by
 have hnd := h.map.keys_nodup
 have hne := h.ne
 obtain ⟨es, clock, since, seen, c0, hb, hst, hF, hok, hr, hold, hsc, hsk, hseen⟩ := h
 rcases run_next_at (P := P) w ty r b since c0 seen es clock hr hb hold hsc with ⟨h0, hrun⟩ | ⟨y, hy, w1, hal, hrun⟩
 ·refine Or.inl ⟨fun x hx => ?_, hrun⟩
  obtain ⟨p, hp, rfl⟩ := List.mem_map.1 hx
  obtain ⟨j, hj, rfl⟩ := List.getElem_of_mem hp
  have hlen : es.toList.length = F.length := by have := congrArg List.length hF; simpa using this
  have hj' : j < es.toList.length := by omega
  refine (hseen j es.toList[j] F[j] (List.getElem?_eq_getElem hj') (List.getElem?_eq_getElem hj)).1 ?_
  exact all_seen es seen h0 _ (List.getElem_mem hj')
 ·have hy' : y ∈ es.toList ∧ seen.contains y.born = false := by
   unfold leftOf at hy
   simp at hy
   refine ⟨by simpa using hy.1, by simpa using hy.2⟩
  obtain ⟨j, hj, hjy⟩ := List.getElem_of_mem hy'.1
  obtain ⟨p, hp, hk, hv⟩ := entry_of hF (List.getElem?_eq_getElem hj)
  rw [hjy] at hk hv
  have hnot : p.1 ∉ done := fun hd => by
   have := (hseen j y p (by rw [← hjy]; exact List.getElem?_eq_getElem hj) hp).2 hd
   rw [hy'.2] at this
   cases this
  have hw1 : w1.heap = w.heap := by rcases hal with rfl | rfl <;> rfl
  rw [hk, hv] at hrun
  have hb1 : (setBlock w1 r (.mapIter (some b) since (seen.push y.born) clock)).heap[b]? = some (.map es clock) := by
   simp only [setBlock, hw1, Array.getElem?_setIfInBounds, if_neg hne]
   exact hb
  have hr1 : (setBlock w1 r (.mapIter (some b) since (seen.push y.born) clock)).heap[r]? = some (.mapIter (some b) since (seen.push y.born) clock) := by
   have hlt := (Array.getElem?_eq_some_iff.1 hr).1
   simp [setBlock, hw1, hlt]
  refine Or.inr ⟨p.1, p.2, w1, _, List.mem_of_getElem? hp, hnot, hal, hrun, ⟨es, clock, since, seen.push y.born, clock, hb1, hst, hF, hok, hr1, hold, hsk, hsk, ?_⟩, ?_⟩
  ·intro i x q hx hq
   have hseen1 := hseen i x q hx hq
   rw [Array.contains_push] 
   simp only [Bool.or_eq_true, List.mem_append, List.mem_singleton]
   rw [hseen1]
   refine or_congr Iff.rfl ?_
   have hborn := ((stamped_iff es clock).1 hst).2.1
   constructor
   ·intro hbe
    have hbe' : x.born = y.born := by simpa using hbe
    have : i = j := by
     have hi : i < es.toList.length := (List.getElem?_eq_some_iff.1 hx).1
     have e1 := List.getElem?_eq_some_iff.1 hx
     obtain ⟨_, e1⟩ := e1
     have hb2 : (es.toList.map (·.born))[i]'(by simpa using hi) = (es.toList.map (·.born))[j]'(by simpa using hj) := by
      simp only [List.getElem_map, e1, hjy, hbe']
     exact (List.getElem_inj hborn).1 hb2
    subst this
    rw [hp] at hq
    cases hq
    rfl
   ·intro hqe
    have : i = j := by
     have hi : i < F.length := (List.getElem?_eq_some_iff.1 hq).1
     obtain ⟨_, e1⟩ := List.getElem?_eq_some_iff.1 hq
     have hj2 : j < F.length := (List.getElem?_eq_some_iff.1 hp).1
     obtain ⟨_, e2⟩ := List.getElem?_eq_some_iff.1 hp
     have hb2 : (mkeys F)[i]'(by simpa [mkeys] using hi) = (mkeys F)[j]'(by simpa [mkeys] using hj2) := by
      simp only [mkeys, List.getElem_map, e1, e2, hqe]
     exact (List.getElem_inj hnd).1 hb2
    subst this
    rw [List.getElem?_eq_getElem hj, hjy] at hx
    cases hx
    simp
  ·rw [← hk, ← hv]
   exact run_entry_at _ r b since seen es clock y hr1 hb1 hy'.1 ((stamped_iff es clock).1 hst).2.1
theorem mkeys_mput [DecidableEq κ] : ∀ {F : List (κ × ν)} {x : κ} {v : ν} (_ : (mget F x).isSome = true), mkeys (mput F x v) = mkeys F
 |[], _, _, h => by cases h
 |p :: r, x, v, h => by
  unfold mput
  by_cases e : p.1 = x
  ·rw [if_pos e]; simp [mkeys, e]
  ·rw [if_neg e]
   have h' : (mget r x).isSome = true := by
    unfold mget at h ⊢
    rw [List.find?_cons, beq_eq_false_iff_ne.2 e] at h
    exact h
   have := mkeys_mput (v := v) h'
   unfold mkeys at this ⊢
   simp [this]
theorem RangeAt.put [DecidableEq κ] {M : MTy P t k e κ ν} {w w' : World} {b r : Nat} {F : List (κ × ν)} {done : List κ} (h : RangeAt M w b r F done) {x : κ} {v : ν} (hx : (mget F x).isSome = true)
  {es' : Array MapEntry} {clock' : Nat} (hb : w'.heap[b]? = some (.map es' clock')) (hr : w'.heap[r]? = w.heap[r]?) (hm : MapAt M w' b (mput F x v))
  (hk : ∀ es0 clock0, w.heap[b]? = some (.map es0 clock0) → (mget F x).isSome = true → clock' = clock0 ∧ es'.toList.map (·.born) = es0.toList.map (·.born)) : RangeAt M w' b r (mput F x v) done := by
 obtain ⟨es, clock, since, seen, c0, h1, h2, h3, h4, h5, h6, h7, h8, h9⟩ := h
 obtain ⟨rfl, hborn⟩ := hk es clock h1 hx
 obtain ⟨es2, clock2, g1, g2, g3, g4⟩ := hm
 rw [hb] at g1
 cases g1
 have hkeys := mkeys_mput (v := v) hx
 refine ⟨es', clock', since, seen, c0, hb, g2, g3, g4, hr.trans h5, ?_, h7, h8, ?_⟩
 ·intro y hy
  have : y.born ∈ es'.toList.map (·.born) := List.mem_map.2 ⟨y, hy, rfl⟩
  rw [hborn] at this
  obtain ⟨z, hz, hzb⟩ := List.mem_map.1 this
  rw [← hzb]
  exact h6 z hz
 ·intro j y p hy hp
  have e1 := congrArg (fun l => l[j]?) hborn
  simp only [List.getElem?_map, hy, Option.map_some] at e1
  cases hz : es.toList[j]? with
  |none => rw [hz] at e1; cases e1
  |some z =>
   rw [hz] at e1
   simp only [Option.map_some, Option.some.injEq] at e1
   have e2 := congrArg (fun l => l[j]?) hkeys
   simp only [mkeys, List.getElem?_map, hp, Option.map_some] at e2
   cases hq : F[j]? with
   |none => rw [hq] at e2; cases e2
   |some q =>
    rw [hq] at e2
    simp only [Option.map_some, Option.some.injEq] at e2
    rw [e1, e2]
    exact h9 j z q hz hq
theorem mget_cons_eq [DecidableEq κ] {p : κ × ν} {r : List (κ × ν)} {x : κ} (h : p.1 = x) : mget (p :: r) x = some p.2 := by
 unfold mget; rw [List.find?_cons]; simp [h]
theorem mget_cons_ne [DecidableEq κ] {p : κ × ν} {r : List (κ × ν)} {x : κ} (h : p.1 ≠ x) : mget (p :: r) x = mget r x := by
 unfold mget; rw [List.find?_cons, beq_eq_false_iff_ne.2 h]
theorem mget_mput_same [DecidableEq κ] (F : List (κ × ν)) (x : κ) (v : ν) : mget (mput F x v) x = some v := by
 induction F with
 |nil => simp [mput, mget]
 |cons p r ih =>
  unfold mput
  by_cases e : p.1 = x
  ·rw [if_pos e]; exact mget_cons_eq rfl
  ·rw [if_neg e, mget_cons_ne e]; exact ih
theorem mget_mput_other [DecidableEq κ] (F : List (κ × ν)) {x y : κ} (h : x ≠ y) (v : ν) : mget (mput F x v) y = mget F y := by
 induction F with
 |nil => simp [mput, mget, h]
 |cons p r ih =>
  unfold mput
  by_cases e : p.1 = x
  ·rw [if_pos e, mget_cons_ne (p := (x, v)) h, mget_cons_ne (by rw [e]; exact h)]
  ·rw [if_neg e]
   by_cases e2 : p.1 = y
   ·rw [mget_cons_eq e2, mget_cons_eq e2]
   ·rw [mget_cons_ne e2, mget_cons_ne e2, ih]
theorem mget_mdel_same [DecidableEq κ] (F : List (κ × ν)) (x : κ) : mget (mdel F x) x = none := by
 refine mget_none fun p hp => ?_
 have := (List.mem_filter.1 hp).2
 simpa using this
theorem mget_mdel_other [DecidableEq κ] (F : List (κ × ν)) {x y : κ} (h : x ≠ y) : mget (mdel F x) y = mget F y := by
 induction F with
 |nil => rfl
 |cons p r ih =>
  unfold mdel at ih ⊢
  by_cases e : p.1 = x
  ·rw [List.filter_cons, if_neg (by simp [e]), mget_cons_ne (by rw [e]; exact h)]
   exact ih
  ·rw [List.filter_cons, if_pos (by simpa using e)]
   by_cases e2 : p.1 = y
   ·rw [mget_cons_eq e2, mget_cons_eq e2]
   ·rw [mget_cons_ne e2, mget_cons_ne e2, ih]
def mdone [DecidableEq κ] (g : ν → ν) (done : List κ) (F : List (κ × ν)) : List (κ × ν) := F.map (fun p => if p.1 ∈ done then (p.1, g p.2) else p)
def mall (g : ν → ν) (F : List (κ × ν)) : List (κ × ν) := F.map (fun p => (p.1, g p.2))
theorem mkeys_mdone [DecidableEq κ] (g : ν → ν) (done : List κ) (F : List (κ × ν)) : mkeys (mdone g done F) = mkeys F := by
 unfold mkeys mdone
 rw [List.map_map]
 exact List.map_congr_left fun p _ => by simp only [Function.comp]; split <;> rfl
theorem mem_mdone [DecidableEq κ] {g : ν → ν} {done : List κ} {F : List (κ × ν)} {x : κ} {v : ν} (h : (x, v) ∈ mdone g done F) (hx : x ∉ done) : (x, v) ∈ F := by
 unfold mdone at h
 obtain ⟨p, hp, he⟩ := List.mem_map.1 h
 split at he
 ·rename_i hd
  have : p.1 = x := congrArg Prod.fst he
  exact absurd (this ▸ hd) hx
 ·exact he ▸ hp
theorem mdone_put [DecidableEq κ] {g : ν → ν} {done : List κ} : ∀ {F : List (κ × ν)} (_ : (mkeys F).Nodup) {x : κ} {v : ν} (_ : (x, v) ∈ F) (_ : x ∉ done), mput (mdone g done F) x (g v) = mdone g (done ++ [x]) F
 |[], _, _, _, h, _ => by cases h
 |p :: r, hn, x, v, h, hx => by
  unfold mkeys at hn
  rw [List.map_cons, List.nodup_cons] at hn
  have hc : ∀ d, mdone g d (p :: r) = (if p.1 ∈ d then (p.1, g p.2) else p) :: mdone g d r := fun d => rfl
  rw [hc, hc]
  rcases List.mem_cons.1 h with rfl | h
  ·rw [if_neg hx, if_pos (by simp)]
   unfold mput
   rw [if_pos rfl]
   refine congrArg _ ?_
   unfold mdone
   refine List.map_congr_left fun q hq => ?_
   have : q.1 ≠ x := fun e => hn.1 (List.mem_map.2 ⟨q, hq, e⟩)
   simp [this]
  ·have hne : p.1 ≠ x := fun e => hn.1 (List.mem_map.2 ⟨(x, v), h, e.symm⟩)
   have e1 : (if p.1 ∈ done ++ [x] then (p.1, g p.2) else p) = if p.1 ∈ done then (p.1, g p.2) else p := by simp [hne]
   rw [e1]
   unfold mput
   rw [if_neg (by split <;> exact hne), mdone_put hn.2 h hx]
theorem mdone_all [DecidableEq κ] {g : ν → ν} {done : List κ} {F : List (κ × ν)} (h : ∀ x ∈ mkeys F, x ∈ done) : mdone g done F = mall g F := by
 unfold mdone mall
 exact List.map_congr_left fun p hp => if_pos (h _ (List.mem_map.2 ⟨p, hp, rfl⟩))
theorem mdone_cons [DecidableEq κ] (g : ν → ν) (done : List κ) (p : κ × ν) (r : List (κ × ν)) : (p.1 ∈ done ∧ mdone g done (p :: r) = (p.1, g p.2) :: mdone g done r) ∨ (p.1 ∉ done ∧ mdone g done (p :: r) = p :: mdone g done r) := by
 have hc : mdone g done (p :: r) = (if p.1 ∈ done then (p.1, g p.2) else p) :: mdone g done r := rfl
 by_cases h : p.1 ∈ done
 ·left; rw [hc, if_pos h]; exact ⟨h, rfl⟩
 ·right; rw [hc, if_neg h]; exact ⟨h, rfl⟩
theorem mem_mdone_out [DecidableEq κ] {g : ν → ν} {done : List κ} {F : List (κ × ν)} {x : κ} {v : ν} (h : (x, v) ∈ F) (hx : x ∉ done) : (x, v) ∈ mdone g done F := by
 unfold mdone
 exact List.mem_map.2 ⟨(x, v), h, if_neg hx⟩
theorem nodup_len [DecidableEq κ] : ∀ {a b : List κ} (_ : a.Nodup) (_ : ∀ x ∈ a, x ∈ b), a.length ≤ b.length
 |[], _, _, _ => Nat.zero_le _
 |x :: r, b, ha, h => by
  rw [List.nodup_cons] at ha
  have h1 := nodup_len (b := b.erase x) ha.2 (fun y hy => (List.mem_erase_of_ne (by rintro rfl; exact ha.1 hy)).2 (h y (by simp [hy])))
  have h2 := List.length_erase_of_mem (h x (by simp))
  have h3 := List.length_pos_of_mem (h x (by simp))
  simp only [List.length_cons]
  omega
theorem mdone_nil [DecidableEq κ] (g : ν → ν) (F : List (κ × ν)) : mdone g ([] : List κ) F = F := by
 unfold mdone
 simp
end
end
section
open Go.RowKit Go.Maps Go.MapKept Go.ChangeMaps
structure File where
 s : ByteArray
 synced : Nat
structure Dk where
 cap : Int
 size : Int
 files : List (ByteArray × File)
 off : Bool
 left : Int
 keep : Int
def fileV (f : File) : Value := .agg #[.string f.s, .int .i64 f.synced]
noncomputable def fileTy : MTy Tryz.prog 51 9 193 ByteArray File where
 K := string_keyed Tryz.underlying9
 ht := Tryz.underlying51
 kv := .string
 mv := fileV
 ok := fun s => s.size ≤ maxLen
 inj := fun h => by cases h; rfl
 key := fun h => ⟨_, Go.WideMaps.keyOf_string_mk Tryz.underlying9 h⟩
 zero := ⟨⟨#[]⟩, 0⟩
 hz := fun w => by kernel_rfl
def dkCells (d : Dk) (bm : Nat) : Array Value := #[.int .i64 d.cap, .int .i64 d.size, .map (some bm), .bool d.off, .int .i64 d.left, .int .i64 d.keep]
structure DiskAt (w : World) (b bm : Nat) (d : Dk) : Prop where
 cells : w.heap[b]? = some (.cells (dkCells d bm) 53 (0, 0))
 files : MapAt fileTy w bm d.files
theorem DiskAt.ne {w : World} {b bm : Nat} {d : Dk} (h : DiskAt w b bm d) : b ≠ bm := by
 rintro rfl
 obtain ⟨es, clock, h1, _⟩ := h.files
 rw [h.cells] at h1
 cases h1
theorem DiskAt.of_fp {w w' : World} {S : List Nat} {b bm : Nat} {d : Dk} (h : DiskAt w b bm d) (hf : Fp S w w') (h1 : b ∉ S) (h2 : bm ∉ S) : DiskAt w' b bm d :=
 ⟨(hf.block b (heap_lt h.cells) h1).trans h.cells, h.files.of_block (hf.block bm h.files.lt h2)⟩
def zeroFile : File := ⟨⟨#[]⟩, 0⟩
def fget (d : Dk) (name : ByteArray) : File := (mget d.files name).getD zeroFile
def Dk.set (d : Dk) (name : ByteArray) (f : File) (gone : Bool) : Dk :=
 { d with size := d.size + (f.s.size - (fget d name).s.size), files := if gone then mdel (mput d.files name f) name else mput d.files name f }
end
section
open Go.RowKit Go.Maps Go.MapKept Go.ChangeMaps
theorem file_field0 (w : World) (s : ByteArray) (n : Int) : (Instr.field 193 (.agg #[.string s, .int .i64 n]) 0).run Tryz.prog w = .ok (.string s) w := by kernel_rfl
theorem dk_setSize {w : World} {b bm : Nat} {d : Dk} (h : DiskAt w b bm d) (n : Int) : DiskAt (w.setCell ⟨b, 1, none⟩ (.int .i64 n)) b bm { d with size := n } :=
 ⟨by rw [heap_setCell_same h.cells]; rfl, h.files.of_block (heap_setCell_other (Ne.symm h.ne) _)⟩
theorem dk_alloc {w : World} {b bm : Nat} {d : Dk} (h : DiskAt w b bm d) (o : Obj) : DiskAt (w.alloc o) b bm d := h.of_fp (Fp.alloc w o) (by simp) (by simp)
theorem dk_drew {w : World} {b bm : Nat} {d : Dk} (h : DiskAt w b bm d) : DiskAt w.drew b bm d := h.of_fp (Fp.drew w) (by simp) (by simp)
theorem dk_map {w : World} {b bm : Nat} {d : Dk} (h : DiskAt w b bm d) {o : Obj} {F : List (ByteArray × File)} (hm : MapAt fileTy (setBlock w bm o) bm F) : DiskAt (setBlock w bm o) b bm { d with files := F } :=
 ⟨by rw [(Fp.setBlock w bm o).block b (heap_lt h.cells) (by simp [h.ne])]; exact h.cells, hm⟩
def RangeOn (w w' : World) (bm b : Nat) (d : Dk) (name : ByteArray) (f : File) (gone : Bool) : Prop :=
 gone = false → (mget d.files name).isSome = true → ∀ r done, r ≠ b → r ≠ bm → RangeAt fileTy w bm r d.files done → RangeAt fileTy w' bm r (mput d.files name f) done
theorem rangeAt_lt {w : World} {b r : Nat} {F : List (ByteArray × File)} {done : List ByteArray} (h : RangeAt fileTy w b r F done) : r < w.heap.size := by
 obtain ⟨es, clock, since, seen, c0, h1, h2, h3, h4, h5, _⟩ := h
 exact heap_lt h5
theorem set_any (w : World) (b bm : Nat) (d : Dk) (name : ByteArray) (f : File) (gone : Bool) (hd : DiskAt w b bm d) (hname : name.size ≤ maxLen)
  (h1 : 0 ≤ d.size) (h2 : d.size ≤ 1000000000) (h3 : f.s.size ≤ 1000000000) (h4 : (fget d name).s.size ≤ 1000000000) :
  Calls Tryz.prog 144 #[.pointer (some ⟨b, 0, none⟩), .string name, fileV f, .bool gone] w fun e w' => e = .returned (.tuple #[]) ∧ DiskAt w' b bm (d.set name f gone) ∧ Fp [b, bm] w w' ∧ RangeOn w w' bm b d name f gone := by
 have c1 : w.cell? ⟨b, 1, none⟩ = some (.int .i64 d.size) := cell_of_block hd.cells 1
 have c2 : w.cell? ⟨b, 2, none⟩ = some (.map (some bm)) := cell_of_block hd.cells 2
 have f1 : w.frozen? ⟨b, 1, none⟩ = false := frozen_of_block hd.cells 1
 have hlt := heap_lt hd.cells
 have hl : (Instr.lookup 51 (.map (some bm)) (.string name) false).run Tryz.prog ((w.alloc (.cells #[.string f.s, .int .i64 f.synced] 193)).drew) = .ok (.agg #[.string (fget d name).s, .int .i64 (fget d name).synced]) ((w.alloc (.cells #[.string f.s, .int .i64 f.synced] 193)).drew) :=
  (dk_drew (dk_alloc hd _)).files.lookup false hname
 have hd1 := dk_drew (dk_drew (dk_alloc (dk_setSize hd (d.size + (↑f.s.size - ↑(fget d name).s.size))) (.cells #[.string f.s, .int .i64 f.synced] 193)))
 obtain ⟨es, clock, hu, hm, hborn⟩ := hd1.files.update (x := name) hname f
 have hd2 := dk_map hd1 hm
 change (Instr.mapUpdate 51 (.map (some bm)) (.string name) (.agg #[.string f.s, .int .i64 f.synced])).run Tryz.prog _ = _ at hu
 have hp : Fp [b, bm] w (setBlock ((w.setCell ⟨b, 1, none⟩ (.int .i64 (d.size + (↑f.s.size - ↑(fget d name).s.size)))).alloc (.cells #[.string f.s, .int .i64 f.synced] 193)).drew.drew bm (.map es clock)) :=
  (((Fp.setCell w ⟨b, 1, none⟩ _).mono (by simp)).trans ((Fp.alloc _ _).trans ((Fp.drew _).trans (Fp.drew _) (by simp)) (by simp)) (by simp)).trans (Fp.setBlock _ _ _) (by simp)
 have hro : RangeOn w (setBlock ((w.setCell ⟨b, 1, none⟩ (.int .i64 (d.size + (↑f.s.size - ↑(fget d name).s.size)))).alloc (.cells #[.string f.s, .int .i64 f.synced] 193)).drew.drew bm (.map es clock)) bm b d name f false := by
  intro _ hin r done h1 h2 hr
  have hbm : ((w.setCell ⟨b, 1, none⟩ (.int .i64 (d.size + (↑f.s.size - ↑(fget d name).s.size)))).alloc (.cells #[.string f.s, .int .i64 f.synced] 193)).drew.drew.heap[bm]? = w.heap[bm]? := by
   show ((w.setCell _ _).alloc _).heap[bm]? = _
   rw [Below.heap_alloc _ _ _ (by simpa [World.setCell] using hd.files.lt), heap_setCell_other (Ne.symm hd.ne)]
  have hr' := rangeAt_lt hr
  refine hr.put hin (heap_setBlock_same (hbm.trans (hr.map).choose_spec.choose_spec.1) _) ?_ hm (fun es0 clock0 h0 => hborn es0 clock0 (hbm.trans h0))
  rw [(Fp.setBlock _ _ _).block r (by simpa [World.setCell] using Nat.lt_succ_of_lt hr') (by simpa using h2)]
  show ((w.setCell _ _).alloc _).heap[r]? = _
  rw [Below.heap_alloc _ _ _ (by simpa [World.setCell] using hr'), heap_setCell_other h1]
 have hfd := file_field0
 obtain ⟨w2, hw2⟩ : ∃ w2, w2 = setBlock ((w.setCell ⟨b, 1, none⟩ (.int .i64 (d.size + (↑f.s.size - ↑(fget d name).s.size)))).alloc (.cells #[.string f.s, .int .i64 f.synced] 193)).drew.drew bm (.map es clock) := ⟨_, rfl⟩
 rw [← hw2] at hu hd2 hp hro
 clear hw2 hm hborn
 have c2' : w2.cell? ⟨b, 2, none⟩ = some (.map (some bm)) := cell_of_block hd2.cells 2
 have HD2 := Lib.hid hd2
 have HP := Lib.hid hp
 have HRO := Lib.hid hro
 obtain ⟨es3, clock3, hu3, hm3⟩ := hd2.files.delete (x := name) hname 0
 have HD3 := Lib.hid (dk_map hd2 hm3)
 clear hd2 hp hd1 hm3 hro
 change (Builtin.delete_ #[51, 9] 0 #[.map (some bm), .string name]).run Tryz.prog _ = _ at hu3
 unfold fileV
 cases gone
 all_goals
  go_enter Tryz.func144, Tryz.ntmps144
  go_wp2
  go_region
  go_wp2
  go_region
  go_wp2
  go_end0
 ·exact ⟨rfl, HD2.out, HP.out, HRO.out⟩
 ·exact ⟨rfl, HD3.out, HP.out.trans (Fp.setBlock _ _ _) (by simp), fun h => by cases h⟩
end
section
open Go.RowKit Go.Maps Go.MapKept Go.ChangeMaps
def nameOk (s : ByteArray) : Bool := decide (1 ≤ s.size ∧ s.size ≤ 60)
def Dk.named (d : Dk) (names : List ByteArray) : Int := if d.off then 6 else if names.all nameOk then 0 else 1
theorem named_bad {d : Dk} {names : List ByteArray} (ho : d.off = false) {x : ByteArray} (hx : x ∈ names) (h : nameOk x = false) : d.named names = 1 := by
 unfold Dk.named
 rw [ho, if_neg (by simp), if_neg]
 intro h1
 rw [List.all_eq_true.1 h1 x hx] at h
 cases h
theorem named_good {d : Dk} {names : List ByteArray} (ho : d.off = false) (h : names.all nameOk = true) : d.named names = 0 := by
 unfold Dk.named
 rw [ho, if_neg (by simp), if_pos h]
theorem nameOk_small {x : ByteArray} (h : x.size = 0) : nameOk x = false := by simp [nameOk, h]
theorem nameOk_great {x : ByteArray} (h : ¬ x.size ≤ 60) : nameOk x = false := by
 unfold nameOk; exact decide_eq_false (by omega)
theorem nameOk_fit {x : ByteArray} (h : ¬ x.size = 0) (h' : x.size ≤ 60) : nameOk x = true := by
 unfold nameOk; exact decide_eq_true (by omega)
theorem all_take_succ {l : List ByteArray} {f : ByteArray → Bool} {k : Nat} (hk : k < l.length) (h : (l.take k).all f = true) (hx : f l[k] = true) : (l.take (k + 1)).all f = true := by
 rw [List.take_succ_eq_append_getElem hk, List.all_append, h]
 simp [hx]
theorem named_any (w : World) (b bm sb : Nat) (d : Dk) (names : List ByteArray) (hd : DiskAt w b bm d) (hs : w.heap[sb]? = some (.cells (names.map Value.string).toArray 9 (0, 0))) (hn : names.length ≤ 1000) :
  Calls Tryz.prog 132 #[.pointer (some ⟨b, 0, none⟩), .slice (some ⟨sb, 0, none⟩) names.length names.length] w fun e w' => e = .returned (.int .i64 (d.named names)) ∧ w = w' := by
 have c3 : w.cell? ⟨b, 3, none⟩ = some (.bool d.off) := cell_of_block hd.cells 3
 have HD := Lib.hid hd
 have HS := Lib.hid hs
 have hlt := heap_lt hd.cells
 have hlt2 := heap_lt hs
 clear hd hs
 cases ho : d.off
 case true =>
  rw [ho] at c3
  have HO : Hid (d.named names = 6) := by simp [Hid, Dk.named, ho]
  clear ho
  go_enter Tryz.func132, Tryz.ntmps132
  go_wp2
  go_ret
  exact ⟨by rw [HO.out]; rfl, rfl⟩
 rw [ho] at c3
 have HO := Lib.hid ho
 clear ho
 go_enter Tryz.func132, Tryz.ntmps132
 go_wp2
 go_loop [13] (fun i => ∃ k : Nat, k ≤ names.length ∧ i = .int .i64 k ∧ (names.take k).all nameOk = true) (fun i => names.length - (intOf i).toNat)
 case atStart => exact ⟨0, by omega, rfl, by simp⟩
 case round =>
  obtain ⟨k, hk, rfl, hall⟩ := hrel
  have HA := Lib.hid hall
  clear hall
  by_cases hlt' : k < names.length
  ·have hcell : w.cell? ⟨sb, k, none⟩ = some (.string names[k]) := by rw [cell_of_block HS.out]; simp [hlt']
   obtain ⟨x, hx⟩ : ∃ x, x = names[k] := ⟨_, rfl⟩
   rw [← hx] at hcell
   have hxm : x ∈ names := hx ▸ List.getElem_mem hlt'
   have HX := Lib.hid hx
   have HXM := Lib.hid hxm
   clear hx hxm
   by_cases h0 : x.size = 0
   ·have H1 := Lib.hid (named_bad HO.out HXM.out (nameOk_small h0))
    obtain rfl : x = ⟨#[]⟩ := by
     obtain ⟨⟨l⟩⟩ := x
     cases l with
     |nil => rfl
     |cons a r => cases h0
    clear h0
    go_wp2
    go_ret
    exact ⟨by rw [H1.out]; rfl, rfl⟩
   ·have he := str_full (Nat.pos_of_ne_zero h0)
    have H0 := Lib.hid h0
    clear h0
    by_cases h6 : x.size ≤ 60
    ·go_wp2
     go_round
     case rel => exact ⟨k + 1, by omega, by go_num, all_take_succ hlt' HA.out (HX.out ▸ nameOk_fit H0.out h6)⟩
     case measure => simp [intOf]; omega
    ·have H1 := Lib.hid (named_bad HO.out HXM.out (nameOk_great h6))
     go_wp2
     go_ret
     exact ⟨by rw [H1.out]; rfl, rfl⟩
  ·have H1 := Lib.hid (named_good HO.out (by have := HA.out; rwa [List.take_of_length_le (by omega)] at this))
   go_wp2
   go_ret
   exact ⟨by rw [H1.out]; rfl, rfl⟩
end
section
open Go.RowKit Go.Maps Go.MapKept Go.ChangeMaps
def Dk.new (cap : Int) : Dk := { cap := max cap 0, size := 0, files := [], off := false, left := 0, keep := 0 }
def Dk.on (d : Dk) : Dk := { d with off := false, left := 0 }
def Dk.read (d : Dk) (name : ByteArray) : ByteArray × Int :=
 if d.named [name] ≠ 0 then (⟨#[]⟩, d.named [name]) else match mget d.files name with
  |none => (⟨#[]⟩, 3)
  |some f => (f.s, 0)
theorem new_any (cap : Int) (w : World) :
  Calls Tryz.prog 5 #[.int .i64 cap] w fun e w' => e = .returned (.pointer (some ⟨w.heap.size + 1, 0, none⟩)) ∧ DiskAt w' (w.heap.size + 1) w.heap.size (Dk.new cap) ∧ Fp [] w w' := by
 have hmm := @run_makeMap Tryz.prog
 have hm := MapAt.made fileTy w
 have hd : ∀ cp : Int, cp = max cap 0 → DiskAt ((w.alloc (.map #[] 0)).alloc (.cells #[.int .i64 cp, .int .i64 0, .map (some w.heap.size), .bool false, .int .i64 0, .int .i64 0] 53 (0, 0))) (w.heap.size + 1) w.heap.size (Dk.new cap) := fun cp hc => by
  subst hc
  refine ⟨?_, hm.of_block (Below.heap_alloc _ _ _ (by simp))⟩
  exact heap_alloc_at (by simp) _
 have HD := Lib.hid hd
 clear hd hm
 by_cases h0 : 0 ≤ cap
 all_goals
  go_enter Tryz.func5, Tryz.ntmps5
  go_wp2
  go_ret
  exact ⟨rfl, HD.out _ (by omega), (Fp.alloc _ _).trans (Fp.alloc _ _) (by simp)⟩
theorem read_any (w : World) (b bm : Nat) (d : Dk) (name : ByteArray) (hd : DiskAt w b bm d) (hname : name.size ≤ maxLen) :
  Calls Tryz.prog 63 #[.pointer (some ⟨b, 0, none⟩), .string name] w fun e w' => e = .returned (.tuple #[.string (d.read name).1, .int .i64 (d.read name).2]) ∧ Fp [] w w' := by
 have c2 : w.cell? ⟨b, 2, none⟩ = some (.map (some bm)) := cell_of_block hd.cells 2
 have hlt := heap_lt hd.cells
 have hd1 := hd.of_fp (Fp.alloc w (.cells #[.string name] 9)) (by simp) (by simp)
 have hl : (Instr.lookup 51 (.map (some bm)) (.string name) true).run Tryz.prog (w.alloc (.cells #[.string name] 9)) = .ok (.tuple #[.agg #[.string (fget d name).s, .int .i64 (fget d name).synced], .bool (mget d.files name).isSome]) (w.alloc (.cells #[.string name] 9)) := hd1.files.lookup true hname
 have HD1 := Lib.hid hd1
 clear hd hd1
 have hnm : Calls Tryz.prog 132 #[.pointer (some ⟨b, 0, none⟩), .slice (some ⟨w.heap.size, 0, none⟩) 1 1] (w.alloc (.cells #[.string name] 9)) fun e w' => e = .returned (.int .i64 (d.named [name])) ∧ (w.alloc (.cells #[.string name] 9)) = w' :=
  named_any (w.alloc (.cells #[.string name] 9)) b bm w.heap.size d [name] HD1.out (MapKept.heap_alloc w _).1 (by simp)
 have HN := Lib.hid hnm
 clear hnm
 have HF := Lib.hid ((Fp.alloc w (.cells #[.string name] 9)))
 obtain ⟨nm, hnm⟩ : ∃ nm, nm = d.named [name] := ⟨_, rfl⟩
 rw [← hnm] at HN
 by_cases h0 : nm = 0
 ·subst h0
  cases hg : mget d.files name with
  |none =>
   rw [hg] at hl
   have HR : Hid (d.read name = (⟨#[]⟩, 3)) := by simp [Hid, Dk.read, ← hnm, hg]
   clear hg hnm
   go_enter Tryz.func63, Tryz.ntmps63
   go_wp2_with (go_at_call 132; refine HN.out.mono ?_; rintro e w' ⟨rfl, rfl⟩)
   go_ret2
   exact ⟨by rw [HR.out]; rfl, HF.out.alloc' _⟩
  |some f =>
   have hfg : fget d name = f := by simp [fget, hg]
   rw [hg, hfg] at hl
   have HR : Hid (d.read name = (f.s, 0)) := by simp [Hid, Dk.read, ← hnm, hg]
   clear hg hnm hfg
   go_enter Tryz.func63, Tryz.ntmps63
   go_wp2_with (go_at_call 132; refine HN.out.mono ?_; rintro e w' ⟨rfl, rfl⟩)
   go_ret2
   exact ⟨by rw [HR.out]; rfl, HF.out.alloc' _⟩
 ·have HR : Hid (d.read name = (⟨#[]⟩, nm)) := by simp [Hid, Dk.read, ← hnm, h0]
  have hb : ((nm : Int) != 0) = true := by simpa using h0
  clear hnm hl h0
  go_enter Tryz.func63, Tryz.ntmps63
  go_wp2_with (go_at_call 132; refine HN.out.mono ?_; rintro e w' ⟨rfl, rfl⟩)
  go_ret2
  exact ⟨by rw [HR.out]; rfl, HF.out⟩
end
end Go.Proofs.YtkjmgbifoaoefaaGreatDoor
