/-
 table.Build: a file's bytes. table.Open: a file that is opened. table.Open: the walk. What an opened file says: Blocks, Many, Cells. What an opened file says of a row: near, Looks, Row. Files: what is built is opened to what it was built of. The law's own helpers: bounded, cells. A row's cells lie in the parts that are near; a filter has all its names. The law's own helper: shown. wal: what its functions compute, over the disk as data (plain).
-/
import Derived.Test.YtkagolpnaicdoaaGreatDoorSTabG
import Derived.Test.YtkagolpnaicdoaaGreatDoorSVdOps2
set_option maxRecDepth 100000
set_option maxHeartbeats 8000000
namespace Go.Proofs.YtkagolpnaicdoaaGreatDoor
section
section
open Go.RowKit
def manyP (l : List Cel) : Nat := (l.length + 7) / 8
def pieceL (l : List Cel) (k : Nat) : List Cel := (l.drop (8 * k)).take 8
def recK (l : List Cel) (k : Nat) : ByteArray := recP (buildP (pieceL l k)).1
def errK (l : List Cel) : Nat → Nat
 |0 => 0
 |k + 1 => if errK l k ≠ 0 then errK l k else (buildP (pieceL l k)).2
def blkL (l : List Cel) (k : Nat) : List UInt8 := (List.range k).flatMap fun j => (recK l j).data.toList
def idxB (l : List Cel) : Nat → ByteArray
 |0 => leB (manyP l) 2
 |k + 1 => idxB l k ++ leB (recK l k).size 4
def fBlocks (l : List Cel) : ByteArray := bl (blkL l (manyP l))
def fIndex (l : List Cel) : ByteArray := recP (idxB l (manyP l))
def fFilter (l : List Cel) : ByteArray := recP (bloomP (rowsP l))
def footOf (l : List Cel) (seq : Nat) : Foot := ⟨(blkL l (manyP l)).length, (fIndex l).size, (fFilter l).size, seq⟩
def fileB (l : List Cel) (seq : Nat) : ByteArray := fBlocks l ++ fIndex l ++ fFilter l ++ recP (footOf l seq).text
def buildT (l : List Cel) (seq : Nat) : ByteArray × Nat :=
 if l.length > 2000 then (⟨#[]⟩, 71) else if l.length = 0 then (⟨#[]⟩, 1) else if errK l (manyP l) ≠ 0 then (⟨#[]⟩, errK l (manyP l)) else if risC l = false then (⟨#[]⟩, 40) else (fileB l seq, 0)
theorem errK_stay {l : List Cel} {k : Nat} (h : errK l k ≠ 0) : ∀ m, k ≤ m → errK l m = errK l k
 |0, hm => by obtain rfl : k = 0 := by omega
              rfl
 |m + 1, hm => by
  by_cases e : k = m + 1
  ·rw [e]
  ·have ih := errK_stay h m (by omega)
   show (if errK l m ≠ 0 then errK l m else _) = _
   rw [ih, if_pos h]
theorem errK_bad {l : List Cel} {k m : Nat} (h0 : errK l k = 0) (h : (buildP (pieceL l k)).2 ≠ 0) (hk : k < m) : errK l m = (buildP (pieceL l k)).2 := by
 have h1 : errK l (k + 1) = (buildP (pieceL l k)).2 := by show (if errK l k ≠ 0 then errK l k else _) = _; rw [if_neg (by simp [h0])]
 rw [errK_stay (k := k + 1) (by rw [h1]; exact h) m hk, h1]
theorem errK_good {l : List Cel} {k : Nat} (h0 : errK l k = 0) (h : (buildP (pieceL l k)).2 = 0) : errK l (k + 1) = 0 := by
 show (if errK l k ≠ 0 then errK l k else _) = _
 rw [if_neg (by simp [h0]), h]
theorem blkL_succ (l : List Cel) (k : Nat) : blkL l (k + 1) = blkL l k ++ (recK l k).data.toList := by
 unfold blkL; rw [List.range_succ, List.flatMap_append]; simp
theorem pieceL_len (l : List Cel) (k : Nat) : (pieceL l k).length = min 8 (l.length - 8 * k) := by
 unfold pieceL; rw [List.length_take, List.length_drop]
theorem part_at {w : World} {b o len : Nat} {l : List Cel} {k : Nat} (h : CelsAt w (some ⟨b, o, none⟩) len l) (hk : 8 * k < len) : CelsAt w (some ⟨b, o + 8 * k * 6, none⟩) (min 8 (len - 8 * k)) (pieceL l k) := by
 have h1 := h.drop (8 * k) (len - 8 * k) (by omega)
 have h2 := h1.take (min 8 (len - 8 * k)) (by omega)
 unfold pieceL
 have hl := h.len
 by_cases e : len - 8 * k ≤ 8
 ·rw [List.take_of_length_le (by rw [List.length_drop]; omega)]
  rw [List.take_of_length_le (by rw [List.length_drop]; omega)] at h2
  exact h2
 ·rw [Nat.min_eq_left (by omega)] at h2 ⊢
  exact h2
theorem recP_size (s : ByteArray) : (recP s).size ≤ 6 + s.size := by
 unfold recP putP
 split
 ·show 0 ≤ _; omega
 ·exact Nat.le_of_eq (recB_size s)
theorem recK_size (l : List Cel) (k : Nat) : (recK l k).size ≤ 80006 := by
 have h1 := recP_size (buildP (pieceL l k)).1
 have h2 := built_size (l := pieceL l k)
 unfold recK
 omega
theorem blkL_len (l : List Cel) : ∀ k, (blkL l k).length ≤ 80006 * k
 |0 => Nat.le_refl _
 |k + 1 => by
  rw [blkL_succ, List.length_append]
  have h1 := blkL_len l k
  have h2 := recK_size l k
  have h3 : (recK l k).data.toList.length = (recK l k).size := rfl
  omega
theorem idxB_size (l : List Cel) : ∀ k, (idxB l k).size = 2 + 4 * k
 |0 => by show (leB _ 2).size = _; rw [leB_size]
 |k + 1 => by
  show (idxB l k ++ leB _ 4).size = _
  rw [ByteArray.size_append, idxB_size l k, leB_size]
  omega
theorem OwnP.get {w : World} {base : Nat} {v : Value} {vs : List Value} (h : OwnP w base v vs) {k : Nat} (hk : k < vs.length) : ∃ g cap, v = .slice (some ⟨g, 0, none⟩) vs.length cap ∧ base ≤ g ∧ g < w.heap.size ∧ ∀ i (hi : i < vs.length), w.cell? ⟨g, i, none⟩ = some vs[i] := by
 rcases h.2 with ⟨_, h1⟩ | ⟨g, cap, cur, e, hg, hh, hn, hm, hs, ht⟩
 ·omega
 ·refine ⟨g, cap, e, hg, heap_lt hh, fun i hi => ?_⟩
  have h3 : (cur.toList.take (vs.length * 1))[i]? = vs[i]? := by rw [ht]
  rw [List.getElem?_take, if_pos (by omega), List.getElem?_eq_getElem hi, Array.getElem?_toList] at h3
  rw [cell_of_block hh, h3]
theorem partsI_at {len k : Nat} (h : k < (partsI len).length) : (partsI len)[k] = (8 * k, min 8 (len - 8 * k)) := by simp [partsI]
theorem errK_all {l : List Cel} : ∀ {m : Nat}, errK l m = 0 → ∀ k, k < m → (buildP (pieceL l k)).2 = 0
 |0, _, k, hk => absurd hk (Nat.not_lt_zero _)
 |m + 1, h, k, hk => by
  by_cases h0 : errK l m = 0
  ·have h1 : (buildP (pieceL l m)).2 = 0 := by
    have : errK l (m + 1) = (buildP (pieceL l m)).2 := by show (if errK l m ≠ 0 then errK l m else _) = _; rw [if_neg (by simp [h0])]
    rw [← this]; exact h
   by_cases e : k = m
   ·rw [e]; exact h1
   ·exact errK_all h0 k (by omega)
  ·have : errK l (m + 1) = errK l m := by show (if errK l m ≠ 0 then errK l m else _) = _; rw [if_pos h0]
   rw [this] at h
   exact absurd h h0
theorem errK_may {l : List Cel} (h : errK l (manyP l) = 0) : ∀ c ∈ l, mayB c = true := by
 intro c hc
 obtain ⟨i, hi, rfl⟩ := List.getElem_of_mem hc
 have h1 := (build_ok (errK_all h (i / 8) (by unfold manyP; omega))).2.1
 rw [List.all_eq_true] at h1
 apply h1
 have hlt : i % 8 < (pieceL l (i / 8)).length := by rw [pieceL_len]; omega
 have e0 : (pieceL l (i / 8))[i % 8]? = l[i]? := by
  unfold pieceL
  rw [List.getElem?_take, if_pos (Nat.mod_lt _ (by decide)), List.getElem?_drop]
  congr 1
  omega
 have e : (pieceL l (i / 8))[i % 8] = l[i] := by
  rw [List.getElem?_eq_getElem hlt, List.getElem?_eq_getElem hi] at e0
  exact Option.some.inj e0
 rw [← e]
 exact List.getElem_mem hlt
theorem rows_mem {l : List Cel} {s : ByteArray} (h : s ∈ rowsP l) : ∃ c ∈ l, c.row = s := by
 unfold rowsP rowsUpTo at h
 obtain ⟨j, hj, rfl⟩ := List.mem_map.1 h
 have hlt := List.mem_range.1 (List.mem_filter.1 hj).1
 refine ⟨l.getD j zeroC, ?_, rfl⟩
 rw [List.getD_eq_getElem?_getD, List.getElem?_eq_getElem hlt]
 exact List.getElem_mem hlt
theorem bloomP_size (names : List ByteArray) : (bloomP names).size = bloomN names.length := by
 unfold bloomP; rw [bl_size, bloomL_length]
structure CJs (w1 : World) (bf : Nat) (f : Foot) (bs : List UInt8) (done : Bool) (w' : World) : Prop where
 fp : Fp [] w1 w'
 box : w'.heap[bf]? = some (.cells #[.int .i64 f.blocks, .int .i64 f.index, .int .i64 f.filter, .int .u64 f.seq] 144 (0, 0))
 bu : done = false → BAt 131 w1.heap.size w1.heap.size bs w'
def CJ (w1 : World) (bf : Nat) (f : Foot) (bs : List UInt8) (b : Nat → Bool) (w' : World) : Prop := CJs w1 bf f bs (b 0) w'
theorem CJs.on {w1 A B : World} {bf : Nat} {f : Foot} {bs : List UInt8} {d : Bool} (h : CJs w1 bf f bs d A) (hf : Fp [] A B) : CJs w1 bf f bs d B :=
 ⟨h.fp.trans hf (by simp), (hf.block _ (heap_lt h.box) (by simp)).trans h.box, fun e => (h.bu e).fp hf (by simp)⟩
theorem CJ.bu {w1 w' : World} {bf : Nat} {f : Foot} {bs : List UInt8} {b : Nat → Bool} (h : CJ w1 bf f bs b w') (h0 : b 0 = false) : BAt 131 w1.heap.size w1.heap.size bs w' := CJs.bu h h0
theorem CJ.fp {w1 w' : World} {bf : Nat} {f : Foot} {bs : List UInt8} {b : Nat → Bool} (h : CJ w1 bf f bs b w') : Fp [] w1 w' := CJs.fp h
theorem liesSB : liesAt Tryz.prog Tryz.prog.depth 131 (2 / Tryz.prog.cellsOf 131) 0 131 1 = true := by kernel_rfl
theorem tbuild_any (w : World) (a : Option Addr) (len cap : Nat) (l : List Cel) (seq : Nat) (hl : CelsAt w a len l) (hlc : len ≤ cap) (hcm : len ≤ 1000000000) (hq : seq < 18446744073709551616) (hm : MaxAt w) (ht : TabAt w) :
  Calls Tryz.prog 51 #[.slice a len cap, .int .u64 seq] w fun e w' => e = .returned (.tuple #[.string (buildT l seq).1, .int .i64 ((buildT l seq).2 : Nat)]) ∧ Fp [] w w' := by
 have HL := Lib.hid hl
 have HLN := Lib.hid hl.len
 have HM := Lib.hid hm
 have HT := Lib.hid ht
 by_cases h1 : len > 2000
 ·have hb : buildT l seq = (⟨#[]⟩, 71) := if_pos (by rw [← hl.len]; exact h1)
  rw [hb]
  have z : (len : Int) > 2000 := by omega
  clear hl hm ht hb
  go_enter Tryz.func51, Tryz.ntmps51
  go_wp2_with (fail)
  go_ret2
  exact ⟨rfl, Fp.refl _ _⟩
 by_cases h2 : len = 0
 ·have hb : buildT l seq = (⟨#[]⟩, 1) := by unfold buildT; rw [if_neg (by rw [← hl.len]; exact h1), if_pos (by rw [← hl.len]; exact h2)]
  rw [hb]
  subst h2
  clear hl hm ht hb
  go_enter Tryz.func51, Tryz.ntmps51
  go_wp2_with (fail)
  go_ret2
  exact ⟨rfl, Fp.refl _ _⟩
 have hb : buildT l seq = if errK l (manyP l) ≠ 0 then (⟨#[]⟩, errK l (manyP l)) else if risC l = false then (⟨#[]⟩, 40) else (fileB l seq, 0) := by
  unfold buildT; rw [if_neg (by rw [← hl.len]; exact h1), if_neg (by rw [← hl.len]; exact h2)]
 have HB := Lib.hid hb
 have y1 : ¬ (len : Int) > 2000 := by omega
 have y2 : ((len : Int) == 0) = false := by rw [beq_eq_false_iff_ne]; omega
 obtain ⟨b, o, rfl⟩ : ∃ b o, a = some ⟨b, o, none⟩ := by
  rcases hl.cells with h0 | ⟨b, o, e, _⟩
  ·rw [h0] at hl; have := hl.len; simp at this; omega
  ·exact ⟨b, o, e⟩
 obtain ⟨m, hmm⟩ : ∃ m, manyP l = m := ⟨_, rfl⟩
 have hm8 : m = (len + 7) / 8 := by rw [← hmm, manyP, hl.len]
 have HM8 := Lib.hid hm8
 have hm8a : 8 * m < len + 8 := by omega
 have hm8b : len ≤ 8 * m := by omega
 have HMM := Lib.hid hmm
 have HPT := Lib.hid (fun w => parted_any w b o len cap hlc hcm)
 clear hl hm ht hb hmm hm8
 go_enter Tryz.func51, Tryz.ntmps51
 go_wp2_with (fail)
 (with_reducible refine (HPT.out _).mono ?_)
 rintro e w1 ⟨v1, rfl, ho1, hf1⟩
 have hpl : ((partsI len).map (partV b o)).length = m := by rw [List.length_map, partsI_length, HM8.out]
 obtain ⟨g1, c1, rfl, hg1, hgl1, hcs⟩ := ho1.get (k := 0) (by rw [hpl]; omega)
 rw [hpl]
 have HCS : Hid (∀ k, k < m → w1.cell? ⟨g1, k, none⟩ = some (.slice (some ⟨b, o + 8 * k * 6, none⟩) (min 8 (len - 8 * k)) (min 8 (len - 8 * k)))) := by
  intro k hk
  have h := hcs k (by rw [hpl]; exact hk)
  rw [List.getElem_map, partsI_at] at h
  exact h
 have HF1 := Lib.hid hf1
 have hbf := BAt.fresh 131 w1
 have HBF := Lib.hid hbf
 have u1 : IntKind.u64.wrap (m : Int) = (m : Int) := by rw [IntKind.wrap_u64]; omega
 have HLI := Lib.hid (fun w n (h : n < 18446744073709551616) => tlittle_any w n 2 h (by decide))
 have HL2 : Hid (∀ w, Calls Tryz.prog 90 #[.int .u64 m, .int .i64 2] w fun e w' => e = .returned (.string (idxB l 0)) ∧ Fp [] w w') := by
  intro w
  rw [show idxB l 0 = leB m 2 from by show leB (manyP l) 2 = _; rw [HMM.out]]
  exact tlittle_any w m 2 (by omega) (by decide)
 clear hbf hcs ho1 hf1 HLI HPT
 go_wp2_with (fail)
 (with_reducible refine (HL2.out _).mono ?_)
 rintro e w2 ⟨rfl, hf2⟩
 have HF2 := Lib.hid (HF1.out.trans ((Fp.alloc w1 (.cells #[.pointer none, .slice none 0 0] 131)).trans hf2 (by simp)) (by simp))
 have HF12 := Lib.hid ((Fp.alloc w1 (.cells #[.pointer none, .slice none 0 0] 131)).trans hf2 (by simp))
 have HB2 := Lib.hid (HBF.out.fp hf2 (by simp))
 clear hf2 HL2
 go_wp2_with (fail)
 go_loopg [8, 34] m (fun g vi vk wr => ∃ k : Nat, g + k = m ∧ vi = .string (idxB l k) ∧ vk = .int .i64 k ∧ BAt 131 w1.heap.size w1.heap.size (blkL l k) wr ∧ Fp [] w1 wr ∧ errK l k = 0)
 case atStart => exact ⟨0, by omega, rfl, rfl, HB2.out, HF12.out, rfl⟩
 case round =>
  obtain ⟨k, hg, rfl, rfl, hbk, hf, he⟩ := hrel
  have HBK := Lib.hid hbk
  have HF := Lib.hid hf
  have HE := Lib.hid he
  clear hbk hf he
  by_cases hk : k < m
  ·have zk : (k : Int) < (m : Int) := by omega
   have q0 : wr.cell? ⟨g1, k, none⟩ = some (.slice (some ⟨b, o + 8 * k * 6, none⟩) (min 8 (len - 8 * k)) (min 8 (len - 8 * k))) := (HF.out.cell (p := ⟨g1, k, none⟩) hgl1 (by simp)).trans (HCS.out k hk)
   have HPB := Lib.hid (build_any wr (some ⟨b, o + 8 * k * 6, none⟩) (min 8 (len - 8 * k)) (min 8 (len - 8 * k)) (pieceL l k) (part_at (HL.out.fp (HF1.out.trans HF.out (by simp))) (by omega)) (by omega) (HM.out.fp (HF1.out.trans HF.out (by simp)) (by simp)))
   have HEB := Lib.hid (fun h => errK_bad (m := manyP l) HE.out h (by rw [HMM.out]; exact hk))
   have HEG := Lib.hid (fun h => errK_good HE.out h)
   have HRK : Hid (recK l k = recP (buildP (pieceL l k)).1) := rfl
   have hbs := built_size (l := pieceL l k)
   obtain ⟨⟨s, e⟩, hse⟩ : ∃ t, buildP (pieceL l k) = t := ⟨_, rfl⟩
   rw [hse] at HPB HEB HEG HRK hbs
   obtain ⟨mm, hmm⟩ : ∃ mm, min 8 (len - 8 * k) = mm := ⟨_, rfl⟩
   rw [hmm] at q0 HPB
   clear hse hmm
   go_wp2_with (fail)
   (with_reducible refine HPB.out.mono ?_)
   rintro e1 w3 ⟨rfl, hf3⟩
   have HB3 := Lib.hid (HBK.out.fp hf3 (by simp))
   have HF3 := Lib.hid (HF.out.trans hf3 (by simp))
   clear hf3
   by_cases he : e = 0
   ·subst he
    have HE1 := Lib.hid (HEG.out rfl)
    have HRC := Lib.hid (tput_any s w3 (by omega) (HT.out.fp (HF1.out.trans HF3.out (by simp)) (by simp)))
    rw [← HRK.out] at HRC
    have hrs := recK_size l k
    have HBS := Lib.hid (blkL_succ l k)
    have HIS : Hid (idxB l (k + 1) = idxB l k ++ leB (recK l k).size 4) := rfl
    have his := idxB_size l k
    have hbl := blkL_len l k
    obtain ⟨rec, hrec⟩ : ∃ r, recK l k = r := ⟨_, rfl⟩
    rw [hrec] at HRC hrs HBS HIS
    obtain ⟨ix, hix⟩ : ∃ r, idxB l k = r := ⟨_, rfl⟩
    rw [hix] at HIS his
    rw [hix]
    clear hrec hix HRK
    go_wp2_with (fail)
    (with_reducible refine HRC.out.mono ?_)
    rintro e1 w4 ⟨rfl, hf4⟩
    have HB4 := Lib.hid (HB3.out.fp hf4 (by simp))
    have HF4 := Lib.hid (HF3.out.trans hf4 (by simp))
    clear hf4
    go_wp2_with (fail)
    (with_reducible refine (writeString_any liesSB (by decide) w1.heap.size w1.heap.size (blkL l k) rec w4 HB4.out (by omega)).mono ?_)
    rintro e1 w5 ⟨rfl, hb5, hf5⟩
    have HB5 := Lib.hid hb5
    have HF5 := Lib.hid (HF4.out.bfp hf5 (Nat.le_refl _))
    have u2 : IntKind.u64.wrap (rec.size : Int) = (rec.size : Int) := by rw [IntKind.wrap_u64]; omega
    have HL4 : Hid (∀ w, Calls Tryz.prog 90 #[.int .u64 rec.size, .int .i64 4] w fun e w' => e = .returned (.string (leB rec.size 4)) ∧ Fp [] w w') := fun w => tlittle_any w rec.size 4 (by omega) (by decide)
    have hls := leB_size rec.size 4
    obtain ⟨le, hle⟩ : ∃ r, leB rec.size 4 = r := ⟨_, rfl⟩
    rw [hle] at HL4 hls HIS
    have zl : ¬ ix.size + 4 > 9223372036854775807 := by omega
    clear hb5 hf5 hle
    go_wp2_with (fail)
    (with_reducible refine (HL4.out _).mono ?_)
    rintro e1 w6 ⟨rfl, hf6⟩
    have HB6 := Lib.hid (HB5.out.fp hf6 (by simp))
    have HF6 := Lib.hid (HF5.out.trans hf6 (by simp))
    clear hf6
    go_wp2_with (fail)
    go_roundg (gk - 1)
    case measure => omega
    case rel => exact ⟨k + 1, by omega, by rw [HIS.out], by simp, by rw [HBS.out]; exact HB6.out, HF6.out, HE1.out⟩
   ·have ze : ((e : Int) != 0) = true := by rw [bne_iff_ne]; omega
    have hb2 := HB.out
    rw [HMM.out] at hb2
    have he2 := HEB.out he
    rw [HMM.out] at he2
    rw [he2, if_pos he] at hb2
    have HBB := Lib.hid hb2
    clear hb2 he2
    go_wp2_with (fail)
    go_ret2
    exact ⟨by rw [HBB.out]; rfl, HF1.out.trans HF3.out (by simp)⟩
  ·obtain rfl : k = m := by omega
   have zk : ¬ (k : Int) < (k : Int) := by omega
   have hb2 := HB.out
   rw [HMM.out, HE.out, if_neg (by decide)] at hb2
   have HB2' := Lib.hid hb2
   have HRI := Lib.hid (rising_any wr (some ⟨b, o, none⟩) len cap l (HL.out.fp (HF1.out.trans HF.out (by simp))) (by omega))
   clear hb2
   go_wp2_with (fail)
   (with_reducible refine HRI.out.mono ?_)
   rintro e1 w3 ⟨rfl, hf3⟩
   have HB3 := Lib.hid (HBK.out.fp hf3 (by simp))
   have HF3 := Lib.hid (HF.out.trans hf3 (by simp))
   clear hf3
   by_cases hri : risC l = false
   ·have hb3 := HB2'.out
    rw [if_pos hri] at hb3
    have HBB := Lib.hid hb3
    rw [hri]
    clear hb3 hri
    go_wp2_with (fail)
    go_ret2
    exact ⟨by rw [HBB.out]; rfl, HF1.out.trans HF3.out (by simp)⟩
   ·have hri2 : risC l = true := by simpa using hri
    have hb3 := HB2'.out
    rw [if_neg hri] at hb3
    have HBB := Lib.hid hb3
    rw [hri2]
    clear hb3 hri hri2
    have HRW := Lib.hid (rows_any w3 (some ⟨b, o, none⟩) len cap l (HL.out.fp (HF1.out.trans HF3.out (by simp))) (by omega))
    go_wp2_with (fail)
    (with_reducible refine HRW.out.mono ?_)
    rintro e1 w4 ⟨v4, rfl, ho4, hf4⟩
    have HB4 := Lib.hid (HB3.out.fp hf4 (by simp))
    have HF4 := Lib.hid (HF3.out.trans hf4 (by simp))
    have hrl : (rowsP l).length ≤ 2000 := by have h1 := rowsUpTo_length l l.length; have h2 := HLN.out; unfold rowsP; omega
    have hbs := bloomP_size (rowsP l)
    have hbn : bloomN (rowsP l).length ≤ 3000 := by unfold bloomN; omega
    have HMK := Lib.hid (make_any w4 v4 w3.heap.size (rowsP l) ho4 hrl (by
     intro s hs
     obtain ⟨c, hc, rfl⟩ := rows_mem hs
     have := (may_sizes (errK_may (by rw [HMM.out]; exact HE.out) c hc)).1
     omega) (HT.out.fp (HF1.out.trans HF4.out (by simp)) (by simp)))
    clear hf4 ho4 hrl
    go_wp2_with (fail)
    (with_reducible refine HMK.out.mono ?_)
    rintro e1 w5 ⟨rfl, hf5⟩
    have HB5 := Lib.hid (HB4.out.fp hf5 (by simp))
    have HF5 := Lib.hid (HF4.out.trans hf5 (by simp))
    have HFI : Hid (fIndex l = recP (idxB l k)) := by unfold Hid fIndex; rw [HMM.out]
    have HFF : Hid (fFilter l = recP (bloomP (rowsP l))) := rfl
    have his := idxB_size l k
    have hrs1 := recP_size (idxB l k)
    have hrs2 := recP_size (bloomP (rowsP l))
    have HP1 := Lib.hid (fun w ht => tput_any (idxB l k) w (by omega) ht)
    have HP2 := Lib.hid (fun w ht => tput_any (bloomP (rowsP l)) w (by omega) ht)
    have hfi : (fIndex l).size ≤ 10000 := by rw [HFI.out]; omega
    have hff : (fFilter l).size ≤ 10000 := by rw [HFF.out]; omega
    have HFT : Hid (footOf l seq = ⟨(blkL l k).length, (fIndex l).size, (fFilter l).size, seq⟩) := by unfold Hid footOf; rw [HMM.out]
    have HFB : Hid (fileB l seq = bl (blkL l k) ++ fIndex l ++ fFilter l ++ recP (footOf l seq).text) := by unfold Hid fileB fBlocks; rw [HMM.out]
    rw [← HFI.out] at HP1
    rw [← HFF.out] at HP2
    obtain ⟨ix, hix⟩ : ∃ r, idxB l k = r := ⟨_, rfl⟩
    rw [hix] at HP1
    rw [hix]
    obtain ⟨fl, hfl⟩ : ∃ r, bloomP (rowsP l) = r := ⟨_, rfl⟩
    rw [hfl] at HP2
    rw [hfl]
    have hbl := blkL_len l k
    obtain ⟨x2, hx2⟩ : ∃ r, fIndex l = r := ⟨_, rfl⟩
    rw [hx2] at HP1 hfi HFT HFB
    obtain ⟨x3, hx3⟩ : ∃ r, fFilter l = r := ⟨_, rfl⟩
    rw [hx3] at HP2 hff HFT HFB
    rw [HFT.out] at HFB
    obtain ⟨bs, hbseq⟩ : ∃ r, blkL l k = r := ⟨_, rfl⟩
    rw [hbseq] at HB5 hbl HFB
    clear hf5 hix hfl hx2 hx3 hbseq hbs hbn his hrs1 hrs2 HFT HFI HFF
    go_wp2_with (fail)
    (with_reducible refine (HP1.out _ (HT.out.fp (HF1.out.trans HF5.out (by simp)) (by simp))).mono ?_)
    rintro e1 w6 ⟨rfl, hf6⟩
    have HB6 := Lib.hid (HB5.out.fp hf6 (by simp))
    have HF6 := Lib.hid (HF5.out.trans hf6 (by simp))
    clear hf6
    go_wp2_with (fail)
    (with_reducible refine (HP2.out _ (HT.out.fp (HF1.out.trans HF6.out (by simp)) (by simp))).mono ?_)
    rintro e1 w7 ⟨rfl, hf7⟩
    have HB7 := Lib.hid (HB6.out.fp hf7 (by simp))
    have HF7 := Lib.hid (HF6.out.trans hf7 (by simp))
    clear hf7
    go_wp2_with (fail)
    (with_reducible refine (Tryz.Builder_Len w1.heap.size w1.heap.size (Lib.byteCells bs) w7 (by have h := HB7.out; unfold BAt at h; exact h)).mono ?_)
    rintro e1 w8 ⟨rfl, rfl⟩
    rw [Lib.byteCells_length]
    obtain ⟨nb, hnb⟩ : ∃ n, bs.length = n := ⟨_, rfl⟩
    rw [hnb] at HFB ⊢
    have hnb2 : nb ≤ 160012000 := by omega
    go_wp2_with (fail)
    have hfb8 : (w8.alloc (.cells #[.int .i64 nb, .int .i64 x2.size, .int .i64 x3.size, .int .u64 seq] 144)).heap[w8.heap.size]? = some (.cells #[.int .i64 nb, .int .i64 x2.size, .int .i64 x3.size, .int .u64 seq] 144 (0, 0)) := heap_alloc_at rfl _
    have hfp8 := HF7.out.alloc' (.cells #[.int .i64 nb, .int .i64 x2.size, .int .i64 x3.size, .int .u64 seq] 144)
    have hb8 := HB7.out.fp (Fp.alloc w8 (.cells #[.int .i64 nb, .int .i64 x2.size, .int .i64 x3.size, .int .u64 seq] 144)) (by simp)
    obtain ⟨w9, hw9⟩ : ∃ w, w8.alloc (.cells #[.int .i64 nb, .int .i64 x2.size, .int .i64 x3.size, .int .u64 seq] 144) = w := ⟨_, rfl⟩
    rw [hw9] at hfb8 hfp8 hb8 ⊢
    have HBX := Lib.hid hfb8
    have HF9 := Lib.hid hfp8
    have HB9 := Lib.hid hb8
    have hfts : (Foot.text ⟨nb, x2.size, x3.size, seq⟩).size = 20 := by
     unfold Foot.text
     simp only [ByteArray.size_append, leB_size]
    have hrt := recP_size (Foot.text ⟨nb, x2.size, x3.size, seq⟩)
    have HTX := Lib.hid (fun w => foottext_any ⟨nb, x2.size, x3.size, seq⟩ w (by show nb ≤ _; omega) (by show x2.size ≤ _; omega) (by show x3.size ≤ _; omega) hq)
    have HPX := Lib.hid (fun w ht => tput_any (Foot.text ⟨nb, x2.size, x3.size, seq⟩) w (by omega) ht)
    simp only [footV] at HTX
    obtain ⟨tx, htx⟩ : ∃ t, Foot.text ⟨nb, x2.size, x3.size, seq⟩ = t := ⟨_, rfl⟩
    rw [htx] at HTX HPX hfts hrt HFB
    obtain ⟨x4, hx4⟩ : ∃ t, recP tx = t := ⟨_, rfl⟩
    rw [hx4] at HPX hrt HFB
    obtain ⟨x1, hx1⟩ : ∃ t, bl bs = t := ⟨_, rfl⟩
    have hx1s : x1.size = nb := by rw [← hx1, bl_size, hnb]
    have HX1 : Hid ((⟨bs.toArray⟩ : ByteArray) = x1) := hx1
    rw [hx1] at HFB
    have zl1 : ¬ x1.size + x2.size > 9223372036854775807 := by omega
    have zl2 : ¬ x1.size + x2.size + x3.size > 9223372036854775807 := by omega
    have zl3 : ¬ x1.size + x2.size + x3.size + x4.size > 9223372036854775807 := by omega
    clear hfb8 hfp8 hb8 hw9 htx hx4 hx1 hx1s hnb hbl
    refine wp_region_n (CJ w1 w8.heap.size ⟨nb, x2.size, x3.size, seq⟩ bs) (fun _ _ => True) (by kernel_rfl) (by kernel_rfl) ⟨HF9.out.drew', ((Fp.drew w9).block _ (heap_lt HBX.out) (by simp)).trans HBX.out, fun _ => HB9.out.fp (Fp.drew w9) (by simp)⟩ ?_
    apply nx_turn (eqV (.string x1)) rfl rfl rfl
    ·intro b a w hC hA K hK
     have h7 := hA.fr 7 rfl
     simp only [Oper.wp, execOp]; go_simp
     (with_reducible refine (string_kept w1.heap.size w1.heap.size bs w (hC.bu hA.self)).mono ?_)
     rintro e w2 ⟨rfl, hbel, hk⟩
     rw [HX1.out]
     exact hK _ _ ⟨(CJs.fp hC).belowTrans hbel, hk _ _ _ (by decide) (CJs.box hC), fun h => by cases h⟩ trivial rfl
    iterate 10
     apply nx_plain (fun _ _ h => h) rfl rfl rfl
     ·intro b a w hC hA K hK
      try have h8 := hA.fr 8 rfl
      try have h81 := hA.eq 0 81 rfl
      try have h82 := hA.eq 1 82 rfl
      try have h15 := hA.fr 15 rfl
      try have h83 := hA.eq 2 83 rfl
      try have h84 := hA.eq 3 84 rfl
      try have h17 := hA.fr 17 rfl
      try have h86 := hA.eq 5 86 rfl
      try have h87 := hA.eq 6 87 rfl
      try have h85 := hA.eq 4 85 rfl
      try have h88 := hA.eq 7 88 rfl
      try have h89 := hA.eq 8 89 rfl
      have q0 := cell_of_block (CJs.box hC) 0
      have q1 := cell_of_block (CJs.box hC) 1
      have q2 := cell_of_block (CJs.box hC) 2
      have q3 := cell_of_block (CJs.box hC) 3
      simp only [List.getElem?_toArray, List.getElem?_cons_succ, List.getElem?_cons_zero] at q0 q1 q2 q3
      simp only [Oper.wp, execOp]; go_simp
      first
      |exact hK _ hC trivial
      |first
        |((with_reducible refine (HTX.out _).mono ?_); rintro e w2 ⟨rfl, hf⟩; exact hK _ (CJs.on hC hf) trivial)
        |((with_reducible refine (HPX.out _ (HT.out.fp (HF1.out.trans hC.fp (by simp)) (by simp))).mono ?_); rintro e w2 ⟨rfl, hf⟩; exact hK _ (CJs.on hC hf) trivial)
    refine ⟨?_, ?_⟩
    ·refine stabN_val _ ?_
     iterate 9 refine stabN_val _ ?_
     refine ⟨fun _ _ _ _ h => h, ?_⟩
     exact trivial
    ·intro wz bb hC hbb
     simp only [List.reverse_cons, List.reverse_nil, List.nil_append, List.cons_append]
     refine all_some ?_
     intro v0 u0
     obtain rfl := u0
     iterate 10 (refine all_val ?_)
     refine all_nil ?_
     simp only [putAll, Act.put, List.setIfInBounds_toArray, List.set_cons_succ, List.set_cons_zero]
     have HFZ := Lib.hid (CJs.fp hC)
     clear hC hbb
     go_wp2_with (fail)
     go_ret2
     exact ⟨by rw [HBB.out, HFB.out]; rfl, HF1.out.trans HFZ.out (by simp)⟩
end
section
open Go.RowKit
end
section
open Go.RowKit
end
end
section
section
open Go.RowKit
end
section
open Go.RowKit
end
end
section
section
open Go.RowKit
def recL (x : ByteArray) : List UInt8 := two x.size ++ (quad (crcN (bl (two x.size)) x) ++ x.data.toList)
theorem recB_bl (x : ByteArray) : recB x = bl (recL x) := by
 unfold recB recL
 conv => lhs; rw [← bl_data x]
 simp only [bl_data, bl_append]
 rw [show (x : ByteArray) = bl x.data.toList from (bl_data x).symm]
 simp only [bl_append, bl_toList, List.append_assoc, bl_size]
theorem recL_length (x : ByteArray) : (recL x).length = 6 + x.size := by
 unfold recL two quad
 simp only [List.length_append, List.length_cons, List.length_nil]
 show 0 + 1 + 1 + (0 + 1 + 1 + 1 + 1 + x.size) = _
 omega
theorem recP_ok {x : ByteArray} (h : x.size ≤ 65535) : recP x = recB x := by
 unfold recP putP
 rw [if_neg (by omega)]
theorem get_rec (x : ByteArray) (y : List UInt8) (h : x.size ≤ 65535) : getP (bl (recL x ++ y)) = (x, 6 + x.size, 0) := by
 obtain ⟨c, hc⟩ : ∃ c, crcN (bl (two x.size)) x = c := ⟨_, rfl⟩
 have hcl : c < 4294967296 := by rw [← hc]; exact crcN_lt _ _
 have hl : recL x ++ y = two x.size ++ (quad c ++ (x.data.toList ++ y)) := by unfold recL; rw [hc]; simp only [List.append_assoc]
 have hsz : (bl (recL x ++ y)).size = 6 + x.size + y.length := by rw [bl_size, List.length_append, recL_length]
 have hx : x.data.toList.length = x.size := rfl
 have a0 : atB (bl (recL x ++ y)) 0 = UInt8.ofNat x.size := by rw [bl_at, hl]; rfl
 have a1 : atB (bl (recL x ++ y)) 1 = UInt8.ofNat (x.size / 256) := by rw [bl_at, hl]; rfl
 have a2 : atB (bl (recL x ++ y)) 2 = UInt8.ofNat c := by rw [bl_at, hl]; rfl
 have a3 : atB (bl (recL x ++ y)) 3 = UInt8.ofNat (c / 256) := by rw [bl_at, hl]; rfl
 have a4 : atB (bl (recL x ++ y)) 4 = UInt8.ofNat (c / 65536) := by rw [bl_at, hl]; rfl
 have a5 : atB (bl (recL x ++ y)) 5 = UInt8.ofNat (c / 16777216) := by rw [bl_at, hl]; rfl
 have he : endN (bl (recL x ++ y)) = 6 + x.size := by
  unfold endN
  rw [a0, a1, UInt8.toNat_ofNat', UInt8.toNat_ofNat']
  omega
 have e1 : (bl (recL x ++ y)).extract 0 2 = bl (two x.size) := by
  rw [hl]; exact bl_pre _ _ _ rfl
 have e2 : (bl (recL x ++ y)).extract 6 (6 + x.size) = x := by
  rw [hl, ← List.append_assoc]
  rw [bl_mid (two x.size ++ quad c) x.data.toList y 6 (6 + x.size) rfl (by rw [hx]; rfl), bl_data]
 have hg := getP_ok (s := bl (recL x ++ y)) (by rw [hsz]; omega) (by rw [hsz]; omega) (by rw [he, hsz]; omega) (by
  rw [he, e1, e2, hc, a2, a3, a4, a5, quadN_quad c hcl])
 rw [hg, he, e2]
structure GoodT (l : List Cel) : Prop where
 len : l.length ≤ 2000
 pos : 0 < l.length
 err : errK l (manyP l) = 0
 ris : risC l = true
theorem build_good {l : List Cel} (seq : Nat) (h : GoodT l) : buildT l seq = (fileB l seq, 0) := by
 have h1 := h.len
 have h2 := h.pos
 unfold buildT
 rw [if_neg (by omega), if_neg (by omega), if_neg (by simp [h.err]), if_neg (by simp [h.ris])]
theorem good_build {l : List Cel} {seq : Nat} (h : (buildT l seq).2 = 0) : GoodT l := by
 unfold buildT at h
 split at h
 ·cases h
 ·split at h
  ·cases h
  ·split at h
   ·rename_i h3
    exact absurd h h3
   ·split at h
    ·cases h
    ·rename_i h1 h2 h3 h4
     exact ⟨by omega, by omega, by simpa using h3, by simpa using h4⟩
theorem rows_len (l : List Cel) : (rowsP l).length ≤ l.length := rowsUpTo_length l l.length
theorem bloom_small {l : List Cel} (h : l.length ≤ 2000) : (bloomP (rowsP l)).size ≤ 2501 := by
 rw [bloomP_size]
 have := rows_len l
 unfold bloomN
 omega
theorem idx_small {l : List Cel} (h : l.length ≤ 2000) : (idxB l (manyP l)).size ≤ 1002 := by
 rw [idxB_size]
 unfold manyP
 omega
theorem foot_size (f : Foot) : f.text.size = 20 := by
 unfold Foot.text
 simp only [ByteArray.size_append, leB_size]
def fileL (l : List Cel) (seq : Nat) : List UInt8 := blkL l (manyP l) ++ (recL (idxB l (manyP l)) ++ (recL (bloomP (rowsP l)) ++ recL (footOf l seq).text))
theorem file_bl {l : List Cel} (seq : Nat) (h : l.length ≤ 2000) : fileB l seq = bl (fileL l seq) := by
 have h1 := idx_small h
 have h2 := bloom_small h
 have h3 := foot_size (footOf l seq)
 unfold fileB fBlocks fIndex fFilter fileL
 rw [recP_ok (by omega), recP_ok (by omega), recP_ok (by omega), recB_bl, recB_bl, recB_bl]
 simp only [bl_append, List.append_assoc]
theorem file_length {l : List Cel} (seq : Nat) : (fileL l seq).length = (blkL l (manyP l)).length + (6 + (idxB l (manyP l)).size) + (6 + (bloomP (rowsP l)).size) + 26 := by
 unfold fileL
 simp only [List.length_append, recL_length, foot_size]
 omega
theorem blk_len {l : List Cel} (h : GoodT l) : (blkL l (manyP l)).length ≤ 80006 * 250 := by
 have h1 := blkL_len l (manyP l)
 have h2 := h.len
 have h3 : manyP l ≤ 250 := by unfold manyP; omega
 exact Nat.le_trans h1 (Nat.mul_le_mul_left _ h3)
end
section
open Go.RowKit
end
section
open Go.RowKit
end
section
open Go.RowKit
theorem file_size {l : List Cel} (seq : Nat) (h : GoodT l) : (fileB l seq).size ≤ 100000000 := by
 have h1 := blk_len h
 have h2 := idx_small h.len
 have h3 := bloom_small h.len
 rw [file_bl seq h.len, bl_size, file_length]
 omega
end
end
section
open Go.RowKit Go.Maps Go.MapKept Go.ChangeMaps
theorem DkOK.thereD {d : Dk} {name : ByteArray} {g : File → Dk} (h : DkOK d) (hg : d.named [name] = 0 → ∀ f, mget d.files name = some f → DkOK (g f)) : DkOK (d.thereD name g) := by
 unfold Dk.thereD
 split
 ·exact h
 ·rename_i hn
  split
  ·exact h
  ·rename_i f hf
   exact (hg (by simpa using hn) f hf).burnt
theorem DkOK.syncD {d : Dk} (h : DkOK d) (name : ByteArray) : DkOK (d.sync name) := by
 refine h.thereD fun _ f hf => ?_
 unfold Dk.syncG
 have hfile := h.file hf
 have hfi := h.fits
 split
 ·refine h.tick.put name _ ?_ (Nat.le_refl _) (Or.inl (by show (mget d.files name).isSome = true; rw [hf]; rfl))
  rw [fget_tick hf]
  show (total d.files : Int) + (f.s.size : Nat) - f.s.size ≤ d.cap
  omega
 ·exact h.tick
theorem DkOK.deleteD {d : Dk} (h : DkOK d) (name : ByteArray) : DkOK (d.delete name) := by
 refine h.thereD fun _ f hf => ?_
 unfold Dk.deleteG
 split
 ·exact h.tick.gone name (by show (mget d.files name).isSome = true; rw [hf]; rfl)
 ·exact h.tick
theorem DkOK.appendD {d : Dk} (h : DkOK d) (name s : ByteArray) : DkOK (d.append name s) := by
 unfold Dk.append
 split
 ·exact h
 ·rename_i hfull
  refine h.thereD fun hn f hf => ?_
  have ho := named_zero hn
  have hfit : d.size + s.size ≤ d.cap := by
   unfold Dk.full at hfull
   rw [hf, ho] at hfull
   simpa using hfull
  have hfile := h.file hf
  have hz := h.size
  have hfg : fget d.tick name = f := by
   show (mget d.files name).getD zeroFile = f
   rw [hf]; rfl
  refine h.tick.put name _ ?_ ?_ (Or.inl (by show (mget d.files name).isSome = true; rw [hf]; rfl))
  ·rw [hfg]
   show (total d.files : Int) + ((f.s ++ s).size : Nat) - f.s.size ≤ d.cap
   simp only [ByteArray.size_append]
   omega
  ·show f.synced ≤ (f.s ++ s).size
   simp only [ByteArray.size_append]
   omega
theorem DkOK.renameD {d : Dk} (h : DkOK d) (frm dst : ByteArray) : DkOK (d.rename frm dst) := by
 unfold Dk.rename
 split
 ·exact h
 ·exact h.thereD fun _ f hf => renameG_ok h hf
theorem DkOK.createD {d : Dk} (h : DkOK d) (name : ByteArray) : DkOK (d.create name) := by
 unfold Dk.create
 split
 ·exact h
 ·split
  ·exact h
  ·split
   ·exact h
   ·exact (createG_ok h (by omega)).burnt
def stepsP : List (Dk → Dk × Int) → Dk → Dk × Int
 |[], d => (d, 0)
 |g :: r, d => if (g d).2 = 0 then stepsP r (g d).1 else g d
def recsL (l : List ByteArray) : List UInt8 := l.flatMap recL
theorem recsL_cons (t : ByteArray) (r : List ByteArray) : recsL (t :: r) = recL t ++ recsL r := rfl
theorem recsL_append (a b : List ByteArray) : recsL (a ++ b) = recsL a ++ recsL b := by unfold recsL; rw [List.flatMap_append]
def sumsT : List ByteArray → Nat
 |[] => 0
 |t :: r => 6 + t.size + sumsT r
theorem sumsT_append : ∀ (a b : List ByteArray), sumsT (a ++ b) = sumsT a + sumsT b
 |[], b => by simp [sumsT]
 |t :: r, b => by show 6 + t.size + sumsT (r ++ b) = 6 + t.size + sumsT r + sumsT b; rw [sumsT_append r b]; omega
theorem recsL_length : ∀ (l : List ByteArray), (recsL l).length = sumsT l
 |[] => rfl
 |t :: r => by
  rw [recsL_cons, List.length_append, recsL_length r, recL_length]
  rfl
def narrow (l : List ByteArray) : Bool := l.all (fun t => decide (t.size ≤ 65535))
def bytesP (l : List ByteArray) : ByteArray × Int := if narrow l then (bl (recsL l), 0) else (⟨#[]⟩, 71)
def plusB : ByteArray := ⟨#[43]⟩
def wSteps (name other s : ByteArray) : List (Dk → Dk × Int) :=
 [fun d => (d.delete other, if d.thereE other = 3 then 0 else d.thereE other),
  fun d => (d.create other, d.createE other),
  fun d => (d.append other s, d.appendE other s),
  fun d => (d.sync other, d.thereE other),
  fun d => (d.rename other name, d.renameE other name)]
def Dk.wWrite (d : Dk) (name s : ByteArray) : Dk × Int := stepsP (wSteps name (name ++ plusB) s) d
def aSteps (name s : ByteArray) : List (Dk → Dk × Int) := [fun d => (d.append name s, d.appendE name s), fun d => (d.sync name, d.thereE name)]
def Dk.wAppend (d : Dk) (name s : ByteArray) : Dk × Int := stepsP (aSteps name s) d
theorem wSteps_ok (name other s : ByteArray) : ∀ g ∈ wSteps name other s, ∀ d, DkOK d → DkOK (g d).1 := by
 intro g hg d hd
 simp only [wSteps, List.mem_cons, List.not_mem_nil, or_false] at hg
 rcases hg with rfl | rfl | rfl | rfl | rfl
 ·exact hd.deleteD _
 ·exact hd.createD _
 ·exact hd.appendD _ _
 ·exact hd.syncD _
 ·exact hd.renameD _ _
theorem aSteps_ok (name s : ByteArray) : ∀ g ∈ aSteps name s, ∀ d, DkOK d → DkOK (g d).1 := by
 intro g hg d hd
 simp only [aSteps, List.mem_cons, List.not_mem_nil, or_false] at hg
 rcases hg with rfl | rfl
 ·exact hd.appendD _ _
 ·exact hd.syncD _
def Dk.wOpen (d : Dk) (name : ByteArray) : Dk × Int × List ByteArray :=
 if name.size = 0 ∨ 59 < name.size then (d, 1, [])
 else if (d.read name).2 ≠ 0 ∧ (d.read name).2 ≠ 3 then (d, (d.read name).2, [])
 else
  let s := (d.read name).1
  let r := if (d.read name).2 = 3 ∨ endOf (textsP s) < s.size then d.wWrite name (s.extract 0 (endOf (textsP s))) else (d.sync name, d.thereE name)
  (r.1, r.2, if r.2 = 0 then (textsP s).map (·.2) else [])
structure Lg where
 name : ByteArray
 many : Nat
 off : Bool
def changeP (lg : Lg) (d : Dk) (texts : List ByteArray) (many : Nat) (g : ByteArray → Dk → Dk × Int) : Lg × Dk × Int :=
 if lg.off then (lg, d, 6)
 else if (bytesP texts).2 ≠ 0 then (lg, d, (bytesP texts).2)
 else
  let r := g (bytesP texts).1 d
  (if r.2 = 0 then { lg with many := many } else if r.2 = 2 then lg else { lg with off := true }, r.1, r.2)
def appendLP (lg : Lg) (d : Dk) (texts : List ByteArray) : Lg × Dk × Int := changeP lg d texts (lg.many + texts.length) (fun s d => d.wAppend lg.name s)
end
end Go.Proofs.YtkagolpnaicdoaaGreatDoor
