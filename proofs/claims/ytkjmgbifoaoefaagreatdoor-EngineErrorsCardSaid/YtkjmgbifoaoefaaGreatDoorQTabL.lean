/-
 table.Build: a file's bytes. table.Open: a file that is opened. table.Open: the walk.
-/
import Derived.Test.YtkjmgbifoaoefaaGreatDoorQTabG
set_option maxRecDepth 100000
set_option maxHeartbeats 8000000
namespace Go.Proofs.YtkjmgbifoaoefaaGreatDoor
section
open Go.RowKit
def manyP (l : List Cel) : Nat := (l.length + 7) / 8
def pieceL (l : List Cel) (k : Nat) : List Cel := (l.drop (8 * k)).take 8
def recK (l : List Cel) (k : Nat) : ByteArray := recP (buildP (pieceL l k)).1
def errK (l : List Cel) : Nat → Nat
 |0 => 0
 |k + 1 => if errK l k ≠ 0 then errK l k else (buildP (pieceL l k)).2
def blkL (l : List Cel) (k : Nat) : List UInt8 := (List.range k).flatMap fun j => (recK l j).data.toList
def idxB (l : List Cel) : Nat → ByteArray
 |0 => leB (manyP l) 2
 |k + 1 => idxB l k ++ leB (recK l k).size 4
def fBlocks (l : List Cel) : ByteArray := bl (blkL l (manyP l))
def fIndex (l : List Cel) : ByteArray := recP (idxB l (manyP l))
def fFilter (l : List Cel) : ByteArray := recP (bloomP (rowsP l))
def footOf (l : List Cel) (seq : Nat) : Foot := ⟨(blkL l (manyP l)).length, (fIndex l).size, (fFilter l).size, seq⟩
def fileB (l : List Cel) (seq : Nat) : ByteArray := fBlocks l ++ fIndex l ++ fFilter l ++ recP (footOf l seq).text
def buildT (l : List Cel) (seq : Nat) : ByteArray × Nat :=
 if l.length > 2000 then (⟨#[]⟩, 71) else if l.length = 0 then (⟨#[]⟩, 1) else if errK l (manyP l) ≠ 0 then (⟨#[]⟩, errK l (manyP l)) else if risC l = false then (⟨#[]⟩, 40) else (fileB l seq, 0)
theorem errK_stay {l : List Cel} {k : Nat} (h : errK l k ≠ 0) : ∀ m, k ≤ m → errK l m = errK l k
 |0, hm => by obtain rfl : k = 0 := by omega
              rfl
 |m + 1, hm => by
  by_cases e : k = m + 1
  ·rw [e]
  ·have ih := errK_stay h m (by omega)
   show (if errK l m ≠ 0 then errK l m else _) = _
   rw [ih, if_pos h]
theorem errK_bad {l : List Cel} {k m : Nat} (h0 : errK l k = 0) (h : (buildP (pieceL l k)).2 ≠ 0) (hk : k < m) : errK l m = (buildP (pieceL l k)).2 := by
 have h1 : errK l (k + 1) = (buildP (pieceL l k)).2 := by show (if errK l k ≠ 0 then errK l k else _) = _; rw [if_neg (by simp [h0])]
 rw [errK_stay (k := k + 1) (by rw [h1]; exact h) m hk, h1]
theorem errK_good {l : List Cel} {k : Nat} (h0 : errK l k = 0) (h : (buildP (pieceL l k)).2 = 0) : errK l (k + 1) = 0 := by
 show (if errK l k ≠ 0 then errK l k else _) = _
 rw [if_neg (by simp [h0]), h]
theorem blkL_succ (l : List Cel) (k : Nat) : blkL l (k + 1) = blkL l k ++ (recK l k).data.toList := by
 unfold blkL; rw [List.range_succ, List.flatMap_append]; simp
theorem pieceL_len (l : List Cel) (k : Nat) : (pieceL l k).length = min 8 (l.length - 8 * k) := by
 unfold pieceL; rw [List.length_take, List.length_drop]
theorem part_at {w : World} {b o len : Nat} {l : List Cel} {k : Nat} (h : CelsAt w (some ⟨b, o, none⟩) len l) (hk : 8 * k < len) : CelsAt w (some ⟨b, o + 8 * k * 6, none⟩) (min 8 (len - 8 * k)) (pieceL l k) := by
 have h1 := h.drop (8 * k) (len - 8 * k) (by omega)
 have h2 := h1.take (min 8 (len - 8 * k)) (by omega)
 unfold pieceL
 have hl := h.len
 by_cases e : len - 8 * k ≤ 8
 ·rw [List.take_of_length_le (by rw [List.length_drop]; omega)]
  rw [List.take_of_length_le (by rw [List.length_drop]; omega)] at h2
  exact h2
 ·rw [Nat.min_eq_left (by omega)] at h2 ⊢
  exact h2
theorem recP_size (s : ByteArray) : (recP s).size ≤ 6 + s.size := by
 unfold recP putP
 split
 ·show 0 ≤ _; omega
 ·exact Nat.le_of_eq (recB_size s)
theorem recK_size (l : List Cel) (k : Nat) : (recK l k).size ≤ 80006 := by
 have h1 := recP_size (buildP (pieceL l k)).1
 have h2 := built_size (l := pieceL l k)
 unfold recK
 omega
theorem blkL_len (l : List Cel) : ∀ k, (blkL l k).length ≤ 80006 * k
 |0 => Nat.le_refl _
 |k + 1 => by
  rw [blkL_succ, List.length_append]
  have h1 := blkL_len l k
  have h2 := recK_size l k
  have h3 : (recK l k).data.toList.length = (recK l k).size := rfl
  omega
theorem idxB_size (l : List Cel) : ∀ k, (idxB l k).size = 2 + 4 * k
 |0 => by show (leB _ 2).size = _; rw [leB_size]
 |k + 1 => by
  show (idxB l k ++ leB _ 4).size = _
  rw [ByteArray.size_append, idxB_size l k, leB_size]
  omega
theorem OwnP.get {w : World} {base : Nat} {v : Value} {vs : List Value} (h : OwnP w base v vs) {k : Nat} (hk : k < vs.length) : ∃ g cap, v = .slice (some ⟨g, 0, none⟩) vs.length cap ∧ base ≤ g ∧ g < w.heap.size ∧ ∀ i (hi : i < vs.length), w.cell? ⟨g, i, none⟩ = some vs[i] := by
 rcases h.2 with ⟨_, h1⟩ | ⟨g, cap, cur, e, hg, hh, hn, hm, hs, ht⟩
 ·omega
 ·refine ⟨g, cap, e, hg, heap_lt hh, fun i hi => ?_⟩
  have h3 : (cur.toList.take (vs.length * 1))[i]? = vs[i]? := by rw [ht]
  rw [List.getElem?_take, if_pos (by omega), List.getElem?_eq_getElem hi, Array.getElem?_toList] at h3
  rw [cell_of_block hh, h3]
theorem partsI_at {len k : Nat} (h : k < (partsI len).length) : (partsI len)[k] = (8 * k, min 8 (len - 8 * k)) := by simp [partsI]
theorem errK_all {l : List Cel} : ∀ {m : Nat}, errK l m = 0 → ∀ k, k < m → (buildP (pieceL l k)).2 = 0
 |0, _, k, hk => absurd hk (Nat.not_lt_zero _)
 |m + 1, h, k, hk => by
  by_cases h0 : errK l m = 0
  ·have h1 : (buildP (pieceL l m)).2 = 0 := by
    have : errK l (m + 1) = (buildP (pieceL l m)).2 := by show (if errK l m ≠ 0 then errK l m else _) = _; rw [if_neg (by simp [h0])]
    rw [← this]; exact h
   by_cases e : k = m
   ·rw [e]; exact h1
   ·exact errK_all h0 k (by omega)
  ·have : errK l (m + 1) = errK l m := by show (if errK l m ≠ 0 then errK l m else _) = _; rw [if_pos h0]
   rw [this] at h
   exact absurd h h0
theorem errK_may {l : List Cel} (h : errK l (manyP l) = 0) : ∀ c ∈ l, mayB c = true := by
 intro c hc
 obtain ⟨i, hi, rfl⟩ := List.getElem_of_mem hc
 have h1 := (build_ok (errK_all h (i / 8) (by unfold manyP; omega))).2.1
 rw [List.all_eq_true] at h1
 apply h1
 have hlt : i % 8 < (pieceL l (i / 8)).length := by rw [pieceL_len]; omega
 have e0 : (pieceL l (i / 8))[i % 8]? = l[i]? := by
  unfold pieceL
  rw [List.getElem?_take, if_pos (Nat.mod_lt _ (by decide)), List.getElem?_drop]
  congr 1
  omega
 have e : (pieceL l (i / 8))[i % 8] = l[i] := by
  rw [List.getElem?_eq_getElem hlt, List.getElem?_eq_getElem hi] at e0
  exact Option.some.inj e0
 rw [← e]
 exact List.getElem_mem hlt
theorem rows_mem {l : List Cel} {s : ByteArray} (h : s ∈ rowsP l) : ∃ c ∈ l, c.row = s := by
 unfold rowsP rowsUpTo at h
 obtain ⟨j, hj, rfl⟩ := List.mem_map.1 h
 have hlt := List.mem_range.1 (List.mem_filter.1 hj).1
 refine ⟨l.getD j zeroC, ?_, rfl⟩
 rw [List.getD_eq_getElem?_getD, List.getElem?_eq_getElem hlt]
 exact List.getElem_mem hlt
theorem bloomP_size (names : List ByteArray) : (bloomP names).size = bloomN names.length := by
 unfold bloomP; rw [bl_size, bloomL_length]
structure CJs (w1 : World) (bf : Nat) (f : Foot) (bs : List UInt8) (done : Bool) (w' : World) : Prop where
 fp : Fp [] w1 w'
 box : w'.heap[bf]? = some (.cells #[.int .i64 f.blocks, .int .i64 f.index, .int .i64 f.filter, .int .u64 f.seq] 84 (0, 0))
 bu : done = false → BAt 69 w1.heap.size w1.heap.size bs w'
def CJ (w1 : World) (bf : Nat) (f : Foot) (bs : List UInt8) (b : Nat → Bool) (w' : World) : Prop := CJs w1 bf f bs (b 0) w'
theorem CJs.on {w1 A B : World} {bf : Nat} {f : Foot} {bs : List UInt8} {d : Bool} (h : CJs w1 bf f bs d A) (hf : Fp [] A B) : CJs w1 bf f bs d B :=
 ⟨h.fp.trans hf (by simp), (hf.block _ (heap_lt h.box) (by simp)).trans h.box, fun e => (h.bu e).fp hf (by simp)⟩
theorem CJ.bu {w1 w' : World} {bf : Nat} {f : Foot} {bs : List UInt8} {b : Nat → Bool} (h : CJ w1 bf f bs b w') (h0 : b 0 = false) : BAt 69 w1.heap.size w1.heap.size bs w' := CJs.bu h h0
theorem CJ.fp {w1 w' : World} {bf : Nat} {f : Foot} {bs : List UInt8} {b : Nat → Bool} (h : CJ w1 bf f bs b w') : Fp [] w1 w' := CJs.fp h
theorem liesSB : liesAt Tryz.prog Tryz.prog.depth 69 (2 / Tryz.prog.cellsOf 69) 0 69 1 = true := by kernel_rfl
theorem tbuild_any (w : World) (a : Option Addr) (len cap : Nat) (l : List Cel) (seq : Nat) (hl : CelsAt w a len l) (hlc : len ≤ cap) (hcm : len ≤ 1000000000) (hq : seq < 18446744073709551616) (hm : MaxAt w) (ht : TabAt w) :
  Calls Tryz.prog 39 #[.slice a len cap, .int .u64 seq] w fun e w' => e = .returned (.tuple #[.string (buildT l seq).1, .int .i64 ((buildT l seq).2 : Nat)]) ∧ Fp [] w w' := by
 have HL := Lib.hid hl
 have HLN := Lib.hid hl.len
 have HM := Lib.hid hm
 have HT := Lib.hid ht
 by_cases h1 : len > 2000
 ·have hb : buildT l seq = (⟨#[]⟩, 71) := if_pos (by rw [← hl.len]; exact h1)
  rw [hb]
  have z : (len : Int) > 2000 := by omega
  clear hl hm ht hb
  go_enter Tryz.func39, Tryz.ntmps39
  go_wp2_with (fail)
  go_ret2
  exact ⟨rfl, Fp.refl _ _⟩
 by_cases h2 : len = 0
 ·have hb : buildT l seq = (⟨#[]⟩, 1) := by unfold buildT; rw [if_neg (by rw [← hl.len]; exact h1), if_pos (by rw [← hl.len]; exact h2)]
  rw [hb]
  subst h2
  clear hl hm ht hb
  go_enter Tryz.func39, Tryz.ntmps39
  go_wp2_with (fail)
  go_ret2
  exact ⟨rfl, Fp.refl _ _⟩
 have hb : buildT l seq = if errK l (manyP l) ≠ 0 then (⟨#[]⟩, errK l (manyP l)) else if risC l = false then (⟨#[]⟩, 40) else (fileB l seq, 0) := by
  unfold buildT; rw [if_neg (by rw [← hl.len]; exact h1), if_neg (by rw [← hl.len]; exact h2)]
 have HB := Lib.hid hb
 have y1 : ¬ (len : Int) > 2000 := by omega
 have y2 : ((len : Int) == 0) = false := by rw [beq_eq_false_iff_ne]; omega
 obtain ⟨b, o, rfl⟩ : ∃ b o, a = some ⟨b, o, none⟩ := by
  rcases hl.cells with h0 | ⟨b, o, e, _⟩
  ·rw [h0] at hl; have := hl.len; simp at this; omega
  ·exact ⟨b, o, e⟩
 obtain ⟨m, hmm⟩ : ∃ m, manyP l = m := ⟨_, rfl⟩
 have hm8 : m = (len + 7) / 8 := by rw [← hmm, manyP, hl.len]
 have HM8 := Lib.hid hm8
 have hm8a : 8 * m < len + 8 := by omega
 have hm8b : len ≤ 8 * m := by omega
 have HMM := Lib.hid hmm
 have HPT := Lib.hid (fun w => parted_any w b o len cap hlc hcm)
 clear hl hm ht hb hmm hm8
 go_enter Tryz.func39, Tryz.ntmps39
 go_wp2_with (fail)
 (with_reducible refine (HPT.out _).mono ?_)
 rintro e w1 ⟨v1, rfl, ho1, hf1⟩
 have hpl : ((partsI len).map (partV b o)).length = m := by rw [List.length_map, partsI_length, HM8.out]
 obtain ⟨g1, c1, rfl, hg1, hgl1, hcs⟩ := ho1.get (k := 0) (by rw [hpl]; omega)
 rw [hpl]
 have HCS : Hid (∀ k, k < m → w1.cell? ⟨g1, k, none⟩ = some (.slice (some ⟨b, o + 8 * k * 6, none⟩) (min 8 (len - 8 * k)) (min 8 (len - 8 * k)))) := by
  intro k hk
  have h := hcs k (by rw [hpl]; exact hk)
  rw [List.getElem_map, partsI_at] at h
  exact h
 have HF1 := Lib.hid hf1
 have hbf := BAt.fresh 69 w1
 have HBF := Lib.hid hbf
 have u1 : IntKind.u64.wrap (m : Int) = (m : Int) := by rw [IntKind.wrap_u64]; omega
 have HLI := Lib.hid (fun w n (h : n < 18446744073709551616) => tlittle_any w n 2 h (by decide))
 have HL2 : Hid (∀ w, Calls Tryz.prog 88 #[.int .u64 m, .int .i64 2] w fun e w' => e = .returned (.string (idxB l 0)) ∧ Fp [] w w') := by
  intro w
  rw [show idxB l 0 = leB m 2 from by show leB (manyP l) 2 = _; rw [HMM.out]]
  exact tlittle_any w m 2 (by omega) (by decide)
 clear hbf hcs ho1 hf1 HLI HPT
 go_wp2_with (fail)
 (with_reducible refine (HL2.out _).mono ?_)
 rintro e w2 ⟨rfl, hf2⟩
 have HF2 := Lib.hid (HF1.out.trans ((Fp.alloc w1 (.cells #[.pointer none, .slice none 0 0] 69)).trans hf2 (by simp)) (by simp))
 have HF12 := Lib.hid ((Fp.alloc w1 (.cells #[.pointer none, .slice none 0 0] 69)).trans hf2 (by simp))
 have HB2 := Lib.hid (HBF.out.fp hf2 (by simp))
 clear hf2 HL2
 go_wp2_with (fail)
 go_loopg [8, 34] m (fun g vi vk wr => ∃ k : Nat, g + k = m ∧ vi = .string (idxB l k) ∧ vk = .int .i64 k ∧ BAt 69 w1.heap.size w1.heap.size (blkL l k) wr ∧ Fp [] w1 wr ∧ errK l k = 0)
 case atStart => exact ⟨0, by omega, rfl, rfl, HB2.out, HF12.out, rfl⟩
 case round =>
  obtain ⟨k, hg, rfl, rfl, hbk, hf, he⟩ := hrel
  have HBK := Lib.hid hbk
  have HF := Lib.hid hf
  have HE := Lib.hid he
  clear hbk hf he
  by_cases hk : k < m
  ·have zk : (k : Int) < (m : Int) := by omega
   have q0 : wr.cell? ⟨g1, k, none⟩ = some (.slice (some ⟨b, o + 8 * k * 6, none⟩) (min 8 (len - 8 * k)) (min 8 (len - 8 * k))) := (HF.out.cell (p := ⟨g1, k, none⟩) hgl1 (by simp)).trans (HCS.out k hk)
   have HPB := Lib.hid (build_any wr (some ⟨b, o + 8 * k * 6, none⟩) (min 8 (len - 8 * k)) (min 8 (len - 8 * k)) (pieceL l k) (part_at (HL.out.fp (HF1.out.trans HF.out (by simp))) (by omega)) (by omega) (HM.out.fp (HF1.out.trans HF.out (by simp)) (by simp)))
   have HEB := Lib.hid (fun h => errK_bad (m := manyP l) HE.out h (by rw [HMM.out]; exact hk))
   have HEG := Lib.hid (fun h => errK_good HE.out h)
   have HRK : Hid (recK l k = recP (buildP (pieceL l k)).1) := rfl
   have hbs := built_size (l := pieceL l k)
   obtain ⟨⟨s, e⟩, hse⟩ : ∃ t, buildP (pieceL l k) = t := ⟨_, rfl⟩
   rw [hse] at HPB HEB HEG HRK hbs
   obtain ⟨mm, hmm⟩ : ∃ mm, min 8 (len - 8 * k) = mm := ⟨_, rfl⟩
   rw [hmm] at q0 HPB
   clear hse hmm
   go_wp2_with (fail)
   (with_reducible refine HPB.out.mono ?_)
   rintro e1 w3 ⟨rfl, hf3⟩
   have HB3 := Lib.hid (HBK.out.fp hf3 (by simp))
   have HF3 := Lib.hid (HF.out.trans hf3 (by simp))
   clear hf3
   by_cases he : e = 0
   ·subst he
    have HE1 := Lib.hid (HEG.out rfl)
    have HRC := Lib.hid (tput_any s w3 (by omega) (HT.out.fp (HF1.out.trans HF3.out (by simp)) (by simp)))
    rw [← HRK.out] at HRC
    have hrs := recK_size l k
    have HBS := Lib.hid (blkL_succ l k)
    have HIS : Hid (idxB l (k + 1) = idxB l k ++ leB (recK l k).size 4) := rfl
    have his := idxB_size l k
    have hbl := blkL_len l k
    obtain ⟨rec, hrec⟩ : ∃ r, recK l k = r := ⟨_, rfl⟩
    rw [hrec] at HRC hrs HBS HIS
    obtain ⟨ix, hix⟩ : ∃ r, idxB l k = r := ⟨_, rfl⟩
    rw [hix] at HIS his
    rw [hix]
    clear hrec hix HRK
    go_wp2_with (fail)
    (with_reducible refine HRC.out.mono ?_)
    rintro e1 w4 ⟨rfl, hf4⟩
    have HB4 := Lib.hid (HB3.out.fp hf4 (by simp))
    have HF4 := Lib.hid (HF3.out.trans hf4 (by simp))
    clear hf4
    go_wp2_with (fail)
    (with_reducible refine (writeString_any liesSB (by decide) w1.heap.size w1.heap.size (blkL l k) rec w4 HB4.out (by omega)).mono ?_)
    rintro e1 w5 ⟨rfl, hb5, hf5⟩
    have HB5 := Lib.hid hb5
    have HF5 := Lib.hid (HF4.out.bfp hf5 (Nat.le_refl _))
    have u2 : IntKind.u64.wrap (rec.size : Int) = (rec.size : Int) := by rw [IntKind.wrap_u64]; omega
    have HL4 : Hid (∀ w, Calls Tryz.prog 88 #[.int .u64 rec.size, .int .i64 4] w fun e w' => e = .returned (.string (leB rec.size 4)) ∧ Fp [] w w') := fun w => tlittle_any w rec.size 4 (by omega) (by decide)
    have hls := leB_size rec.size 4
    obtain ⟨le, hle⟩ : ∃ r, leB rec.size 4 = r := ⟨_, rfl⟩
    rw [hle] at HL4 hls HIS
    have zl : ¬ ix.size + 4 > 9223372036854775807 := by omega
    clear hb5 hf5 hle
    go_wp2_with (fail)
    (with_reducible refine (HL4.out _).mono ?_)
    rintro e1 w6 ⟨rfl, hf6⟩
    have HB6 := Lib.hid (HB5.out.fp hf6 (by simp))
    have HF6 := Lib.hid (HF5.out.trans hf6 (by simp))
    clear hf6
    go_wp2_with (fail)
    go_roundg (gk - 1)
    case measure => omega
    case rel => exact ⟨k + 1, by omega, by rw [HIS.out], by simp, by rw [HBS.out]; exact HB6.out, HF6.out, HE1.out⟩
   ·have ze : ((e : Int) != 0) = true := by rw [bne_iff_ne]; omega
    have hb2 := HB.out
    rw [HMM.out] at hb2
    have he2 := HEB.out he
    rw [HMM.out] at he2
    rw [he2, if_pos he] at hb2
    have HBB := Lib.hid hb2
    clear hb2 he2
    go_wp2_with (fail)
    go_ret2
    exact ⟨by rw [HBB.out]; rfl, HF1.out.trans HF3.out (by simp)⟩
  ·obtain rfl : k = m := by omega
   have zk : ¬ (k : Int) < (k : Int) := by omega
   have hb2 := HB.out
   rw [HMM.out, HE.out, if_neg (by decide)] at hb2
   have HB2' := Lib.hid hb2
   have HRI := Lib.hid (rising_any wr (some ⟨b, o, none⟩) len cap l (HL.out.fp (HF1.out.trans HF.out (by simp))) (by omega))
   clear hb2
   go_wp2_with (fail)
   (with_reducible refine HRI.out.mono ?_)
   rintro e1 w3 ⟨rfl, hf3⟩
   have HB3 := Lib.hid (HBK.out.fp hf3 (by simp))
   have HF3 := Lib.hid (HF.out.trans hf3 (by simp))
   clear hf3
   by_cases hri : risC l = false
   ·have hb3 := HB2'.out
    rw [if_pos hri] at hb3
    have HBB := Lib.hid hb3
    rw [hri]
    clear hb3 hri
    go_wp2_with (fail)
    go_ret2
    exact ⟨by rw [HBB.out]; rfl, HF1.out.trans HF3.out (by simp)⟩
   ·have hri2 : risC l = true := by simpa using hri
    have hb3 := HB2'.out
    rw [if_neg hri] at hb3
    have HBB := Lib.hid hb3
    rw [hri2]
    clear hb3 hri hri2
    have HRW := Lib.hid (rows_any w3 (some ⟨b, o, none⟩) len cap l (HL.out.fp (HF1.out.trans HF3.out (by simp))) (by omega))
    go_wp2_with (fail)
    (with_reducible refine HRW.out.mono ?_)
    rintro e1 w4 ⟨v4, rfl, ho4, hf4⟩
    have HB4 := Lib.hid (HB3.out.fp hf4 (by simp))
    have HF4 := Lib.hid (HF3.out.trans hf4 (by simp))
    have hrl : (rowsP l).length ≤ 2000 := by have h1 := rowsUpTo_length l l.length; have h2 := HLN.out; unfold rowsP; omega
    have hbs := bloomP_size (rowsP l)
    have hbn : bloomN (rowsP l).length ≤ 3000 := by unfold bloomN; omega
    have HMK := Lib.hid (make_any w4 v4 w3.heap.size (rowsP l) ho4 hrl (by
     intro s hs
     obtain ⟨c, hc, rfl⟩ := rows_mem hs
     have := (may_sizes (errK_may (by rw [HMM.out]; exact HE.out) c hc)).1
     omega) (HT.out.fp (HF1.out.trans HF4.out (by simp)) (by simp)))
    clear hf4 ho4 hrl
    go_wp2_with (fail)
    (with_reducible refine HMK.out.mono ?_)
    rintro e1 w5 ⟨rfl, hf5⟩
    have HB5 := Lib.hid (HB4.out.fp hf5 (by simp))
    have HF5 := Lib.hid (HF4.out.trans hf5 (by simp))
    have HFI : Hid (fIndex l = recP (idxB l k)) := by unfold Hid fIndex; rw [HMM.out]
    have HFF : Hid (fFilter l = recP (bloomP (rowsP l))) := rfl
    have his := idxB_size l k
    have hrs1 := recP_size (idxB l k)
    have hrs2 := recP_size (bloomP (rowsP l))
    have HP1 := Lib.hid (fun w ht => tput_any (idxB l k) w (by omega) ht)
    have HP2 := Lib.hid (fun w ht => tput_any (bloomP (rowsP l)) w (by omega) ht)
    have hfi : (fIndex l).size ≤ 10000 := by rw [HFI.out]; omega
    have hff : (fFilter l).size ≤ 10000 := by rw [HFF.out]; omega
    have HFT : Hid (footOf l seq = ⟨(blkL l k).length, (fIndex l).size, (fFilter l).size, seq⟩) := by unfold Hid footOf; rw [HMM.out]
    have HFB : Hid (fileB l seq = bl (blkL l k) ++ fIndex l ++ fFilter l ++ recP (footOf l seq).text) := by unfold Hid fileB fBlocks; rw [HMM.out]
    rw [← HFI.out] at HP1
    rw [← HFF.out] at HP2
    obtain ⟨ix, hix⟩ : ∃ r, idxB l k = r := ⟨_, rfl⟩
    rw [hix] at HP1
    rw [hix]
    obtain ⟨fl, hfl⟩ : ∃ r, bloomP (rowsP l) = r := ⟨_, rfl⟩
    rw [hfl] at HP2
    rw [hfl]
    have hbl := blkL_len l k
    obtain ⟨x2, hx2⟩ : ∃ r, fIndex l = r := ⟨_, rfl⟩
    rw [hx2] at HP1 hfi HFT HFB
    obtain ⟨x3, hx3⟩ : ∃ r, fFilter l = r := ⟨_, rfl⟩
    rw [hx3] at HP2 hff HFT HFB
    rw [HFT.out] at HFB
    obtain ⟨bs, hbseq⟩ : ∃ r, blkL l k = r := ⟨_, rfl⟩
    rw [hbseq] at HB5 hbl HFB
    clear hf5 hix hfl hx2 hx3 hbseq hbs hbn his hrs1 hrs2 HFT HFI HFF
    go_wp2_with (fail)
    (with_reducible refine (HP1.out _ (HT.out.fp (HF1.out.trans HF5.out (by simp)) (by simp))).mono ?_)
    rintro e1 w6 ⟨rfl, hf6⟩
    have HB6 := Lib.hid (HB5.out.fp hf6 (by simp))
    have HF6 := Lib.hid (HF5.out.trans hf6 (by simp))
    clear hf6
    go_wp2_with (fail)
    (with_reducible refine (HP2.out _ (HT.out.fp (HF1.out.trans HF6.out (by simp)) (by simp))).mono ?_)
    rintro e1 w7 ⟨rfl, hf7⟩
    have HB7 := Lib.hid (HB6.out.fp hf7 (by simp))
    have HF7 := Lib.hid (HF6.out.trans hf7 (by simp))
    clear hf7
    go_wp2_with (fail)
    (with_reducible refine (Tryz.Builder_Len w1.heap.size w1.heap.size (Lib.byteCells bs) w7 (by have h := HB7.out; unfold BAt at h; exact h)).mono ?_)
    rintro e1 w8 ⟨rfl, rfl⟩
    rw [Lib.byteCells_length]
    obtain ⟨nb, hnb⟩ : ∃ n, bs.length = n := ⟨_, rfl⟩
    rw [hnb] at HFB ⊢
    have hnb2 : nb ≤ 160012000 := by omega
    go_wp2_with (fail)
    have hfb8 : (w8.alloc (.cells #[.int .i64 nb, .int .i64 x2.size, .int .i64 x3.size, .int .u64 seq] 84)).heap[w8.heap.size]? = some (.cells #[.int .i64 nb, .int .i64 x2.size, .int .i64 x3.size, .int .u64 seq] 84 (0, 0)) := heap_alloc_at rfl _
    have hfp8 := HF7.out.alloc' (.cells #[.int .i64 nb, .int .i64 x2.size, .int .i64 x3.size, .int .u64 seq] 84)
    have hb8 := HB7.out.fp (Fp.alloc w8 (.cells #[.int .i64 nb, .int .i64 x2.size, .int .i64 x3.size, .int .u64 seq] 84)) (by simp)
    obtain ⟨w9, hw9⟩ : ∃ w, w8.alloc (.cells #[.int .i64 nb, .int .i64 x2.size, .int .i64 x3.size, .int .u64 seq] 84) = w := ⟨_, rfl⟩
    rw [hw9] at hfb8 hfp8 hb8 ⊢
    have HBX := Lib.hid hfb8
    have HF9 := Lib.hid hfp8
    have HB9 := Lib.hid hb8
    have hfts : (Foot.text ⟨nb, x2.size, x3.size, seq⟩).size = 20 := by
     unfold Foot.text
     simp only [ByteArray.size_append, leB_size]
    have hrt := recP_size (Foot.text ⟨nb, x2.size, x3.size, seq⟩)
    have HTX := Lib.hid (fun w => foottext_any ⟨nb, x2.size, x3.size, seq⟩ w (by show nb ≤ _; omega) (by show x2.size ≤ _; omega) (by show x3.size ≤ _; omega) hq)
    have HPX := Lib.hid (fun w ht => tput_any (Foot.text ⟨nb, x2.size, x3.size, seq⟩) w (by omega) ht)
    simp only [footV] at HTX
    obtain ⟨tx, htx⟩ : ∃ t, Foot.text ⟨nb, x2.size, x3.size, seq⟩ = t := ⟨_, rfl⟩
    rw [htx] at HTX HPX hfts hrt HFB
    obtain ⟨x4, hx4⟩ : ∃ t, recP tx = t := ⟨_, rfl⟩
    rw [hx4] at HPX hrt HFB
    obtain ⟨x1, hx1⟩ : ∃ t, bl bs = t := ⟨_, rfl⟩
    have hx1s : x1.size = nb := by rw [← hx1, bl_size, hnb]
    have HX1 : Hid ((⟨bs.toArray⟩ : ByteArray) = x1) := hx1
    rw [hx1] at HFB
    have zl1 : ¬ x1.size + x2.size > 9223372036854775807 := by omega
    have zl2 : ¬ x1.size + x2.size + x3.size > 9223372036854775807 := by omega
    have zl3 : ¬ x1.size + x2.size + x3.size + x4.size > 9223372036854775807 := by omega
    clear hfb8 hfp8 hb8 hw9 htx hx4 hx1 hx1s hnb hbl
    refine wp_region_n (CJ w1 w8.heap.size ⟨nb, x2.size, x3.size, seq⟩ bs) (fun _ _ => True) (by kernel_rfl) (by kernel_rfl) ⟨HF9.out.drew', ((Fp.drew w9).block _ (heap_lt HBX.out) (by simp)).trans HBX.out, fun _ => HB9.out.fp (Fp.drew w9) (by simp)⟩ ?_
    apply nx_turn (eqV (.string x1)) rfl rfl rfl
    ·intro b a w hC hA K hK
     have h7 := hA.f 7
     simp only [Oper.wp, execOp]; go_simp
     (with_reducible refine (string_kept w1.heap.size w1.heap.size bs w (hC.bu hA.self)).mono ?_)
     rintro e w2 ⟨rfl, hbel, hk⟩
     rw [HX1.out]
     exact hK _ _ ⟨(CJs.fp hC).belowTrans hbel, hk _ _ _ (by decide) (CJs.box hC), fun h => by cases h⟩ trivial rfl
    iterate 10
     apply nx_plain (fun _ _ h => h) rfl rfl rfl
     ·intro b a w hC hA K hK
      have := hA.f 8
      have := hA.f 15
      have := hA.f 17
      try have := hA.e 0 81
      try have := hA.e 1 82
      try have := hA.e 2 83
      try have := hA.e 3 84
      try have := hA.e 5 86
      try have := hA.e 6 87
      try have := hA.e 4 85
      try have := hA.e 7 88
      try have := hA.e 8 89
      have q0 := cell_of_block (CJs.box hC) 0
      have q1 := cell_of_block (CJs.box hC) 1
      have q2 := cell_of_block (CJs.box hC) 2
      have q3 := cell_of_block (CJs.box hC) 3
      simp only [List.getElem?_toArray, List.getElem?_cons_succ, List.getElem?_cons_zero] at q0 q1 q2 q3
      simp only [Oper.wp, execOp]; go_simp
      first
      |exact hK _ hC trivial
      |first
        |((with_reducible refine (HTX.out _).mono ?_); rintro e w2 ⟨rfl, hf⟩; exact hK _ (CJs.on hC hf) trivial)
        |((with_reducible refine (HPX.out _ (HT.out.fp (HF1.out.trans hC.fp (by simp)) (by simp))).mono ?_); rintro e w2 ⟨rfl, hf⟩; exact hK _ (CJs.on hC hf) trivial)
    refine ⟨?_, ?_⟩
    ·refine stabN_val _ ?_
     iterate 9 refine stabN_val _ ?_
     refine ⟨fun _ _ _ _ h => h, ?_⟩
     exact trivial
    ·intro wz bb hC hbb
     simp only [List.reverse_cons, List.reverse_nil, List.nil_append, List.cons_append]
     refine all_some ?_
     intro v0 u0
     obtain rfl := u0
     iterate 10 (refine all_val ?_)
     refine all_nil ?_
     simp only [putAll, Act.put, List.setIfInBounds_toArray, List.set_cons_succ, List.set_cons_zero]
     have HFZ := Lib.hid (CJs.fp hC)
     clear hC hbb
     go_wp2_with (fail)
     go_ret2
     exact ⟨by rw [HBB.out, HFB.out]; rfl, HF1.out.trans HFZ.out (by simp)⟩
end
section
open Go.RowKit
def footP (t : ByteArray) : Foot := ⟨leN (t.extract 0 4) 4, leN (t.extract 4 8) 4, leN (t.extract 8 12) 4, leN (t.extract 12 20) 8⟩
def textsOf (s : ByteArray) (n : Nat) : List ByteArray := (textsP (s.extract 0 n)).map (·.2)
def cellsUp (ts : List ByteArray) (k : Nat) : List Cel := ((ts.take k).map fun t => (parseP t).getD []).flatten
def allUp (ts : List ByteArray) (k : Nat) : Bool := (ts.take k).all fun t => (parseP t).isSome
structure FileP where
 l : List Cel
 f : Foot
 fil : ByteArray
def openF (s : ByteArray) (f : Foot) : Option FileP :=
 if f.blocks + f.index + f.filter ≠ s.size - 26 then none
 else if allUp (textsOf s f.blocks) (textsOf s f.blocks).length = false then none
 else if buildT (cellsUp (textsOf s f.blocks) (textsOf s f.blocks).length) f.seq = (s, 0) then some ⟨cellsUp (textsOf s f.blocks) (textsOf s f.blocks).length, f, (getP (s.extract (f.blocks + f.index) s.size)).1⟩
 else none
def openC : Option FileP → Option FileP × Nat
 |none => (none, 50)
 |some F => (some F, 0)
def openP (s : ByteArray) : Option FileP × Nat :=
 if (getP (s.extract (s.size - 26) s.size)).2.2 ≠ 0 ∨ s.size < 26 then (none, 20)
 else if (getP (s.extract (s.size - 26) s.size)).1.size ≠ 20 then (none, 50)
 else openC (openF s (footP (getP (s.extract (s.size - 26) s.size)).1))
structure FileAt (w : World) (bt : Nat) (F : FileP) : Prop where
 ex : ∃ pv b o, w.heap[bt]? = some (.cells #[.int .i64 F.f.blocks, .int .i64 F.f.index, .int .i64 F.f.filter, .int .u64 F.f.seq, pv, .string F.fil] 93 (0, 0)) ∧
  CelsAt w (some ⟨b, o, none⟩) F.l.length F.l ∧ OwnP w 0 pv ((partsI F.l.length).map (partV b o))
theorem FileAt.fp {w w' : World} {bt : Nat} {F : FileP} (h : FileAt w bt F) (hf : Fp [] w w') : FileAt w' bt F := by
 obtain ⟨pv, b, o, h1, h2, h3⟩ := h.ex
 exact ⟨pv, b, o, (hf.block _ (heap_lt h1) (by simp)).trans h1, h2.fp hf, h3.fp hf (by simp)⟩
def OpenR (w : World) (v : Value) : Option FileP → Prop
 |none => v = .pointer none
 |some F => ∃ bt, v = .pointer (some ⟨bt, 0, none⟩) ∧ FileAt w bt F
def NuT (T : TypeId) (w w' : World) : Prop := ∀ (B : Nat) (cs : Array Value) (fz : Nat × Nat), w.heap.size ≤ B → w'.heap[B]? ≠ some (.cells cs T fz)
structure OneB (T : TypeId) (z fv : Array Value) (w0 : World) (made done : Bool) (w : World) : Prop where
 fp : Fp [] w0 w
 no : made = false → ∀ (B : Nat) (cs : Array Value) (fz : Nat × Nat), w0.heap.size ≤ B → w.heap[B]? ≠ some (.cells cs T fz)
 one : made = true → ∃ B, w0.heap.size ≤ B ∧ w.heap[B]? = some (.cells (if done = true then fv else z) T (0, 0)) ∧ ∀ (B' : Nat) (cs : Array Value) (fz : Nat × Nat), w0.heap.size ≤ B' → w.heap[B']? = some (.cells cs T fz) → B' = B
theorem OneB.start {T : TypeId} {z fv : Array Value} {w0 w : World} {done : Bool} (h : Fp [] w0 w) (hs : w.heap.size = w0.heap.size) : OneB T z fv w0 false done w :=
 ⟨h, fun _ B cs fz hB e => by have := heap_lt e; omega, fun e => by cases e⟩
theorem OneB.call {T : TypeId} {z fv : Array Value} {w0 w w' : World} {made done : Bool} (h : OneB T z fv w0 made done w) (hf : Fp [] w w') (hn : NuT T w w') : OneB T z fv w0 made done w' := by
 have back : ∀ (B : Nat) (cs : Array Value) (fz : Nat × Nat), w'.heap[B]? = some (.cells cs T fz) → w.heap[B]? = some (.cells cs T fz) := fun B cs fz e => by
  rcases Nat.lt_or_ge B w.heap.size with hlt | hge
  ·rw [← hf.block B hlt (by simp)]; exact e
  ·exact absurd e (hn B cs fz hge)
 refine ⟨h.fp.trans hf (by simp), fun e B cs fz hB e2 => h.no e B cs fz hB (back _ _ _ e2), fun e => ?_⟩
 obtain ⟨B, h1, h2, h3⟩ := h.one e
 exact ⟨B, h1, (hf.block B (heap_lt h2) (by simp)).trans h2, fun B' cs fz hB' e2 => h3 B' cs fz hB' (back _ _ _ e2)⟩
theorem OneB.make {T : TypeId} {z fv : Array Value} {w0 w : World} {done : Bool} (h : OneB T z fv w0 false done w) (hd : done = false) : OneB T z fv w0 true done (w.alloc (.cells z T)) := by
 refine ⟨h.fp.alloc' _, fun e => (by cases e), fun _ => ⟨w.heap.size, h.fp.size, by rw [hd]; exact heap_alloc_at rfl _, fun B' cs fz hB' e => ?_⟩⟩
 rcases Nat.lt_or_ge B' w.heap.size with hlt | hge
 ·exact absurd ((((Fp.alloc w (.cells z T)).block B' hlt (by simp)).symm).trans e) (h.no rfl B' cs fz hB')
 ·have := heap_lt e
  simp at this
  omega
theorem OneB.store {T : TypeId} {z fv : Array Value} {w0 w w' : World} {done : Bool} {B : Nat} (h : OneB T z fv w0 true done w) {cs : Array Value} (hB : w0.heap.size ≤ B) (hb : w.heap[B]? = some (.cells cs T (0, 0))) (hf : Fp [B] w w') (hs : w'.heap.size = w.heap.size) (hw : w'.heap[B]? = some (.cells fv T (0, 0))) : OneB T z fv w0 true true w' := by
 obtain ⟨B0, h1, h2, h3⟩ := h.one rfl
 have e0 := h3 B cs _ hB hb
 refine ⟨h.fp.trans hf (by intro i hi; right; simp at hi; omega), fun e => (by cases e), fun _ => ⟨B, hB, hw, fun B' cs' fz hB' e => ?_⟩⟩
 by_cases hbb : B' = B
 ·exact hbb
 ·have hlt := heap_lt e
  rw [hs] at hlt
  rw [hf.block B' hlt (by simpa using hbb)] at e
  rw [e0]
  exact h3 B' cs' fz hB' e
theorem bytes_in_new (w : World) (s : ByteArray) (T : TypeId) (hT : T ≠ 5) : ∃ cap W, (convert 9 67 (.string s)).run Tryz.prog w = .ok (.slice (some ⟨w.heap.size, 0, none⟩) s.size cap) W ∧
  (∀ j (h : j < s.size), W.cell? ⟨w.heap.size, j, none⟩ = some (.int .u8 s[j].toNat)) ∧ Fp [] w W ∧ NuT T w W := by
 have h := run_bytes_of_string (P := Tryz.prog) w 9 67 5 s Tryz.underlying9 Tryz.underlying67 Tryz.underlying5
 have hb := heap_alloc_at (w := w.drew) (n := w.heap.size) rfl (.cells (bytesRow s (grownCap w s.size 0 5)) 5 ((bytesRow s (grownCap w s.size 0 5)).size, (bytesRow s (grownCap w s.size 0 5)).size + 1))
 refine ⟨_, _, h, ?_, (Fp.drew w).alloc' _, fun B cs fz hB e => ?_⟩
 ·intro j hj
  rw [cell_of_block hb, bytesRow_at s _ j hj]
  rfl
 ·have hlt := heap_lt e
  simp at hlt
  obtain rfl : B = w.heap.size := by omega
  rw [hb] at e
  cases e
  exact hT rfl
theorem tnumber_new (w : World) (s : ByteArray) (T : TypeId) (hT : T ≠ 5) (hs : s.size ≤ 8) :
  Calls Tryz.prog 36 #[.string s] w fun e w' => e = .returned (.int .u64 (leN s s.size)) ∧ Fp [] w w' ∧ NuT T w w' := by
 obtain ⟨cap, W, hconv, hrow, hf, hnu⟩ := bytes_in_new w s T hT
 have HROW := Lib.hid hrow
 have HF0 := Lib.hid hf
 have HNU := Lib.hid hnu
 clear hrow hf hnu
 go_enter Tryz.func36, Tryz.ntmps36
 go_wp2_with (fail)
 go_loopg [2, 8] s.size (fun g vn i wr => ∃ k : Nat, g + k = s.size ∧ vn = .int .u64 (leN s k) ∧ i = .int .i64 k ∧ wr = W)
 case atStart => exact ⟨0, by omega, rfl, rfl, rfl⟩
 case round =>
  obtain ⟨k, hg, rfl, rfl, rfl⟩ := hrel
  by_cases hk : k < s.size
  ·have hk8 : k < 8 := by omega
   have zk : (k : Int) < (s.size : Int) := by omega
   have q0 : wr.cell? ⟨w.heap.size, k, none⟩ = some (.int .u8 s[k].toNat) := HROW.out k hk
   have HS := Lib.hid (or_step hk hk8)
   go_wp2_with (fail)
   go_roundg (gk - 1)
   case measure => omega
   case rel => exact ⟨k + 1, by omega, by rw [HS.out], by go_num, rfl⟩
  ·obtain rfl : k = s.size := by omega
   have zk : ¬ (s.size : Int) < (s.size : Int) := by omega
   go_wp2_with (fail)
   go_ret
   exact ⟨rfl, HF0.out, HNU.out⟩
end
section
open Go.RowKit
theorem body_ge : ∀ (l : List Cel) (i : Nat) (last : List UInt8), l.length ≤ (bodyL i last l).length
 |[], _, _ => Nat.zero_le _
 |c :: l, i, last => by
  have ih := body_ge l (i + 1) (keyL c)
  show l.length + 1 ≤ (entL (lastAt i last) c ++ bodyL (i + 1) (keyL c) l).length
  rw [List.length_append]
  have : 1 ≤ (entL (lastAt i last) c).length := by
   unfold entL two
   simp only [List.length_append, List.length_cons, List.length_nil]
   omega
  omega
theorem parse_len {t : ByteArray} {l : List Cel} (h : parseP t = some l) : l.length ≤ t.size := by
 have h1 := parse_is h
 obtain ⟨_, h2, h3⟩ := h1
 have h4 := (build_ok h2).2.2.2
 rw [h3] at h4
 rw [h4, bl_size, List.length_cons]
 have := body_ge l 0 []
 omega
theorem textsF_sum : ∀ (n at_ : Nat) (s : ByteArray), at_ ≤ s.size → ((textsF n at_ s).map fun x => x.2.size + 6).sum + at_ ≤ s.size
 |0, at_, s, h => by show 0 + at_ ≤ _; omega
 |n + 1, at_, s, h => by
  obtain ⟨⟨t, k, e⟩, ht⟩ : ∃ x, getP (s.extract at_ s.size) = x := ⟨_, rfl⟩
  by_cases he : e = 0
  ·subst he
   obtain ⟨h1, h2, h3, h4⟩ := get_bound ht
   have hts : t.size = k - 6 := by
    rw [h3, ByteArray.size_extract, ByteArray.size_extract]
    omega
   rw [textsF_yes ht, List.map_cons, List.sum_cons]
   have ih := textsF_sum n (at_ + k) s h2
   show t.size + 6 + _ + _ ≤ _
   omega
  ·rw [textsF_no ht he]
   show 0 + at_ ≤ _
   omega
theorem texts_small : ∀ (n at_ : Nat) (s : ByteArray), ∀ x ∈ textsF n at_ s, x.2.size ≤ 65541
 |0, _, _, x, h => by cases h
 |n + 1, at_, s, x, h => by
  obtain ⟨⟨t, k, e⟩, ht⟩ : ∃ x, getP (s.extract at_ s.size) = x := ⟨_, rfl⟩
  by_cases he : e = 0
  ·subst he
   obtain ⟨h1, h2, h3, h4⟩ := get_bound ht
   rw [textsF_yes ht] at h
   rcases List.mem_cons.1 h with rfl | h
   ·show t.size ≤ _
    rw [h3, ByteArray.size_extract]
    omega
   ·exact texts_small n _ s x h
  ·rw [textsF_no ht he] at h
   cases h
theorem textsOf_small (s : ByteArray) (n : Nat) : ∀ t ∈ textsOf s n, t.size ≤ 65541 := by
 intro t ht
 unfold textsOf textsP at ht
 obtain ⟨x, hx, rfl⟩ := List.mem_map.1 ht
 exact texts_small _ _ _ x hx
theorem textsOf_sum (s : ByteArray) (n : Nat) : ((textsOf s n).map fun t => t.size + 6).sum ≤ s.size := by
 unfold textsOf textsP
 have h := textsF_sum ((s.extract 0 n).size + 1) 0 (s.extract 0 n) (Nat.zero_le _)
 rw [List.map_map]
 have h2 : (s.extract 0 n).size ≤ s.size := by rw [ByteArray.size_extract]; omega
 exact Nat.le_trans (by simpa [Function.comp_def] using h) h2
theorem cellsUp_succ {ts : List ByteArray} {k : Nat} (h : k < ts.length) : cellsUp ts (k + 1) = cellsUp ts k ++ (parseP ts[k]).getD [] := by
 unfold cellsUp
 rw [List.take_succ_eq_append_getElem h, List.map_append, List.flatten_append]
 simp
theorem allUp_succ {ts : List ByteArray} {k : Nat} (h : k < ts.length) : allUp ts (k + 1) = (allUp ts k && (parseP ts[k]).isSome) := by
 unfold allUp
 rw [List.take_succ_eq_append_getElem h, List.all_append]
 simp
theorem allUp_no {ts : List ByteArray} {k : Nat} (h : k < ts.length) (hp : parseP ts[k] = none) : allUp ts ts.length = false := by
 unfold allUp
 rw [List.take_length, List.all_eq_false]
 exact ⟨ts[k], List.getElem_mem h, by rw [hp]; decide⟩
theorem getD_len (t : ByteArray) : ((parseP t).getD []).length ≤ t.size := by
 cases h : parseP t with
 |none => exact Nat.zero_le _
 |some l => exact parse_len h
theorem cellsUp_le (ts : List ByteArray) : ∀ k, (cellsUp ts k).length ≤ ((ts.take k).map fun t => t.size + 6).sum := by
 intro k
 unfold cellsUp
 generalize ts.take k = l
 induction l with
 |nil => exact Nat.le_refl _
 |cons t l ih =>
  rw [List.map_cons, List.flatten_cons, List.length_append, List.map_cons, List.sum_cons]
  have := getD_len t
  omega
theorem sum_take (f : ByteArray → Nat) (ts : List ByteArray) (k : Nat) : ((ts.take k).map f).sum ≤ (ts.map f).sum := by
 conv => rhs; rw [← List.take_append_drop k ts, List.map_append, List.sum_append]
 omega
theorem len_sum (ts : List ByteArray) : ts.length ≤ (ts.map fun t => t.size + 6).sum := by
 induction ts with
 |nil => exact Nat.le_refl _
 |cons t l ih => rw [List.length_cons, List.map_cons, List.sum_cons]; omega
theorem cellsUp_ok {ts : List ByteArray} (hs : ∀ t ∈ ts, t.size ≤ 65541) (k : Nat) : ∀ c ∈ cellsUp ts k, CelOK c := by
 intro c hc
 unfold cellsUp at hc
 obtain ⟨l, hl, hcl⟩ := List.mem_flatten.1 hc
 obtain ⟨t, ht, rfl⟩ := List.mem_map.1 hl
 have hts := hs t (List.mem_of_mem_take ht)
 cases hp : parseP t with
 |none => rw [hp] at hcl; cases hcl
 |some l => rw [hp] at hcl; exact parse_ok (by omega) hp c hcl
def CK (fv : Array Value) (w0 : World) (b : Nat → Bool) (w : World) : Prop := OneB 84 #[.int .i64 0, .int .i64 0, .int .i64 0, .int .u64 0] fv w0 (b 16) (b 17) w
def RT (T : TypeId) (w w' : World) : Prop := ∀ (B : Nat) (cs : Array Value), w.heap[B]? = some (.cells cs T (0, 0)) → ∃ cs', w'.heap[B]? = some (.cells cs' T (0, 0))
def SB (T : TypeId) (base : Nat) (w : World) (v : Value) : Prop := ∃ B, v = .pointer (some ⟨B, 0, none⟩) ∧ base ≤ B ∧ ∃ cs, w.heap[B]? = some (.cells cs T (0, 0))
theorem SB.stab {T : TypeId} {base : Nat} {w w' : World} {v : Value} (hr : RT T w w') (h : SB T base w v) : SB T base w' v := by
 obtain ⟨B, e, hB, cs, hc⟩ := h
 exact ⟨B, e, hB, hr B cs hc⟩
theorem RT.refl (T : TypeId) (w : World) : RT T w w := fun _ cs h => ⟨cs, h⟩
theorem RT.fp {T : TypeId} {w w' : World} (h : Fp [] w w') : RT T w w' := fun B cs e => ⟨cs, (h.block B (heap_lt e) (by simp)).trans e⟩
theorem CK.make {fv : Array Value} {w0 w : World} {b : Nat → Bool} (h : CK fv w0 b w) (h1 : b 16 = false) (h2 : b 17 = false) : CK fv w0 (upd b 16) (w.alloc (.cells #[.int .i64 0, .int .i64 0, .int .i64 0, .int .u64 0] 84)) := by
 have h3 : OneB 84 #[.int .i64 0, .int .i64 0, .int .i64 0, .int .u64 0] fv w0 (b 16) (b 17) w := h
 rw [h1, h2] at h3
 show OneB _ _ _ _ (upd b 16 16) (upd b 16 17) _
 rw [show upd b 16 16 = true from rfl, show upd b 16 17 = b 17 from rfl, h2]
 exact h3.make rfl
theorem CK.cells {fv : Array Value} {w0 w : World} {b : Nat → Bool} (h : CK fv w0 b w) (h1 : b 16 = true) {B : Nat} {cs : Array Value} (hB : w0.heap.size ≤ B) (hc : w.heap[B]? = some (.cells cs 84 (0, 0))) : cs = if b 17 = true then fv else #[.int .i64 0, .int .i64 0, .int .i64 0, .int .u64 0] := by
 obtain ⟨B0, g1, g2, g3⟩ := OneB.one h h1
 obtain rfl := g3 B cs _ hB hc
 rw [g2] at hc
 cases hc
 rfl
theorem CK.stored {fv : Array Value} {w0 w w' : World} {b : Nat → Bool} (h : CK fv w0 b w) (h1 : b 16 = true) {B : Nat} {cs : Array Value} (hB : w0.heap.size ≤ B) (hc : w.heap[B]? = some (.cells cs 84 (0, 0))) (hf : Fp [B] w w') (hs : w'.heap.size = w.heap.size) (hw : w'.heap[B]? = some (.cells fv 84 (0, 0))) :
  CK fv w0 (upd b 17) w' ∧ RT 84 w w' := by
 have h3 : OneB 84 #[.int .i64 0, .int .i64 0, .int .i64 0, .int .u64 0] fv w0 (b 16) (b 17) w := h
 rw [h1] at h3
 refine ⟨?_, fun B' cs' e => ?_⟩
 ·show OneB _ _ _ _ (upd b 17 16) (upd b 17 17) _
  rw [show upd b 17 17 = true from rfl, show upd b 17 16 = b 16 from rfl, h1]
  exact h3.store hB hc hf hs hw
 ·by_cases hbb : B' = B
  ·subst hbb; exact ⟨_, hw⟩
  ·exact ⟨cs', (hf.block B' (heap_lt e) (by simpa using hbb)).trans e⟩
def PV2 (base n g : Nat) (w : World) (v : Value) : Prop := ∃ pa pn pc, v = .slice pa pn pc ∧ OwnP w base v ((partsI n).map (partV g 0))
def PV4 (base n g b1 b2 b3 sq : Nat) (fil : ByteArray) (w : World) (v : Value) : Prop := ∃ pa pn pc, v = .agg #[.int .i64 b1, .int .i64 b2, .int .i64 b3, .int .u64 sq, .slice pa pn pc, .string fil] ∧ OwnP w base (.slice pa pn pc) ((partsI n).map (partV g 0))
def PV5 (base n g b1 b2 b3 sq : Nat) (fil : ByteArray) (w : World) (v : Value) : Prop := ∃ pa pn pc bt, v = .pointer (some ⟨bt, 0, none⟩) ∧ w.heap[bt]? = some (.cells #[.int .i64 b1, .int .i64 b2, .int .i64 b3, .int .u64 sq, .slice pa pn pc, .string fil] 93 (0, 0)) ∧ OwnP w base (.slice pa pn pc) ((partsI n).map (partV g 0))
theorem PV2.fp {base n g : Nat} {w w' : World} {v : Value} (h : PV2 base n g w v) (hf : Fp [] w w') : PV2 base n g w' v := by
 obtain ⟨pa, pn, pc, e, h1⟩ := h
 exact ⟨pa, pn, pc, e, h1.fp hf (by simp)⟩
theorem PV4.fp {base n g b1 b2 b3 sq : Nat} {fil : ByteArray} {w w' : World} {v : Value} (h : PV4 base n g b1 b2 b3 sq fil w v) (hf : Fp [] w w') : PV4 base n g b1 b2 b3 sq fil w' v := by
 obtain ⟨pa, pn, pc, e, h1⟩ := h
 exact ⟨pa, pn, pc, e, h1.fp hf (by simp)⟩
theorem PV5.fp {base n g b1 b2 b3 sq : Nat} {fil : ByteArray} {w w' : World} {v : Value} (h : PV5 base n g b1 b2 b3 sq fil w v) (hf : Fp [] w w') : PV5 base n g b1 b2 b3 sq fil w' v := by
 obtain ⟨pa, pn, pc, bt, e, h0, h1⟩ := h
 exact ⟨pa, pn, pc, bt, e, (hf.block _ (heap_lt h0) (by simp)).trans h0, h1.fp hf (by simp)⟩
theorem topen_any (w : World) (s : ByteArray) (hs : s.size ≤ 100000000) (hm : MaxAt w) (ht : TabAt w) :
  Calls Tryz.prog 9 #[.string s] w fun e w' => ∃ v, e = .returned (.tuple #[v, .int .i64 ((openP s).2 : Nat)]) ∧ OpenR w' v (openP s).1 ∧ Fp [] w w' := by
 have HM := Lib.hid hm
 have HT := Lib.hid ht
 obtain ⟨at_, hat⟩ : ∃ a, s.size - 26 = a := ⟨_, rfl⟩
 have e1 : max (0 : Int) ((s.size : Int) - 26) = (at_ : Int) := by omega
 have z1 : (at_ : Int) ≤ (s.size : Int) := by omega
 have HG := Lib.hid (get_any (s.extract at_ s.size) w (by rw [ByteArray.size_extract]; omega) ht)
 have hop : openP s = if (getP (s.extract at_ s.size)).2.2 ≠ 0 ∨ s.size < 26 then (none, 20)
   else if (getP (s.extract at_ s.size)).1.size ≠ 20 then (none, 50)
   else openC (openF s (footP (getP (s.extract at_ s.size)).1)) := by unfold openP; rw [hat]
 have htold := getP_told (s.extract at_ s.size)
 obtain ⟨⟨t, n, e⟩, hg⟩ : ∃ x, getP (s.extract at_ s.size) = x := ⟨_, rfl⟩
 rw [hg] at HG hop htold
 simp only at hop htold
 have hAT := Lib.hid hat
 clear hg hm ht
 by_cases he : e = 0
 case neg =>
  rw [if_pos (Or.inl he)] at hop
  rw [hop]
  have ze : ((e : Int) != 0) = true := by rw [bne_iff_ne]; omega
  clear hop hat htold
  go_enter Tryz.func9, Tryz.ntmps9
  go_wp2_with (fail)
  (with_reducible refine HG.out.mono ?_)
  rintro e2 w1 ⟨rfl, hf1⟩
  have HF1 := Lib.hid hf1
  clear hf1
  go_wp2_with (fail)
  go_ret2
  exact ⟨_, rfl, rfl, HF1.out⟩
 subst he
 by_cases h26 : s.size < 26
 ·rw [if_pos (Or.inr h26)] at hop
  rw [hop]
  have z2 : (s.size : Int) < 26 := by omega
  clear hop hat htold
  go_enter Tryz.func9, Tryz.ntmps9
  go_wp2_with (fail)
  (with_reducible refine HG.out.mono ?_)
  rintro e2 w1 ⟨rfl, hf1⟩
  have HF1 := Lib.hid hf1
  clear hf1
  go_wp2_with (fail)
  go_ret2
  exact ⟨_, rfl, rfl, HF1.out⟩
 have z2 : ¬ (s.size : Int) < 26 := by omega
 rw [if_neg (by simp; omega)] at hop
 by_cases h20 : t.size = 20
 case neg =>
  rw [if_pos h20] at hop
  rw [hop]
  have z3 : ((t.size : Int) != 20) = true := by rw [bne_iff_ne]; omega
  clear hop hat htold
  go_enter Tryz.func9, Tryz.ntmps9
  go_wp2_with (fail)
  (with_reducible refine HG.out.mono ?_)
  rintro e2 w1 ⟨rfl, hf1⟩
  have HF1 := Lib.hid hf1
  clear hf1
  go_wp2_with (fail)
  go_ret2
  exact ⟨_, rfl, rfl, HF1.out⟩
 rw [if_neg (by simpa using h20)] at hop
 have hsz : ∀ a b, b ≤ 20 → (t.extract a b).size = b - a := fun a b h => by rw [ByteArray.size_extract]; omega
 obtain ⟨b1, hb1⟩ : ∃ x, leN (t.extract 0 4) 4 = x := ⟨_, rfl⟩
 obtain ⟨b2, hb2⟩ : ∃ x, leN (t.extract 4 8) 4 = x := ⟨_, rfl⟩
 obtain ⟨b3, hb3⟩ : ∃ x, leN (t.extract 8 12) 4 = x := ⟨_, rfl⟩
 obtain ⟨sq, hsq⟩ : ∃ x, leN (t.extract 12 20) 8 = x := ⟨_, rfl⟩
 have l1 : b1 < 4294967296 := by rw [← hb1]; exact leN_lt _ 4
 have l2 : b2 < 4294967296 := by rw [← hb2]; exact leN_lt _ 4
 have l3 : b3 < 4294967296 := by rw [← hb3]; exact leN_lt _ 4
 have l4 : sq < 18446744073709551616 := by rw [← hsq]; exact leN_lt _ 8
 have M1 : Hid (∀ w, Calls Tryz.prog 36 #[.string (t.extract 0 4)] w fun e w' => e = .returned (.int .u64 b1) ∧ Fp [] w w' ∧ NuT 84 w w') := fun w => by
  have h := tnumber_new w (t.extract 0 4) 84 (by decide) (by rw [hsz _ _ (by decide)]; decide)
  rw [hsz 0 4 (by decide)] at h
  rw [← hb1]; exact h
 have M2 : Hid (∀ w, Calls Tryz.prog 36 #[.string (t.extract 4 8)] w fun e w' => e = .returned (.int .u64 b2) ∧ Fp [] w w' ∧ NuT 84 w w') := fun w => by
  have h := tnumber_new w (t.extract 4 8) 84 (by decide) (by rw [hsz _ _ (by decide)]; decide)
  rw [hsz 4 8 (by decide)] at h
  rw [← hb2]; exact h
 have M3 : Hid (∀ w, Calls Tryz.prog 36 #[.string (t.extract 8 12)] w fun e w' => e = .returned (.int .u64 b3) ∧ Fp [] w w' ∧ NuT 84 w w') := fun w => by
  have h := tnumber_new w (t.extract 8 12) 84 (by decide) (by rw [hsz _ _ (by decide)]; decide)
  rw [hsz 8 12 (by decide)] at h
  rw [← hb3]; exact h
 have M4 : Hid (∀ w, Calls Tryz.prog 36 #[.string (t.extract 12 20)] w fun e w' => e = .returned (.int .u64 sq) ∧ Fp [] w w' ∧ NuT 84 w w') := fun w => by
  have h := tnumber_new w (t.extract 12 20) 84 (by decide) (by rw [hsz _ _ (by decide)]; decide)
  rw [hsz 12 20 (by decide)] at h
  rw [← hsq]; exact h
 have hfp : footP t = ⟨b1, b2, b3, sq⟩ := by unfold footP; rw [hb1, hb2, hb3, hsq]
 rw [hfp] at hop
 have HOP := Lib.hid hop
 have u1 : IntKind.i64.wrap (b1 : Int) = b1 := by rw [IntKind.wrap_i64]; omega
 have u2 : IntKind.i64.wrap (b2 : Int) = b2 := by rw [IntKind.wrap_i64]; omega
 have u3 : IntKind.i64.wrap (b3 : Int) = b3 := by rw [IntKind.wrap_i64]; omega
 have z3 : ((t.size : Int) != 20) = false := by rw [h20]; rfl
 clear hop hat htold hsz hb1 hb2 hb3 hsq hfp
 go_enter Tryz.func9, Tryz.ntmps9
 go_wp2_with (fail)
 (with_reducible refine HG.out.mono ?_)
 rintro e2 w1 ⟨rfl, hf1⟩
 have HF1 := Lib.hid hf1
 clear hf1
 go_wp2_with (fail)
 refine wp_region_n (CK #[.int .i64 b1, .int .i64 b2, .int .i64 b3, .int .u64 sq] w1) (RT 84) (by kernel_rfl) (by kernel_rfl) (OneB.start (Fp.drew w1) rfl) ?_
 iterate 16
  apply nx_plain (fun _ _ h => h) rfl rfl rfl
  ·intro b a w hC hA K hK
   have := hA.f 5
   try have := hA.e 0 45
   try have := hA.e 1 46
   try have := hA.e 2 47
   try have := hA.e 4 49
   try have := hA.e 5 50
   try have := hA.e 6 51
   try have := hA.e 8 53
   try have := hA.e 9 54
   try have := hA.e 10 55
   try have := hA.e 12 57
   try have := hA.e 13 58
   try have := hA.e 3 48
   try have := hA.e 7 52
   try have := hA.e 11 56
   try have := hA.e 14 59
   simp only [Oper.wp, execOp]; go_simp
   first
   |exact hK _ hC (RT.refl _ _)
   |first
     |((with_reducible refine (M1.out _).mono ?_); rintro e w2 ⟨rfl, hf, hn⟩; exact hK _ (OneB.call hC hf hn) (RT.fp hf))
     |((with_reducible refine (M2.out _).mono ?_); rintro e w2 ⟨rfl, hf, hn⟩; exact hK _ (OneB.call hC hf hn) (RT.fp hf))
     |((with_reducible refine (M3.out _).mono ?_); rintro e w2 ⟨rfl, hf, hn⟩; exact hK _ (OneB.call hC hf hn) (RT.fp hf))
     |((with_reducible refine (M4.out _).mono ?_); rintro e w2 ⟨rfl, hf, hn⟩; exact hK _ (OneB.call hC hf hn) (RT.fp hf))
 apply nx_turn (SB 84 w1.heap.size) rfl rfl rfl
 ·intro b a w hC hA K hK
  have hm16 := CK.make hC hA.self (hA.post 17 (by kernel_rfl))
  have hsz := (OneB.fp hC).size
  simp only [Oper.wp, execOp]; go_simp
  exact hK _ _ hm16 (RT.fp (Fp.alloc _ _)) ⟨_, rfl, hsz, _, heap_alloc_at rfl _⟩
 apply nx_effect (fun _ => True) rfl rfl
 ·intro b a w hC hA K hK
  have h8 := hA.dep 16 8 _ (by kernel_rfl) rfl
  have h60 := hA.e 15 60
  obtain ⟨B, h8, hB, cs, hcs⟩ := h8
  have h16 := hA.pre 16 (by kernel_rfl)
  have hz := CK.cells hC h16 hB hcs
  rw [hA.self] at hz
  rw [hz] at hcs
  have e0 : w.cell? ⟨B, 0, none⟩ = some (.int .i64 0) := cell_of_block hcs 0
  have e1 : w.cell? ⟨B, 1, none⟩ = some (.int .i64 0) := cell_of_block hcs 1
  have e2 : w.cell? ⟨B, 2, none⟩ = some (.int .i64 0) := cell_of_block hcs 2
  have e3 : w.cell? ⟨B, 3, none⟩ = some (.int .u64 0) := cell_of_block hcs 3
  have g0 := frozen_of_block hcs 0
  have g1 := frozen_of_block hcs 1
  have g2 := frozen_of_block hcs 2
  have g3 := frozen_of_block hcs 3
  have hst := CK.stored hC h16 hB hcs (w' := (((w.setCell ⟨B, 0, none⟩ (.int .i64 b1)).setCell ⟨B, 1, none⟩ (.int .i64 b2)).setCell ⟨B, 2, none⟩ (.int .i64 b3)).setCell ⟨B, 3, none⟩ (.int .u64 sq)) ((((Fp.setCell w ⟨B, 0, none⟩ _).setCell' (Or.inl (by simp)) _).setCell' (Or.inl (by simp)) _).setCell' (Or.inl (by simp)) _) (by simp [World.setCell]) (by rw [heap_setCell_same (heap_setCell_same (heap_setCell_same (heap_setCell_same hcs _) _) _) _]; rfl)
  simp only [Oper.wp, execOp]; go_simp
  exact hK undef _ hst.1 hst.2 trivial
 refine ⟨?_, ?_⟩
 ·refine ⟨fun _ _ _ _ _ => trivial, ?_⟩
  refine ⟨fun _ _ _ hr h => SB.stab hr h, ?_⟩
  iterate 16 refine stabN_val _ ?_
  exact trivial
 ·intro wf bb hC hbb
  simp only [List.reverse_cons, List.reverse_nil, List.nil_append, List.cons_append]
  iterate 16 (refine all_val ?_)
  refine all_some ?_
  intro v16 u16
  refine all_some ?_
  intro v17 u17
  refine all_nil ?_
  simp only [putAll, Act.put, List.setIfInBounds_toArray, List.set_cons_succ, List.set_cons_zero]
  obtain ⟨B, hBg, hBc, huq⟩ := OneB.one hC (hbb 16 (by decide))
  rw [hbb 17 (by decide), if_pos rfl] at hBc
  obtain ⟨B', rfl, hB', cs, hcs⟩ := u16
  obtain rfl := huq B' cs _ hB' hcs
  have HBX := Lib.hid hBc
  have HF2 := Lib.hid (HF1.out.trans (OneB.fp hC) (by simp))
  have hwB : w.heap.size ≤ B' := Nat.le_trans HF1.out.size hBg
  have q0 : wf.cell? ⟨B', 0, none⟩ = some (.int .i64 b1) := cell_of_block hBc 0
  have q1 : wf.cell? ⟨B', 1, none⟩ = some (.int .i64 b2) := cell_of_block hBc 1
  have q2 : wf.cell? ⟨B', 2, none⟩ = some (.int .i64 b3) := cell_of_block hBc 2
  have n1 : IntKind.i64.wrap ((b1 : Int) + (b2 : Int)) = ((b1 + b2 : Nat) : Int) := by rw [IntKind.wrap_i64]; omega
  obtain ⟨b12, hb12⟩ : ∃ x, b1 + b2 = x := ⟨_, rfl⟩
  rw [hb12] at n1
  have n2 : IntKind.i64.wrap ((b12 : Int) + (b3 : Int)) = ((b12 + b3 : Nat) : Int) := by rw [IntKind.wrap_i64]; omega
  obtain ⟨b123, hb123⟩ : ∃ x, b12 + b3 = x := ⟨_, rfl⟩
  rw [hb123] at n2
  clear hC hbb u17 huq hcs hBc
  by_cases hsum : b123 = at_
  case neg =>
   have hof : openF s ⟨b1, b2, b3, sq⟩ = none := if_pos (by show b1 + b2 + b3 ≠ s.size - 26; rw [hAT.out]; omega)
   have zs : ((b123 : Int) != (at_ : Int)) = true := by rw [bne_iff_ne]; omega
   have hop := HOP.out
   rw [hof] at hop
   have HOP2 : Hid (openP s = (none, 50)) := hop
   clear hof hop
   go_wp2_with (fail)
   go_ret2
   exact ⟨_, by rw [HOP2.out]; rfl, by rw [HOP2.out]; rfl, HF2.out⟩
  have zs : ((b123 : Int) != (at_ : Int)) = false := by subst hsum; simp
  have zb1 : (b1 : Int) ≤ (s.size : Int) := by omega
  have hb1s : b1 ≤ s.size := by omega
  have HOF : Hid (openF s ⟨b1, b2, b3, sq⟩ = if allUp (textsOf s b1) (textsOf s b1).length = false then none
   else if buildT (cellsUp (textsOf s b1) (textsOf s b1).length) sq = (s, 0) then some ⟨cellsUp (textsOf s b1) (textsOf s b1).length, ⟨b1, b2, b3, sq⟩, (getP (s.extract (b1 + b2) s.size)).1⟩ else none) :=
    if_neg (by show ¬ (b1 + b2 + b3 ≠ s.size - 26); rw [hAT.out]; omega)
  have HAL := Lib.hid (all_any wf (s.extract 0 b1) (by rw [ByteArray.size_extract]; omega) (HT.out.fp HF2.out (by simp)))
  rw [show (textsP (s.extract 0 b1)).map (·.2) = textsOf s b1 from rfl] at HAL
  have hsm := textsOf_small s b1
  have hsum2 := textsOf_sum s b1
  obtain ⟨en, hen⟩ : ∃ en, endOf (textsP (s.extract 0 b1)) = en := ⟨_, rfl⟩
  obtain ⟨ts, hts⟩ : ∃ ts, textsOf s b1 = ts := ⟨_, rfl⟩
  rw [hts] at HAL HOF hsm hsum2
  rw [hen] at HAL
  have HSM := Lib.hid hsm
  have HSUM := Lib.hid hsum2
  clear hts hen hsm hsum2 M1 M2 M3 M4 HG
  go_wp2_with (fail)
  (with_reducible refine HAL.out.mono ?_)
  rintro e2 w3 ⟨v3, rfl, ho3, hf3⟩
  have HF3 := Lib.hid (HF2.out.trans hf3 (by simp))
  have HBX3 := Lib.hid ((hf3.block _ (heap_lt HBX.out) (by simp)).trans HBX.out)
  obtain ⟨⟨a3, c3, rfl⟩, hat3⟩ := ho3.at
  have HAT3 := Lib.hid hat3
  clear hf3 ho3 hat3 q0 q1 q2
  obtain ⟨nt, hnt⟩ : ∃ n, ts.length = n := ⟨_, rfl⟩
  rw [hnt]
  have HNT := Lib.hid hnt
  have hntb : nt ≤ 100000000 := by have h1 := len_sum ts; have h2 := HSUM.out; omega
  go_wp2_with (fail)
  go_loopg [9, 81] nt (fun g vl vk wr => ∃ (k : Nat) (v : Value), g + k = nt ∧ v = vl ∧ vk = .int .i64 k ∧ OwnC wr w3.heap.size v (cellsUp ts k) ∧ allUp ts k = true ∧ Fp [] w3 wr)
  case atStart => exact ⟨0, _, by omega, rfl, rfl, OwnC.nil _ _, rfl, Fp.refl _ _⟩
  case round =>
   obtain ⟨k, v, hg, rfl, rfl, ho, ha, hf⟩ := hrel
   have HO := Lib.hid ho
   have HA := Lib.hid ha
   have HF := Lib.hid hf
   clear ho ha hf
   by_cases hk : k < nt
   ·have zk : (k : Int) < (nt : Int) := by omega
    have hkt : k < ts.length := by rw [HNT.out]; exact hk
    have hcell : ∃ g3 c4, a3 = some ⟨g3, 0, none⟩ ∧ c3 = c4 ∧ wr.cell? ⟨g3, k, none⟩ = some (.string ts[k]) := by
     rcases HAT3.out with h | ⟨g3, c4, e0, _, hlt, hc⟩
     ·rw [h] at hkt; exact absurd hkt (Nat.not_lt_zero _)
     ·injection e0 with e1 _ e3
      exact ⟨g3, c4, e1, e3, (HF.out.cell (p := ⟨g3, k, none⟩) hlt (by simp)).trans (hc k hkt)⟩
    obtain ⟨g3, c4, rfl, rfl, q0⟩ := hcell
    have hCS := cellsUp_succ hkt
    have hAS := allUp_succ hkt
    have hNO := fun h => allUp_no hkt h
    have hln := cellsUp_le ts (k + 1)
    have hln2 := sum_take (fun t => t.size + 6) ts (k + 1)
    have hlk : (cellsUp ts (k + 1)).length ≤ 100000000 := by have := HSUM.out; omega
    obtain ⟨tk, htk⟩ : ∃ x, ts[k] = x := ⟨_, rfl⟩
    have hts : tk.size ≤ 100000 := by have := HSM.out tk (by rw [← htk]; exact List.getElem_mem hkt); omega
    rw [htk] at hCS hAS hNO q0
    rw [hCS, List.length_append] at hlk
    have HPA := Lib.hid (bparse_any wr tk hts (HM.out.fp (HF3.out.trans HF.out (by simp)) (by simp)))
    have HCS := Lib.hid hCS
    have HAS := Lib.hid hAS
    have HNO := Lib.hid hNO
    have hPO := fun l h => parse_ok (s := tk) (l := l) hts h
    obtain ⟨pr, hpr⟩ : ∃ p, parseP tk = p := ⟨_, rfl⟩
    rw [hpr] at HPA HCS HAS HNO hlk
    clear hCS hAS hNO hln hln2 htk
    cases pr with
    |none =>
     have hc50 : codeP tk = 50 := code_none hpr
     rw [hc50] at HPA
     have hof := HOF.out
     rw [HNO.out rfl, if_pos rfl] at hof
     have hop := HOP.out
     rw [hof] at hop
     have HOP2 : Hid (openP s = (none, 50)) := hop
     clear hof hop hpr hPO
     go_wp2_with (fail)
     (with_reducible refine HPA.out.mono ?_)
     rintro e2 w4 ⟨v4, rfl, ho4, hf4⟩
     have HF4 := Lib.hid (HF.out.trans hf4 (by simp))
     clear ho4 hf4
     go_wp2_with (fail)
     go_ret2
     exact ⟨_, by rw [HOP2.out]; rfl, by rw [HOP2.out]; rfl, HF3.out.trans HF4.out (by simp)⟩
    |some lk =>
     have hc0 : codeP tk = 0 := code_some hpr
     rw [hc0] at HPA
     have hok := hPO lk hpr
     rw [Option.getD_some] at HPA HCS hlk
     clear hpr hPO hc0
     go_wp2_with (fail)
     (with_reducible refine HPA.out.mono ?_)
     rintro e2 w4 ⟨v4, rfl, ho4, hf4⟩
     obtain ⟨a4, c5, rfl, hn4, hat4⟩ := ho4.at2 hok
     have HAT4 := Lib.hid hat4
     have HN4 := Lib.hid hn4
     have HF4 := Lib.hid (HF.out.trans hf4 (by simp))
     have HO4 := Lib.hid (HO.out.fp hf4 (by simp))
     have HLK := Lib.hid hlk
     have hw34 : w3.heap.size ≤ w4.heap.size := HF4.out.size
     clear ho4 hf4 hat4 hn4 hok hlk
     go_wp2_with (at_builtin; refine wpList_append_cels rfl _ _ rfl w3.heap.size _ _ rfl HO4.out _ _ _ lk rfl HAT4.out HN4.out (by have := HLK.out; omega) hw34 ?_; intro v5 w5 ho5 hb5; have HO5 := Lib.hid ho5; have HF5 := Lib.hid (HF4.out.belowTrans hb5); clear ho5 hb5)
     go_wp2_with (fail)
     go_roundg (gk - 1)
     case measure => omega
     case rel => exact ⟨k + 1, _, by omega, rfl, by go_num, by rw [HCS.out]; exact HO5.out, by rw [HAS.out, HA.out]; rfl, HF5.out⟩
   ·obtain rfl : k = nt := by omega
    have zk : ¬ (k : Int) < (k : Int) := by omega
    have hok := cellsUp_ok HSM.out k
    have hln := cellsUp_le ts k
    have hln2 := sum_take (fun t => t.size + 6) ts k
    have hlk : (cellsUp ts k).length ≤ 100000000 := by have := HSUM.out; omega
    have hof := HOF.out
    rw [HNT.out, HA.out, if_neg (by decide)] at hof
    have HOF2 := Lib.hid hof
    obtain ⟨l, hl⟩ : ∃ l, cellsUp ts k = l := ⟨_, rfl⟩
    rw [hl] at hok hlk HOF2 HO
    obtain ⟨a4, c5, rfl, hn4, hat4⟩ := HO.out.at2 hok
    have HAT4 := Lib.hid hat4
    have hlc : l.length ≤ c5 := by
     by_cases h0 : l.length = 0
     ·omega
     ·obtain ⟨g, cap, cur, e0, _, _, hn, _⟩ := OwnC.open HO.out (by omega)
      injection e0 with _ _ e3
      omega
    have HF34 := Lib.hid (HF3.out.trans HF.out (by simp))
    have hbx4 := (HF.out.block _ (heap_lt HBX3.out) (by simp)).trans HBX3.out
    have HBX4 := Lib.hid hbx4
    have q3 : wr.cell? ⟨B', 3, none⟩ = some (.int .u64 sq) := cell_of_block hbx4 3
    have HTB := Lib.hid (tbuild_any wr a4 l.length c5 l sq hat4 hlc (by omega) l4 (HM.out.fp HF34.out (by simp)) (HT.out.fp HF34.out (by simp)))
    obtain ⟨⟨bx, be⟩, hbt⟩ : ∃ t, buildT l sq = t := ⟨_, rfl⟩
    have HBT := Lib.hid hbt
    rw [hbt] at HTB HOF2
    clear hof hl hn4 hat4 hln hln2 hbt hbx4
    go_wp2_with (fail)
    (with_reducible refine HTB.out.mono ?_)
    rintro e2 w5 ⟨rfl, hf5⟩
    have HF5 := Lib.hid (HF34.out.trans hf5 (by simp))
    have HBX5 := Lib.hid ((hf5.block _ (heap_lt HBX4.out) (by simp)).trans HBX4.out)
    have HAT5 := Lib.hid (HAT4.out.fp hf5)
    clear hf5 q3
    by_cases hbe : be = 0
    case neg =>
     have zbe : ((be : Int) != 0) = true := by rw [bne_iff_ne]; omega
     have hof := HOF2.out
     rw [if_neg (by intro e; exact hbe (congrArg Prod.snd e))] at hof
     have hop := HOP.out
     rw [hof] at hop
     have HOP2 : Hid (openP s = (none, 50)) := hop
     clear hof hop
     go_wp2_with (fail)
     go_ret2
     exact ⟨_, by rw [HOP2.out]; rfl, by rw [HOP2.out]; rfl, HF5.out⟩
    subst hbe
    have hsn := str_ne bx s
    by_cases hbx : bx = s
    case neg =>
     have hne : strNe bx s = true := by unfold strNe; simpa using hbx
     rw [hne] at hsn
     have hof := HOF2.out
     rw [if_neg (by intro e; exact hbx (congrArg Prod.fst e))] at hof
     have hop := HOP.out
     rw [hof] at hop
     have HOP2 : Hid (openP s = (none, 50)) := hop
     clear hof hop hne
     go_wp2_with (fail)
     go_ret2
     exact ⟨_, by rw [HOP2.out]; rfl, by rw [HOP2.out]; rfl, HF5.out⟩
    have hof := HOF2.out
    rw [hbx, if_pos rfl] at hof
    have hop := HOP.out
    rw [hof] at hop
    have HOP2 := Lib.hid hop
    have hne : strNe bx s = false := by unfold strNe; simpa using hbx
    rw [hne] at hsn
    have q0 : w5.cell? ⟨B', 0, none⟩ = some (.int .i64 b1) := cell_of_block HBX5.out 0
    have q1 : w5.cell? ⟨B', 1, none⟩ = some (.int .i64 b2) := cell_of_block HBX5.out 1
    clear hof hop hne hbx
    have hb12s : (b12 : Int) ≤ (s.size : Int) := by omega
    have HGF := Lib.hid (get_any (s.extract b12 s.size) w5 (by rw [ByteArray.size_extract]; omega) (HT.out.fp HF5.out (by simp)))
    rw [hb12] at HOP2
    obtain ⟨⟨fil, fn, fe⟩, hfil⟩ : ∃ x, getP (s.extract b12 s.size) = x := ⟨_, rfl⟩
    rw [hfil] at HGF HOP2
    clear hfil
    have hl0 : 0 < l.length := by
     have h1 := HBT.out
     rcases Nat.eq_zero_or_pos l.length with h0 | h0
     ·unfold buildT at h1
      rw [if_neg (by omega), if_pos h0] at h1
      cases h1
     ·exact h0
    obtain ⟨g, cp, e4, hgw⟩ : ∃ g cp, a4 = some ⟨g, 0, none⟩ ∧ c5 = cp := by
     obtain ⟨g, cap, cur, e0, _⟩ := OwnC.open HO.out hl0
     injection e0 with e1 _ e3
     exact ⟨g, cap, e1, e3⟩
    subst e4 hgw
    go_wp2_with (fail)
    (with_reducible refine HGF.out.mono ?_)
    rintro e2 w6 ⟨rfl, hf6⟩
    have HF6 := Lib.hid (HF5.out.trans hf6 (by simp))
    have HBX6 := Lib.hid ((hf6.block _ (heap_lt HBX5.out) (by simp)).trans HBX5.out)
    have HAT6 := Lib.hid (HAT5.out.fp hf6)
    have HPT := Lib.hid (fun w => parted_any w g 0 l.length c5 hlc (by omega))
    clear hf6 q0 q1
    go_wp2_with (fail)
    refine wp_region_calm (by kernel_rfl) (by kernel_rfl) ?_
    iterate 2
     apply ex_plain rfl rfl rfl
     ·intro a w hC hA K hK
      have := hA.f 8
      have := hA.f 9
      have hb := (hC.block _ (heap_lt HBX6.out) (by simp)).trans HBX6.out
      have q0 := cell_of_block hb 0
      have q1 := cell_of_block hb 1
      have q2 := cell_of_block hb 2
      have q3 := cell_of_block hb 3
      simp only [List.getElem?_toArray, List.getElem?_cons_succ, List.getElem?_cons_zero] at q0 q1 q2 q3
      simp only [Oper.wp, execOp]; go_simp
      exact hK _ hC (Fp.refl _ _)
    apply ex_some (PV2 w6.heap.size l.length g) rfl rfl rfl
    ·intro a w hC hA K hK
     have h123 := hA.e 1 123
     simp only [Oper.wp, execOp]; go_simp
     (with_reducible refine (HPT.out _).mono ?_)
     rintro e w2 ⟨v, rfl, ho, hf⟩
     obtain ⟨pa, pn, pc, rfl⟩ := ho.slice
     exact hK _ _ (hC.trans hf (by simp)) hf ⟨pa, pn, pc, rfl, ho.mono hC.size⟩
    apply ex_plain rfl rfl rfl
    ·intro a w hC hA K hK
     have h18 := hA.f 18
     simp only [Oper.wp, execOp]; go_simp
     exact hK _ hC (Fp.refl _ _)
    apply ex_some (PV4 w6.heap.size l.length g b1 b2 b3 sq fil) rfl rfl rfl
    ·intro a w hC hA K hK
     have h122 := hA.e 0 122
     have h124 := hA.dep 2 124 _ (by kernel_rfl) rfl
     have h125 := hA.e 3 125
     obtain ⟨pa, pn, pc, h124, ho⟩ := h124
     rw [h124] at ho
     simp only [Oper.wp, execOp]; go_simp
     exact hK _ _ hC (Fp.refl _ _) ⟨pa, pn, pc, rfl, ho⟩
    apply ex_some (PV5 w6.heap.size l.length g b1 b2 b3 sq fil) rfl rfl rfl
    ·intro a w hC hA K hK
     have h126 := hA.dep 4 126 _ (by kernel_rfl) rfl
     obtain ⟨pa, pn, pc, h126, ho⟩ := h126
     simp only [Oper.wp, execOp]; go_simp
     exact hK _ _ (hC.alloc' _) (Fp.alloc _ _) ⟨pa, pn, pc, _, rfl, heap_alloc_at rfl _, ho.fp (Fp.alloc _ _) (by simp)⟩
    apply ex_some (PV5 w6.heap.size l.length g b1 b2 b3 sq fil) rfl rfl rfl
    ·intro a w hC hA K hK
     have h127 := hA.dep 5 127 _ (by kernel_rfl) rfl
     simp only [Oper.wp, execOp]; go_simp
     exact hK _ _ hC (Fp.refl _ _) h127
    apply ex_plain rfl rfl rfl
    ·intro a w hC hA K hK
     simp only [Oper.wp, execOp]; go_simp
     exact hK _ hC (Fp.refl _ _)
    refine ⟨?_, ?_⟩
    ·refine stab_val _ ?_
     refine ⟨fun _ _ _ _ hf h => h.fp hf, ?_⟩
     refine ⟨fun _ _ _ _ hf h => h.fp hf, ?_⟩
     refine ⟨fun _ _ _ _ hf h => h.fp hf, ?_⟩
     refine stab_val _ ?_
     refine ⟨fun _ _ _ _ hf h => h.fp hf, ?_⟩
     refine stab_val _ ?_
     refine stab_val _ ?_
     exact trivial
    ·intro w' hC
     simp only [List.reverse_cons, List.reverse_nil, List.nil_append, List.cons_append]
     iterate 2 (refine all_val ?_)
     refine all_some ?_
     intro v2 u2
     iterate 1 (refine all_val ?_)
     refine all_some ?_
     intro v4 u4
     refine all_some ?_
     intro v5 u5
     refine all_some ?_
     intro v6 u6
     iterate 1 (refine all_val ?_)
     refine all_nil ?_
     simp only [putAll, Act.put, List.setIfInBounds_toArray, List.set_cons_succ, List.set_cons_zero]
     obtain ⟨pa, pn, pc, bt, rfl, hbt2, hop2⟩ := u6
     have HF7 := Lib.hid (HF6.out.trans hC (by simp))
     have HFA : Hid (FileAt w' bt ⟨l, ⟨b1, b2, b3, sq⟩, fil⟩) := ⟨.slice pa pn pc, g, 0, hbt2, HAT6.out.fp hC, hop2.mono (Nat.zero_le _)⟩
     clear u2 u4 u5 hbt2 hop2 hC
     go_wp2_with (fail)
     go_ret2
     exact ⟨_, by rw [HOP2.out]; rfl, by rw [HOP2.out]; exact ⟨bt, rfl, HFA.out⟩, HF7.out⟩
end
end Go.Proofs.YtkjmgbifoaoefaaGreatDoor
