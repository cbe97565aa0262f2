/-
 wal: write; bytes; change, Append; Off. wal: change; Append; Off. wal: Open. The names of a disk's files, as the library's contract on a map's sorted keys has them. The disk's List, by the library's contract on a map's sorted keys.
-/
import Derived.Test.YtkjmgbifoaoefaaGreatDoorQTabN
import Derived.Test.YtkjmgbifoaoefaaGreatDoorQVdCrash
import Derived.Sort.KeysCollected
import Derived.Sort.EncStr
import Derived.Maps.Own
import Derived.Shelf.ItemsParts
import Derived.Test.YtkjmgbifoaoefaaGreatDoorIter
set_option maxRecDepth 100000
set_option maxHeartbeats 8000000
namespace Go.Proofs.YtkjmgbifoaoefaaGreatDoor
section
open Go.RowKit Go.Lib Go.Maps Go.MapKept Go.ChangeMaps
theorem write_steps {w : World} {b bm L ql qo qs : Nat} {lg : Lg} {d0 : Dk} {other s : ByteArray} (hd : DiskAt w b bm d0) (hname : other.size ≤ maxLen) (hto : lg.name.size ≤ maxLen) (hs : s.size ≤ 1000000000) (hl : LogAt w L b lg)
  (h1 : w.heap[ql]? = some (.cells #[.pointer (some ⟨L, 0, none⟩)] 59 (0, 0))) (h2 : w.heap[qo]? = some (.cells #[.string other] 9 (0, 0))) (h3 : w.heap[qs]? = some (.cells #[.string s] 9 (0, 0))) :
  StepsAt w b bm [(190, #[.pointer (some ⟨ql, 0, none⟩), .pointer (some ⟨qo, 0, none⟩)]), (191, #[.pointer (some ⟨ql, 0, none⟩), .pointer (some ⟨qo, 0, none⟩)]), (192, #[.pointer (some ⟨ql, 0, none⟩), .pointer (some ⟨qo, 0, none⟩), .pointer (some ⟨qs, 0, none⟩)]), (193, #[.pointer (some ⟨ql, 0, none⟩), .pointer (some ⟨qo, 0, none⟩)]), (194, #[.pointer (some ⟨ql, 0, none⟩), .pointer (some ⟨qo, 0, none⟩)])] (wSteps lg.name other s) := by
 have n0 := hl.ne hd
 have n1 := box_ne h1 (by decide) hd
 have n2 := box_ne h2 (by decide) hd
 have n3 := box_ne h3 (by decide) hd
 have f1 : ∀ W, Fp [b, bm] w W → W.heap[ql]? = some (.cells #[.pointer (some ⟨L, 0, none⟩)] 59 (0, 0)) := fun W hf => (hf.block _ (heap_lt h1) n1).trans h1
 have f2 : ∀ W, Fp [b, bm] w W → W.heap[qo]? = some (.cells #[.string other] 9 (0, 0)) := fun W hf => (hf.block _ (heap_lt h2) n2).trans h2
 have f3 : ∀ W, Fp [b, bm] w W → W.heap[qs]? = some (.cells #[.string s] 9 (0, 0)) := fun W hf => (hf.block _ (heap_lt h3) n3).trans h3
 refine ⟨rfl, fun i hi hi2 => ?_, wSteps_ok _ _ _⟩
 have hcase : i = 0 ∨ i = 1 ∨ i = 2 ∨ i = 3 ∨ i = 4 := by simp at hi; omega
 rcases hcase with rfl | rfl | rfl | rfl | rfl
 ·exact ⟨fun w => by kernel_rfl, fun d W hd hok hf => write1_any W b bm L ql qo lg d other hd hok hname (hl.fp hf n0) (f1 W hf) (f2 W hf)⟩
 ·exact ⟨fun w => by kernel_rfl, fun d W hd hok hf => write2_any W b bm L ql qo lg d other hd hok hname (hl.fp hf n0) (f1 W hf) (f2 W hf)⟩
 ·exact ⟨fun w => by kernel_rfl, fun d W hd hok hf => write3_any W b bm L ql qo qs lg d other s hd hok hname hs (hl.fp hf n0) (f1 W hf) (f2 W hf) (f3 W hf)⟩
 ·exact ⟨fun w => by kernel_rfl, fun d W hd hok hf => write4_any W b bm L ql qo lg d other hd hok hname (hl.fp hf n0) (f1 W hf) (f2 W hf)⟩
 ·exact ⟨fun w => by kernel_rfl, fun d W hd hok hf => write5_any W b bm L ql qo lg d other hd hok hname hto (hl.fp hf n0) (f1 W hf) (f2 W hf)⟩
theorem write_any (w : World) (b bm L : Nat) (lg : Lg) (d : Dk) (s : ByteArray) (hd : DiskAt w b bm d) (hok : DkOK d) (hto : lg.name.size ≤ 1000) (hs : s.size ≤ 1000000000) (hl : LogAt w L b lg) :
  Calls Tryz.prog 119 #[.pointer (some ⟨L, 0, none⟩), .string s] w fun e w' => e = .returned (.int .i64 (d.wWrite lg.name s).2) ∧ DiskAt w' b bm (d.wWrite lg.name s).1 ∧ Fp [b, bm] w w' := by
 obtain ⟨W, hW⟩ : ∃ W, W = ((((w.alloc (.cells #[.pointer (some ⟨L, 0, none⟩)] 59)).alloc (.cells #[.string s] 9)).alloc (.cells #[.string (lg.name ++ plusB)] 9)).alloc (.cells #[.func (.func 190) #[] #[.pointer (some ⟨w.heap.size, 0, none⟩), .pointer (some ⟨w.heap.size + 1 + 1, 0, none⟩)], .func (.func 191) #[] #[.pointer (some ⟨w.heap.size, 0, none⟩), .pointer (some ⟨w.heap.size + 1 + 1, 0, none⟩)], .func (.func 192) #[] #[.pointer (some ⟨w.heap.size, 0, none⟩), .pointer (some ⟨w.heap.size + 1 + 1, 0, none⟩), .pointer (some ⟨w.heap.size + 1, 0, none⟩)], .func (.func 193) #[] #[.pointer (some ⟨w.heap.size, 0, none⟩), .pointer (some ⟨w.heap.size + 1 + 1, 0, none⟩)], .func (.func 194) #[] #[.pointer (some ⟨w.heap.size, 0, none⟩), .pointer (some ⟨w.heap.size + 1 + 1, 0, none⟩)]] 44)) := ⟨_, rfl⟩
 have hfW : Fp [] w W := by rw [hW]; exact (((Fp.alloc _ _).alloc' _).alloc' _).alloc' _
 have hb1 : W.heap[w.heap.size]? = some (.cells #[.pointer (some ⟨L, 0, none⟩)] 59 (0, 0)) := by
  rw [hW, Below.heap_alloc _ _ _ (by simp <;> omega), Below.heap_alloc _ _ _ (by simp <;> omega), Below.heap_alloc _ _ _ (by simp <;> omega)]
  exact heap_alloc_at rfl _
 have hb2 : W.heap[w.heap.size + 1]? = some (.cells #[.string s] 9 (0, 0)) := by
  rw [hW, Below.heap_alloc _ _ _ (by simp <;> omega), Below.heap_alloc _ _ _ (by simp <;> omega)]
  exact heap_alloc_at (by simp) _
 have hb3 : W.heap[w.heap.size + 1 + 1]? = some (.cells #[.string (lg.name ++ plusB)] 9 (0, 0)) := by
  rw [hW, Below.heap_alloc _ _ _ (by simp <;> omega)]
  exact heap_alloc_at (by simp) _
 have hsz : (lg.name ++ plusB).size ≤ maxLen := by rw [ByteArray.size_append]; show lg.name.size + 1 ≤ maxLen; unfold maxLen; omega
 have hdW := hd.of_fp hfW (by simp) (by simp)
 have hst := write_steps hdW hsz (by unfold maxLen; omega) hs (hl.fp hfW (by simp)) hb1 hb3 hb2
 have HC : Calls Tryz.prog 75 #[.slice (some ⟨w.heap.size + 1 + 1 + 1, 0, none⟩) 5 5] W fun e w' => e = .returned (.int .i64 (d.wWrite lg.name s).2) ∧ DiskAt w' b bm (d.wWrite lg.name s).1 ∧ Fp [b, bm] W w' := by
  have h := steps_any W b bm (w.heap.size + 1 + 1 + 1) d _ _ hdW hok (by rw [hW]; exact heap_alloc_at (by simp) _) (by simp) hst
  rw [show stepsP (wSteps lg.name (lg.name ++ plusB) s) d = d.wWrite lg.name s from rfl] at h
  exact h
 have c1 : w.cell? ⟨L, 1, none⟩ = some (.string lg.name) := cell_of_block hl 1
 have hlt := heap_lt hl
 have HC := Lib.hid HC
 have HF := Lib.hid hfW
 rw [hW] at HC HF
 obtain ⟨⟨d2, x⟩, hx⟩ : ∃ r, d.wWrite lg.name s = r := ⟨_, rfl⟩
 rw [hx] at HC ⊢
 have zn : ¬ lg.name.size + 1 > 9223372036854775807 := by omega
 clear hx hW hst hdW hb1 hb2 hb3 hfW hd hl hsz
 unfold plusB at HC HF
 go_enter Tryz.func119, Tryz.ntmps119
 go_wp2_with (fail)
 (with_reducible refine HC.out.mono ?_)
 rintro e w2 ⟨rfl, hd2, hf2⟩
 have HD2 := Lib.hid hd2
 have HF2 := Lib.hid ((HF.out.mono (S' := [b, bm]) (by simp)).trans hf2 (by intro i hi; exact Or.inl hi))
 clear hd2 hf2
 go_wp2_with (fail)
 go_ret
 exact ⟨rfl, HD2.out, HF2.out⟩
theorem bytesP_bad {l : List ByteArray} {k : Nat} (hk : k < l.length) (h : 65535 < (l[k]).size) : bytesP l = (⟨#[]⟩, 71) := by
 unfold bytesP narrow
 rw [if_neg]
 intro h2
 have := List.all_eq_true.1 h2 l[k] (List.getElem_mem hk)
 simp only [decide_eq_true_eq] at this
 omega
theorem bytesP_good {l : List ByteArray} (h : ∀ t ∈ l, t.size ≤ 65535) : bytesP l = (bl (recsL l), 0) := by
 unfold bytesP narrow
 rw [if_pos]
 exact List.all_eq_true.2 fun t ht => by simpa using h t ht
theorem sumsT_take {l : List ByteArray} (k : Nat) : sumsT (l.take k) ≤ sumsT l := by
 have h := sumsT_append (l.take k) (l.drop k)
 rw [List.take_append_drop] at h
 omega
theorem sumsT_get {l : List ByteArray} {k : Nat} (hk : k < l.length) : sumsT (l.take (k + 1)) = sumsT (l.take k) + (6 + (l[k]).size) := by
 rw [List.take_succ_eq_append_getElem hk, sumsT_append]
 rfl
theorem sumsT_len : ∀ (l : List ByteArray), 6 * l.length ≤ sumsT l
 |[] => Nat.zero_le _
 |t :: r => by have := sumsT_len r; simp only [List.length_cons, sumsT]; omega
theorem strs_get {w : World} {a : Option Addr} {n k : Nat} {l : List ByteArray} (h : StrsAt w a n l) (hk : k < l.length) : ∃ b o, a = some ⟨b, o, none⟩ ∧ ∀ w', Fp [] w w' → w'.cell? ⟨b, o + k, none⟩ = some (.string l[k]) := by
 rcases h.cells with h0 | ⟨b, o, e, hc⟩
 ·rw [h0] at hk; exact absurd hk (Nat.not_lt_zero _)
 ·exact ⟨b, o, e, fun w' hf => by rw [hf.cell (World.block_lt_of_cell? _ _ (hc k hk)) (by simp)]; exact hc k hk⟩
theorem wbytes_any (w : World) (a : Option Addr) (n cap : Nat) (l : List ByteArray) (hat : StrsAt w a n l) (ht : TabAt w) (hsz : sumsT l ≤ 100000000) :
  Calls Tryz.prog 141 #[.slice a n cap] w fun e w' => e = .returned (.tuple #[.string (bytesP l).1, .int .i64 (bytesP l).2]) ∧ Fp [] w w' := by
 have HAT := Lib.hid hat
 have HLN := Lib.hid hat.len
 have HT := Lib.hid ht
 have HPUT := Lib.hid (fun s w h ht => put_any s w h ht)
 have HWS := Lib.hid (fun l s w h1 h2 => writeString_any liesSB (show 69 ≠ 5 by decide) w.heap.size w.heap.size l s w h1 h2)
 have hll := sumsT_len l
 have hlen : l.length ≤ 100000000 := by omega
 have HSZ := Lib.hid hsz
 clear hat ht hsz HWS hll
 go_enter Tryz.func141, Tryz.ntmps141
 go_wp2_with (fail)
 go_loopg [11] n (fun g vi W => ∃ (k : Nat), g + k = n ∧ vi = .int .i64 k ∧ (∀ t ∈ l.take k, t.size ≤ 65535) ∧ BAt 69 w.heap.size w.heap.size (recsL (l.take k)) W ∧ Fp [] w W)
 case atStart => exact ⟨0, by omega, rfl, by simp, BAt.fresh _ _, Fp.alloc _ _⟩
 case round =>
  obtain ⟨k, hg, rfl, hall, hb, hf⟩ := hrel
  have HALL := Lib.hid hall
  have HB := Lib.hid hb
  have HF := Lib.hid hf
  clear hall hb hf
  by_cases hk : k < n
  ·have zk : (k : Int) < (n : Int) := by omega
   have hkl : k < l.length := by rw [← HLN.out]; exact hk
   obtain ⟨b1, o1, rfl, hcells⟩ := strs_get HAT.out hkl
   have hcell := hcells wr HF.out
   have hsk := sumsT_get hkl
   have hst := sumsT_take (l := l) (k + 1)
   have hrl := recsL_length (l.take k)
   have hrs : recsL (l.take (k + 1)) = recsL (l.take k) ++ recL l[k] := by
    rw [List.take_succ_eq_append_getElem hkl, recsL_append]
    show _ ++ (recL l[k] ++ []) = _
    rw [List.append_nil]
   have hbad : 65535 < (l[k]).size → bytesP l = (⟨#[]⟩, 71) := bytesP_bad hkl
   have hal : ∀ t ∈ l.take (k + 1), t = l[k] ∨ t ∈ l.take k := by
    intro t ht
    rw [List.take_succ_eq_append_getElem hkl] at ht
    rcases List.mem_append.1 ht with h | h
    ·exact Or.inr h
    ·exact Or.inl (List.mem_singleton.1 h)
   obtain ⟨t, htt⟩ : ∃ t, l[k] = t := ⟨_, rfl⟩
   rw [htt] at hcell hsk hrs hbad hal
   have hts : t.size ≤ 100000000 := by have := HSZ.out; omega
   have hlb : (recsL (l.take k)).length + (recB t).size ≤ 1000000000 := by rw [hrl, recB_size]; have := HSZ.out; omega
   have HRS := Lib.hid hrs
   have HBAD := Lib.hid hbad
   have HAL := Lib.hid hal
   have HLB := Lib.hid hlb
   have HTS := Lib.hid hts
   have HP := Lib.hid (HPUT.out t wr hts (HT.out.fp HF.out (by simp)))
   clear hcells hsk hst hrl hrs hbad hal htt hlb hts
   by_cases hw : 65535 < t.size
   ·have HB2 := Lib.hid (HBAD.out hw)
    have hpp : putP t = (⟨#[]⟩, 71) := if_pos hw
    rw [hpp] at HP
    clear hw hpp
    go_wp2_with (fail)
    (with_reducible refine HP.out.mono ?_)
    rintro e w2 ⟨rfl, hf2⟩
    have HF2 := Lib.hid (HF.out.trans hf2 (by simp))
    clear hf2
    go_wp2_with (fail)
    go_ret2
    rw [HB2.out]
    exact ⟨rfl, HF2.out⟩
   ·have hpp : putP t = (recB t, 0) := if_neg hw
    have HW := Lib.hid hw
    rw [hpp] at HP
    clear hw hpp
    go_wp2_with (fail)
    (with_reducible refine HP.out.mono ?_)
    rintro e w2 ⟨rfl, hf2⟩
    have HB2 := Lib.hid (HB.out.fp hf2 (by simp))
    have HF2 := Lib.hid (HF.out.trans hf2 (by simp))
    clear hf2
    go_wp2_with (fail)
    (with_reducible refine (writeString_any liesSB (by decide) w.heap.size w.heap.size (recsL (l.take k)) (recB t) w2 HB2.out HLB.out).mono ?_)
    rintro e w3 ⟨rfl, hb3, hf3⟩
    have HB3 : Hid (BAt 69 w.heap.size w.heap.size (recsL (l.take (k + 1))) w3) := by
     rw [HRS.out]
     rw [show (recB t).data.toList = recL t from by rw [recB_bl]; exact bl_toList _] at hb3
     exact Lib.hid hb3
    have HF3 := Lib.hid (HF2.out.bfp hf3 (Nat.le_refl _))
    clear hb3 hf3
    go_wp2_with (fail)
    go_roundg (gk - 1)
    case measure => omega
    case rel => exact ⟨k + 1, by omega, by go_num, fun t' ht' => by
     rcases HAL.out t' ht' with rfl | h
     ·have := HW.out; omega
     ·exact HALL.out t' h, HB3.out, HF3.out⟩
  ·have zk : ¬ (k : Int) < (n : Int) := by omega
   have hkn : l.take k = l := by rw [List.take_of_length_le (by rw [← HLN.out]; omega)]
   have hb2 := HB.out
   have ha2 := HALL.out
   rw [hkn] at hb2 ha2
   have HB2 := Lib.hid hb2
   have HG := Lib.hid (bytesP_good ha2)
   clear hkn hb2 ha2
   go_wp2_with (fail)
   (with_reducible refine (string_any w.heap.size w.heap.size (recsL l) _ HB2.out).mono ?_)
   rintro e w3 ⟨rfl, hf3⟩
   have HF3 := Lib.hid (HF.out.belowTrans hf3)
   clear hf3
   go_wp2_with (fail)
   go_ret2
   rw [HG.out]
   exact ⟨rfl, HF3.out⟩
end
section
open Go.RowKit Go.Lib Go.Maps Go.MapKept Go.ChangeMaps
theorem append_steps {w : World} {b bm L ql qs : Nat} {lg : Lg} {d0 : Dk} {s : ByteArray} (hd : DiskAt w b bm d0) (hto : lg.name.size ≤ maxLen) (hs : s.size ≤ 1000000000) (hl : LogAt w L b lg)
  (h1 : w.heap[ql]? = some (.cells #[.pointer (some ⟨L, 0, none⟩)] 59 (0, 0))) (h3 : w.heap[qs]? = some (.cells #[.string s] 9 (0, 0))) :
  StepsAt w b bm [(76, #[.pointer (some ⟨ql, 0, none⟩), .pointer (some ⟨qs, 0, none⟩)]), (78, #[.pointer (some ⟨ql, 0, none⟩)])] (aSteps lg.name s) := by
 have n0 := hl.ne hd
 have n1 := box_ne h1 (by decide) hd
 have n3 := box_ne h3 (by decide) hd
 have f1 : ∀ W, Fp [b, bm] w W → W.heap[ql]? = some (.cells #[.pointer (some ⟨L, 0, none⟩)] 59 (0, 0)) := fun W hf => (hf.block _ (heap_lt h1) n1).trans h1
 have f3 : ∀ W, Fp [b, bm] w W → W.heap[qs]? = some (.cells #[.string s] 9 (0, 0)) := fun W hf => (hf.block _ (heap_lt h3) n3).trans h3
 refine ⟨rfl, fun i hi hi2 => ?_, aSteps_ok _ _⟩
 have hcase : i = 0 ∨ i = 1 := by simp at hi; omega
 rcases hcase with rfl | rfl
 ·exact ⟨fun w => by kernel_rfl, fun d W hd hok hf => append11_any W b bm L ql qs lg d s hd hok hto hs (hl.fp hf n0) (f1 W hf) (f3 W hf)⟩
 ·exact ⟨fun w => by kernel_rfl, fun d W hd hok hf => append12_any W b bm L ql lg d hd hok hto (hl.fp hf n0) (f1 W hf)⟩
theorem append1w_any (w : World) (b bm L ql : Nat) (lg : Lg) (d : Dk) (s : ByteArray) (hd : DiskAt w b bm d) (hok : DkOK d) (hto : lg.name.size ≤ 1000) (hs : s.size ≤ 1000000000) (hl : LogAt w L b lg)
  (h1 : w.heap[ql]? = some (.cells #[.pointer (some ⟨L, 0, none⟩)] 59 (0, 0))) :
  Calls Tryz.prog 74 #[.string s, .pointer (some ⟨ql, 0, none⟩)] w fun e w' => e = .returned (.int .i64 (d.wAppend lg.name s).2) ∧ DiskAt w' b bm (d.wAppend lg.name s).1 ∧ Fp [b, bm] w w' := by
 obtain ⟨W, hW⟩ : ∃ W, W = ((w.alloc (.cells #[.string s] 9)).alloc (.cells #[.func (.func 76) #[] #[.pointer (some ⟨ql, 0, none⟩), .pointer (some ⟨w.heap.size, 0, none⟩)], .func (.func 78) #[] #[.pointer (some ⟨ql, 0, none⟩)]] 44)) := ⟨_, rfl⟩
 have hfW : Fp [] w W := by rw [hW]; exact (Fp.alloc _ _).alloc' _
 have hb2 : W.heap[w.heap.size]? = some (.cells #[.string s] 9 (0, 0)) := by
  rw [hW, Below.heap_alloc _ _ _ (by simp <;> omega)]
  exact heap_alloc_at (by simp) _
 have hdW := hd.of_fp hfW (by simp) (by simp)
 have hst := append_steps hdW (by unfold maxLen; omega) hs (hl.fp hfW (by simp)) ((hfW.block _ (heap_lt h1) (by simp)).trans h1) hb2
 have HC : Calls Tryz.prog 75 #[.slice (some ⟨w.heap.size + 1, 0, none⟩) 2 2] W fun e w' => e = .returned (.int .i64 (d.wAppend lg.name s).2) ∧ DiskAt w' b bm (d.wAppend lg.name s).1 ∧ Fp [b, bm] W w' := by
  have h := steps_any W b bm (w.heap.size + 1) d _ _ hdW hok (by rw [hW]; exact heap_alloc_at (by simp) _) (by simp) hst
  rw [show stepsP (aSteps lg.name s) d = d.wAppend lg.name s from rfl] at h
  exact h
 have HC := Lib.hid HC
 have HF := Lib.hid hfW
 rw [hW] at HC HF
 obtain ⟨⟨d2, x⟩, hx⟩ : ∃ r, d.wAppend lg.name s = r := ⟨_, rfl⟩
 rw [hx] at HC ⊢
 clear hx hW hst hdW hb2 hfW hd hl h1
 go_enter Tryz.func74, Tryz.ntmps74
 go_wp2_with (fail)
 (with_reducible refine HC.out.mono ?_)
 rintro e w2 ⟨rfl, hd2, hf2⟩
 have HD2 := Lib.hid hd2
 have HF2 := Lib.hid ((HF.out.mono (S' := [b, bm]) (by simp)).trans hf2 (by intro i hi; exact Or.inl hi))
 clear hd2 hf2
 go_wp2_with (fail)
 go_ret
 exact ⟨rfl, HD2.out, HF2.out⟩
theorem changeP_off {lg : Lg} {d : Dk} {l : List ByteArray} {m : Nat} {g : ByteArray → Dk → Dk × Int} (h : lg.off = true) : changeP lg d l m g = (lg, d, 6) := by
 unfold changeP
 rw [h]
 rfl
theorem changeP_bad {lg : Lg} {d : Dk} {l : List ByteArray} {m : Nat} {g : ByteArray → Dk → Dk × Int} {s : ByteArray} {x : Int} (h : lg.off = false) (hb : bytesP l = (s, x)) (hx : x ≠ 0) : changeP lg d l m g = (lg, d, x) := by
 unfold changeP
 rw [h, hb, if_neg (by decide), if_pos hx]
theorem changeP_go {lg : Lg} {d d2 : Dk} {l : List ByteArray} {m : Nat} {g : ByteArray → Dk → Dk × Int} {s : ByteArray} {x : Int} (h : lg.off = false) (hb : bytesP l = (s, 0)) (hg : g s d = (d2, x)) : changeP lg d l m g = (if x = 0 then { lg with many := m } else if x = 2 then lg else { lg with off := true }, d2, x) := by
 unfold changeP
 rw [h, hb, if_neg (by decide), if_neg (by simp)]
 simp only [hg]
theorem LogAt.put {w : World} {L b : Nat} {lg : Lg} (h : LogAt w L b lg) : LogAt (w.setCell ⟨L, 3, none⟩ (.bool true)) L b { lg with off := true } := (heap_setCell_same h _).trans rfl
theorem LogAt.putMany {w : World} {L b m : Nat} {lg : Lg} (h : LogAt w L b lg) : LogAt (w.setCell ⟨L, 2, none⟩ (.int .i64 m)) L b { lg with many := m } := (heap_setCell_same h _).trans rfl
theorem change_any (w : World) (b bm L : Nat) (lg : Lg) (d : Dk) (a : Option Addr) (n cap : Nat) (l : List ByteArray) (m F : Nat) (caps : Array Value) (g : ByteArray → Dk → Dk × Int)
  (hd : DiskAt w b bm d) (hl : LogAt w L b lg) (hat : StrsAt w a n l) (ht : TabAt w) (hsz : sumsT l ≤ 100000000)
  (hen : ∀ s w, (callFunc F (#[.string s] ++ caps)).run Tryz.prog w = .ok (.enter F (#[.string s] ++ caps)) w)
  (hdo : ∀ s W, (recsL l).length = s.size → Fp [] w W → DiskAt W b bm d → Calls Tryz.prog F (#[.string s] ++ caps) W fun e w' => e = .returned (.int .i64 (g s d).2) ∧ DiskAt w' b bm (g s d).1 ∧ Fp [b, bm] W w') :
  Calls Tryz.prog 73 #[.pointer (some ⟨L, 0, none⟩), .slice a n cap, .int .i64 m, .func (.func F) #[] caps] w fun e w' => e = .returned (.int .i64 (changeP lg d l m g).2.2) ∧ DiskAt w' b bm (changeP lg d l m g).2.1 ∧ LogAt w' L b (changeP lg d l m g).1 ∧ Fp [b, bm, L] w w' := by
 have n0 := hl.ne hd
 have hlt := heap_lt hl
 have c3 : w.cell? ⟨L, 3, none⟩ = some (.bool lg.off) := cell_of_block hl 3
 have HBY := Lib.hid (wbytes_any w a n cap l hat ht hsz)
 have HD := Lib.hid hd
 have HL := Lib.hid hl
 have HDO := Lib.hid hdo
 have HN0 := Lib.hid n0
 clear hd hl hat ht hsz hdo n0
 cases ho : lg.off
 case true =>
  rw [ho] at c3
  have HE := Lib.hid (changeP_off (d := d) (l := l) (m := m) (g := g) ho)
  clear ho
  go_enter Tryz.func73, Tryz.ntmps73
  go_wp2_with (fail)
  go_ret
  rw [HE.out]
  exact ⟨rfl, HD.out, HL.out, Fp.refl _ _⟩
 case false =>
  rw [ho] at c3
  obtain ⟨⟨s, x⟩, hx⟩ : ∃ r, bytesP l = r := ⟨_, rfl⟩
  rw [hx] at HBY
  by_cases h0 : x = 0
  ·subst h0
   have hslen : (recsL l).length = s.size := by
    unfold bytesP at hx
    split at hx
    ·cases hx
     rw [bl_size]
    ·cases hx
   obtain ⟨⟨d2, y⟩, hy⟩ : ∃ r, g s d = r := ⟨_, rfl⟩
   have HGO : Hid (∀ W, Fp [] w W → Calls Tryz.prog F (#[.string s] ++ caps) W fun e w' => e = .returned (.int .i64 y) ∧ DiskAt w' b bm d2 ∧ Fp [b, bm] W w') := Lib.hid (fun W hf => by
    have h := HDO.out s W hslen hf (HD.out.of_fp hf (by simp) (by simp))
    rw [hy] at h
    exact h)
   have HE := Lib.hid (changeP_go (m := m) ho hx hy)
   have hens := hen s
   clear ho hx hy hslen hen
   go_enter Tryz.func73, Tryz.ntmps73
   go_wp2_with (fail)
   (with_reducible refine HBY.out.mono ?_)
   rintro e w1 ⟨rfl, hf1⟩
   have HF1 := Lib.hid hf1
   clear hf1
   go_wp2_with (fail)
   (with_reducible refine (HGO.out _ HF1.out).mono ?_)
   rintro e w2 ⟨rfl, hd2, hf2⟩
   have HD2 := Lib.hid hd2
   have HF2 : Hid (Fp [b, bm] w w2) := Lib.hid ((HF1.out.mono (by simp)).trans hf2 (by intro i hi; exact Or.inl hi))
   have HL2 := Lib.hid (HL.out.fp HF2.out HN0.out)
   have hlt2 := heap_lt HL2.out
   have e2 : w2.cell? ⟨L, 2, none⟩ = some (.int .i64 lg.many) := cell_of_block HL2.out 2
   have e3 : w2.cell? ⟨L, 3, none⟩ = some (.bool lg.off) := cell_of_block HL2.out 3
   have f2 : w2.frozen? ⟨L, 2, none⟩ = false := frozen_of_block HL2.out 2
   have f3 : w2.frozen? ⟨L, 3, none⟩ = false := frozen_of_block HL2.out 3
   have HNE : Hid (b ≠ L ∧ bm ≠ L) := Lib.hid (by have := HN0.out; simp only [List.mem_cons, List.not_mem_nil, or_false, not_or] at this; exact ⟨Ne.symm this.1, Ne.symm this.2⟩)
   have HST : Hid (∀ p u, p = L → Fp [b, bm, L] w (w2.setCell ⟨p, 3, none⟩ u) ∧ Fp [b, bm, L] w (w2.setCell ⟨p, 2, none⟩ u)) := Lib.hid (fun p u hp => by
    subst hp
    exact ⟨(HF2.out.mono (S' := [b, bm, p]) (by intro i hi; simp only [List.mem_cons, List.not_mem_nil, or_false] at hi ⊢; omega)).setCell' (Or.inl (by simp)) u, (HF2.out.mono (S' := [b, bm, p]) (by intro i hi; simp only [List.mem_cons, List.not_mem_nil, or_false] at hi ⊢; omega)).setCell' (Or.inl (by simp)) u⟩)
   clear hd2 hf2
   by_cases y0 : y = 0
   ·subst y0
    go_wp2_with (fail)
    go_ret
    rw [HE.out]
    refine ⟨rfl, HD2.out.of_fp (S := [L]) (Fp.setCell _ ⟨L, 2, none⟩ _) (by simpa using HNE.out.1) (by simpa using HNE.out.2), HL2.out.putMany, (HST.out L _ rfl).2⟩
   ·by_cases y2 : y = 2
    ·subst y2
     go_wp2_with (fail)
     go_ret
     rw [HE.out]
     exact ⟨rfl, HD2.out, HL2.out, HF2.out.mono (by intro i hi; simp only [List.mem_cons, List.not_mem_nil, or_false] at hi ⊢; omega)⟩
    ·have b0 : ((y : Int) == 0) = false := by simpa using y0
     have b2 : ((y : Int) == 2) = false := by simpa using y2
     have HEY : Hid (changeP lg d l m g = ({ lg with off := true }, d2, y)) := by
      have := HE.out
      rw [if_neg y0, if_neg y2] at this
      exact this
     clear y0 y2
     go_wp2_with (fail)
     go_ret
     rw [HEY.out]
     exact ⟨rfl, HD2.out.of_fp (S := [L]) (Fp.setCell _ ⟨L, 3, none⟩ _) (by simpa using HNE.out.1) (by simpa using HNE.out.2), HL2.out.put, (HST.out L _ rfl).1⟩
  ·have hb : ((x : Int) != 0) = true := by simpa using h0
   have HE := Lib.hid (changeP_bad (d := d) (m := m) (g := g) ho hx h0)
   clear ho hx h0 hen
   go_enter Tryz.func73, Tryz.ntmps73
   go_wp2_with (fail)
   (with_reducible refine HBY.out.mono ?_)
   rintro e w1 ⟨rfl, hf1⟩
   have HF1 := Lib.hid hf1
   clear hf1
   go_wp2_with (fail)
   go_ret
   rw [HE.out]
   exact ⟨rfl, HD.out.of_fp HF1.out (by simp) (by simp), HL.out.fp HF1.out (by simp), HF1.out.mono (by simp)⟩
structure TurnC (S : List Nat) (w0 : World) (Post : World → Prop) (done : Bool) (w : World) : Prop where
 pre : done = false → Fp [] w0 w
 post : done = true → Post w
 fp : Fp S w0 w
theorem TurnC.start {S : List Nat} {w0 : World} {Post : World → Prop} : TurnC S w0 Post false w0.drew := ⟨fun _ => Fp.drew w0, (fun h => by cases h), (Fp.drew w0).mono (by simp)⟩
theorem TurnC.did {S S' : List Nat} {w0 w w2 : World} {Post : World → Prop} (h : Fp [] w0 w) (hf : Fp S' w w2) (hS : ∀ i ∈ S', i ∈ S ∨ w0.heap.size ≤ i) (hp : Post w2) : TurnC S w0 Post true w2 := ⟨(fun h => by cases h), fun _ => hp, (h.mono (S' := S) (by simp)).trans hf hS⟩
theorem notW {a c : Bool} (h : a = true → c = true) (hc : c = false) : a = false := by cases a <;> cases c <;> simp_all
structure TurnC2 (S : List Nat) (w0 : World) (Post : World → Prop) (b5 b8 done : Bool) (w : World) : Prop where
 t : TurnC S w0 Post done w
 o1 : b8 = true → b5 = true
 o2 : done = true → b8 = true
theorem TurnC2.early {S : List Nat} {w0 : World} {Post : World → Prop} {b5 b8 done : Bool} {w : World} (h : TurnC2 S w0 Post b5 b8 done w) (h5 : b5 = false) : Fp [] w0 w := h.t.pre (notW h.o2 (notW h.o1 h5))
theorem tab_ne {w : World} {q : Nat} {c : Array Value} {T : TypeId} {fr : Nat × Nat} (ht : TabAt w) (h : w.heap[q]? = some (.cells c T fr)) (hc : ∀ k : Int, c[0]? ≠ some (.int .u32 k)) : 0 ≠ q := by
 rintro rfl
 have := ht 0 (by decide)
 rw [cell_of_block h] at this
 exact hc _ this
theorem wappend_any (w : World) (db bm L : Nat) (lg : Lg) (d : Dk) (a : Option Addr) (n cap : Nat) (l : List ByteArray)
  (hd : DiskAt w db bm d) (hok : DkOK d) (hto : lg.name.size ≤ 1000) (hl : LogAt w L db lg) (hat : StrsAt w a n l) (ht : TabAt w) (hsz : sumsT l ≤ 100000000) (hm : lg.many ≤ 1000000000) :
  Calls Tryz.prog 31 #[.pointer (some ⟨L, 0, none⟩), .slice a n cap] w fun e w' => e = .returned (.int .i64 (appendLP lg d l).2.2) ∧ DiskAt w' db bm (appendLP lg d l).2.1 ∧ LogAt w' L db (appendLP lg d l).1 ∧ Fp [db, bm, L] w w' := by
 have hll := sumsT_len l
 have hln := hat.len
 have hfa := Fp.alloc w (.cells #[.pointer (some ⟨L, 0, none⟩)] 59)
 obtain ⟨w0, hw0⟩ : ∃ w0, w.alloc (.cells #[.pointer (some ⟨L, 0, none⟩)] 59) = w0 := ⟨_, rfl⟩
 have hbx : w0.heap[w.heap.size]? = some (.cells #[.pointer (some ⟨L, 0, none⟩)] 59 (0, 0)) := by rw [← hw0]; exact heap_alloc_at rfl _
 rw [hw0] at hfa
 have hd0 := hd.of_fp hfa (by simp) (by simp)
 have hl0 := hl.fp hfa (by simp)
 have hat0 := hat.of_fp hfa
 have ht0 := ht.fp hfa (by simp)
 have nq := box_ne hbx (by decide) hd0
 have nqL : w.heap.size ≠ L := by have := heap_lt hl; omega
 obtain ⟨mn, hmn⟩ : ∃ mn, lg.many + n = mn := ⟨_, rfl⟩
 have HC : Hid (∀ W, DiskAt W db bm d → LogAt W L db lg → Fp [db, bm, L] w0 W → StrsAt W a n l → TabAt W → W.heap[w.heap.size]? = some (.cells #[.pointer (some ⟨L, 0, none⟩)] 59 (0, 0)) → Calls Tryz.prog 73 #[.pointer (some ⟨L, 0, none⟩), .slice a n cap, .int .i64 ((mn : Nat) : Int), .func (.func 74) #[] #[.pointer (some ⟨w.heap.size, 0, none⟩)]] W fun e w' => e = .returned (.int .i64 (appendLP lg d l).2.2) ∧ DiskAt w' db bm (appendLP lg d l).2.1 ∧ LogAt w' L db (appendLP lg d l).1 ∧ Fp [db, bm, L] W w') := Lib.hid (fun W h1 h2 h3 h4 h5 h6 => by
  have h := change_any W db bm L lg d a n cap l (lg.many + n) 74 #[.pointer (some ⟨w.heap.size, 0, none⟩)] (fun s d => d.wAppend lg.name s) h1 h2 h4 h5 hsz (fun s w => by kernel_rfl)
   (fun s W' hs hf hdW => append1w_any W' db bm L w.heap.size lg d s hdW hok hto (by rw [← hs, recsL_length]; omega) (h2.fp hf (by simp)) ((hf.block _ (heap_lt h6) (by simp)).trans h6))
  have e1 : appendLP lg d l = changeP lg d l (lg.many + n) (fun s d => d.wAppend lg.name s) := by unfold appendLP; rw [hln]
  rw [e1, hmn]
  rw [hmn] at h
  exact h)
 obtain ⟨⟨lg2, d2, x⟩, hx⟩ : ∃ r, appendLP lg d l = r := ⟨_, rfl⟩
 rw [hx] at HC ⊢
 have HD0 := Lib.hid hd0
 have HL0 := Lib.hid hl0
 have HAT := Lib.hid hat0
 have HT := Lib.hid ht0
 have HBX := Lib.hid hbx
 have HF0 := Lib.hid hfa
 have nql : w.heap.size ∉ [db, bm, L] := by
  intro hm
  simp only [List.mem_cons, List.not_mem_nil, or_false] at hm nq
  rcases hm with h | h | h
  ·exact nq (Or.inl h)
  ·exact nq (Or.inr h)
  ·exact nqL h
 have hmf : ∀ (fn : Fn) (first cap : Array Value) (w : World), (Instr.makeFunc fn first cap).run Tryz.prog w = .ok (.func fn first cap) w := fun _ _ _ _ => rfl
 have zn : IntKind.i64.wrap ((lg.many : Int) + (n : Int)) = (mn : Int) := by rw [IntKind.wrap_i64]; omega
 clear hx hd hl hat ht hd0 hl0 hat0 ht0 hbx hfa hln hll hok hto nq hmn
 go_enter Tryz.func31, Tryz.ntmps31
 go_wp2_with (fail)
 refine wp_region_n (fun bb w' => TurnC2 [db, bm, L] w0 (fun W => DiskAt W db bm d2 ∧ LogAt W L db lg2) (bb 5) (bb 8) (bb 10) w') (fun _ _ => True) (by kernel_rfl) (by kernel_rfl) ⟨TurnC.start, (fun h => by cases h), (fun h => by cases h)⟩ ?_
 iterate 5
  apply nx_plain (fun _ _ h => h) rfl rfl rfl
  ·intro b a w hC hA K hK
   have := hA.f 2
   have := hA.f 1
   try have := hA.e 2 7
   try have := hA.e 3 8
   have q0 := cell_of_block ((hC.t.fp.block _ (heap_lt HBX.out) nql).trans HBX.out) 0
   simp only [List.getElem?_toArray, List.getElem?_cons_zero] at q0
   simp only [Oper.wp, execOp]; go_simp
   exact hK _ hC trivial
 apply nx_turn (eqV (.int .i64 lg.many)) rfl rfl rfl
 ·intro b a w hC hA K hK
  have h9 := hA.e 4 9
  have q0 := cell_of_block ((hC.t.fp.block _ (heap_lt HBX.out) nql).trans HBX.out) 0
  simp only [List.getElem?_toArray, List.getElem?_cons_zero] at q0
  have hf0 := hC.early hA.self
  have q1 := cell_of_block (HL0.out.fp hf0 (by simp)) 2
  simp only [logCells, List.getElem?_toArray, List.getElem?_cons_succ, List.getElem?_cons_zero] at q1
  have hst : TurnC2 [db, bm, L] w0 (fun W => DiskAt W db bm d2 ∧ LogAt W L db lg2) true (b 8) (b 10) w := ⟨hC.t, (fun _ => rfl), hC.o2⟩
  simp only [Oper.wp, execOp]; go_simp
  exact hK _ _ hst trivial rfl
 iterate 2
  apply nx_plain (fun _ _ h => h) rfl rfl rfl
  ·intro b a w hC hA K hK
   have := hA.f 1
   try have := hA.e 6 11
   simp only [Oper.wp, execOp]; go_simp
   exact hK _ hC trivial
 apply nx_turn (eqV (.int .i64 mn)) rfl rfl rfl
 ·intro b a w hC hA K hK
  have h10 := hA.e 5 10
  have h12 := hA.e 7 12
  have h5 := hA.pre 5 (by kernel_rfl)
  have hst : TurnC2 [db, bm, L] w0 (fun W => DiskAt W db bm d2 ∧ LogAt W L db lg2) (b 5) true (b 10) w := ⟨hC.t, (fun _ => h5), (fun _ => rfl)⟩
  simp only [Oper.wp, execOp]; go_simp
  exact hK _ _ hst trivial rfl
 apply nx_plain (fun _ _ h => h) rfl rfl rfl
 ·intro b a w hC hA K hK
  have h2 := hA.f 2
  simp only [Oper.wp, execOp]; go_simp
  exact hK _ hC trivial
 apply nx_turn (eqV (.int .i64 x)) rfl rfl rfl
 ·intro b a w hC hA K hK
  have h5 := hA.e 0 5
  have h6 := hA.e 1 6
  have h13 := hA.e 8 13
  have h14 := hA.e 9 14
  have h8 := hA.pre 8 (by kernel_rfl)
  have hf0 := hC.t.pre hA.self
  simp only [Oper.wp, execOp]; go_simp
  (with_reducible refine (HC.out _ (HD0.out.of_fp hf0 (by simp) (by simp)) (HL0.out.fp hf0 (by simp)) (hf0.mono (by simp)) (HAT.out.of_fp hf0) (HT.out.fp hf0 (by simp)) ((hf0.block _ (heap_lt HBX.out) (by simp)).trans HBX.out)).mono ?_)
  rintro e w2 ⟨rfl, hd2, hl2, hf2⟩
  exact hK _ _ ⟨TurnC.did hf0 hf2 (by intro i hi; exact Or.inl hi) ⟨hd2, hl2⟩, hC.o1, (fun _ => h8)⟩ trivial rfl
 apply nx_plain (fun _ _ h => h) rfl rfl rfl
 ·intro b a w hC hA K hK
  have h15 := hA.e 10 15
  simp only [Oper.wp, execOp]; go_simp
  exact hK _ hC trivial
 refine ⟨?_, ?_⟩
 ·refine stabN_val _ ?_
  refine ⟨fun _ _ _ _ h => h, ?_⟩
  refine stabN_val _ ?_
  refine ⟨fun _ _ _ _ h => h, ?_⟩
  refine stabN_val _ ?_
  refine stabN_val _ ?_
  refine ⟨fun _ _ _ _ h => h, ?_⟩
  iterate 5 refine stabN_val _ ?_
  exact trivial
 ·intro w' bb hC hbb
  simp only [List.reverse_cons, List.reverse_nil, List.nil_append, List.cons_append]
  iterate 5 (refine all_val ?_)
  refine all_some ?_
  intro v5 u5
  obtain rfl := u5
  iterate 2 (refine all_val ?_)
  refine all_some ?_
  intro v8 u8
  obtain rfl := u8
  iterate 1 (refine all_val ?_)
  refine all_some ?_
  intro v10 u10
  obtain rfl := u10
  iterate 1 (refine all_val ?_)
  refine all_nil ?_
  simp only [putAll, Act.put, List.setIfInBounds_toArray, List.set_cons_succ, List.set_cons_zero]
  obtain ⟨hd2, hl2⟩ := hC.t.post (hbb 10 (by decide))
  have HD2 := Lib.hid hd2
  have HL2 := Lib.hid hl2
  have HF2 : Hid (Fp [db, bm, L] w w') := Lib.hid ((HF0.out.mono (S' := [db, bm, L]) (by simp)).trans hC.t.fp (by intro i hi; exact Or.inl hi))
  clear hC hbb hd2 hl2
  go_wp2_with (fail)
  go_ret
  exact ⟨rfl, HD2.out, HL2.out, HF2.out⟩
end
section
open Go.RowKit Go.Lib Go.Maps Go.MapKept Go.ChangeMaps
theorem textsF_in : ∀ (n at_ : Nat) (s : ByteArray), ∀ x ∈ textsF n at_ s, x.1 ≤ s.size
 |0, _, _, x, h => by cases h
 |n + 1, at_, s, x, h => by
  obtain ⟨⟨t, k, e⟩, ht⟩ : ∃ x, getP (s.extract at_ s.size) = x := ⟨_, rfl⟩
  by_cases he : e = 0
  ·subst he
   have hb := get_bound ht
   rw [textsF_yes ht] at h
   rcases List.mem_cons.1 h with rfl | h
   ·exact hb.2.1
   ·exact textsF_in n _ s x h
  ·rw [textsF_no ht he] at h
   cases h
theorem endOf_le (s : ByteArray) : endOf (textsP s) ≤ s.size := by
 unfold endOf
 cases h : (textsP s).getLast? with
 |none => exact Nat.zero_le _
 |some x => exact textsF_in _ _ s x (List.mem_of_getLast? h)
theorem wOpen_bad {d : Dk} {name : ByteArray} (h : name.size = 0 ∨ 59 < name.size) : d.wOpen name = (d, 1, []) := if_pos h
theorem wOpen_err {d : Dk} {name s : ByteArray} {x : Int} (h : ¬ (name.size = 0 ∨ 59 < name.size)) (hr : d.read name = (s, x)) (h0 : x ≠ 0) (h3 : x ≠ 3) : d.wOpen name = (d, x, []) := by
 unfold Dk.wOpen
 rw [if_neg h, hr, if_pos ⟨h0, h3⟩]
theorem wOpen_go {d d2 : Dk} {name s : ByteArray} {x y : Int} (h : ¬ (name.size = 0 ∨ 59 < name.size)) (hr : d.read name = (s, x)) (hx : ¬ (x ≠ 0 ∧ x ≠ 3))
  (hg : (if x = 3 ∨ endOf (textsP s) < s.size then d.wWrite name (s.extract 0 (endOf (textsP s))) else (d.sync name, d.thereE name)) = (d2, y)) : d.wOpen name = (d2, y, if y = 0 then (textsP s).map (·.2) else []) := by
 unfold Dk.wOpen
 rw [if_neg h, hr, if_neg hx]
 simp only [hg]
def OpenW (w : World) (b bm : Nat) (name : ByteArray) (r : Dk × Int × List ByteArray) (e : Ending) (w' : World) : Prop :=
 DiskAt w' b bm r.1 ∧ Fp [b, bm] w w' ∧ ((r.2.1 ≠ 0 ∧ e = .returned (.tuple #[.pointer none, .slice none 0 0, .int .i64 r.2.1])) ∨
  (r.2.1 = 0 ∧ ∃ L v, e = .returned (.tuple #[.pointer (some ⟨L, 0, none⟩), v, .int .i64 0]) ∧ w.heap.size ≤ L ∧ LogAt w' L b ⟨name, r.2.2.length, false⟩ ∧ OwnS w' w.heap.size v r.2.2))
theorem wopen_any (w : World) (b bm : Nat) (d : Dk) (name : ByteArray) (hd : DiskAt w b bm d) (hok : DkOK d) (hname : name.size ≤ 1000) (ht : TabAt w) (hrs : (d.read name).1.size ≤ 100000000) :
  Calls Tryz.prog 60 #[.pointer (some ⟨b, 0, none⟩), .string name] w fun e w' => OpenW w b bm name (d.wOpen name) e w' := by
 have hlb := heap_lt hd.cells
 have hlm := hd.files.lt
 have HD := Lib.hid hd
 have HT := Lib.hid ht
 clear hd ht
 by_cases h0 : name.size = 0
 ·rw [wOpen_bad (Or.inl h0)]
  obtain rfl : name = ⟨#[]⟩ := ByteArray.ext (Array.eq_empty_of_size_eq_zero h0)
  go_enter Tryz.func60, Tryz.ntmps60
  go_wp2_with (fail)
  refine bodyPost_ret (v := .tuple #[.pointer none, .slice none 0 0, .int .i64 1]) (by simp [results, Tryz.results60, go_sem]) rfl ?_
  exact ⟨HD.out, Fp.refl _ _, Or.inl ⟨(show (1 : Int) ≠ 0 by decide), rfl⟩⟩
 by_cases h59 : 59 < name.size
 ·rw [wOpen_bad (Or.inr h59)]
  have he := str_full (Nat.pos_of_ne_zero h0)
  have hne : (name.toList == ([] : List UInt8)) = false := by
   rw [beq_eq_false_iff_ne]
   intro e
   rw [e] at he
   cases he
  have z : (59 : Int) < (name.size : Int) := by omega
  clear h0
  go_enter Tryz.func60, Tryz.ntmps60
  go_wp2_with (fail)
  refine bodyPost_ret (v := .tuple #[.pointer none, .slice none 0 0, .int .i64 1]) (by simp [results, Tryz.results60, go_sem]) rfl ?_
  exact ⟨HD.out, Fp.refl _ _, Or.inl ⟨(show (1 : Int) ≠ 0 by decide), rfl⟩⟩
 have hfit : ¬ (name.size = 0 ∨ 59 < name.size) := by omega
 have he := str_full (Nat.pos_of_ne_zero h0)
 have hne : (name.toList == ([] : List UInt8)) = false := by
  rw [beq_eq_false_iff_ne]
  intro e
  rw [e] at he
  cases he
 have z59 : ¬ (59 : Int) < (name.size : Int) := by omega
 have HR := Lib.hid (read_any w b bm d name HD.out (by unfold maxLen; omega))
 obtain ⟨⟨s, x⟩, hr⟩ : ∃ r, d.read name = r := ⟨_, rfl⟩
 rw [hr] at HR hrs
 simp only at hrs
 by_cases hx : x ≠ 0 ∧ x ≠ 3
 ·rw [wOpen_err hfit hr hx.1 hx.2]
  have b0 : ((x : Int) != 0) = true := by simpa using hx.1
  have b3 : ((x : Int) != 3) = true := by simpa using hx.2
  have HX := Lib.hid hx.1
  clear hx hfit hr h0 h59 he
  go_enter Tryz.func60, Tryz.ntmps60
  go_wp2_with (fail)
  (with_reducible refine HR.out.mono ?_)
  rintro e w1 ⟨rfl, hf1⟩
  have HF1 := Lib.hid hf1
  clear hf1
  go_wp2_with (fail)
  refine bodyPost_ret (v := .tuple #[.pointer none, .slice none 0 0, .int .i64 x]) (by simp [results, Tryz.results60, go_sem]) rfl ?_
  exact ⟨HD.out.of_fp HF1.out (by simp) (by simp), HF1.out.mono (by simp), Or.inl ⟨HX.out, rfl⟩⟩
 ·obtain ⟨⟨d2, y⟩, hg⟩ : ∃ r, (if x = 3 ∨ endOf (textsP s) < s.size then d.wWrite name (s.extract 0 (endOf (textsP s))) else (d.sync name, d.thereE name)) = r := ⟨_, rfl⟩
  rw [wOpen_go hfit hr hx hg]
  have HALL : Hid (∀ w, TabAt w → _) := Lib.hid (fun w ht => all_any w s hrs ht)
  have hel := endOf_le s
  have hx03 : x = 0 ∨ x = 3 := by omega
  have hexs : (s.extract 0 (endOf (textsP s))).size = endOf (textsP s) := by rw [ByteArray.size_extract]; omega
  obtain ⟨en, hen⟩ : ∃ en, endOf (textsP s) = en := ⟨_, rfl⟩
  obtain ⟨l, hl⟩ : ∃ l, (textsP s).map (·.2) = l := ⟨_, rfl⟩
  rw [hen] at hg hel HALL hexs
  rw [hl] at HALL ⊢
  obtain ⟨tx, htx⟩ : ∃ tx, (if y = 0 then l else []) = tx := ⟨_, rfl⟩
  rw [htx]
  have HTX := Lib.hid htx
  have HG := Lib.hid hg
  have HFIT := Lib.hid hfit
  have HEXS := Lib.hid hexs
  clear hx hfit hr h0 h59 he hg hen hl hexs htx
  have HGO : Hid (∀ W L, Fp [] w W → LogAt W L b ⟨name, l.length, false⟩ →
    ((x = 3 ∨ en < s.size) → Calls Tryz.prog 119 #[.pointer (some ⟨L, 0, none⟩), .string (s.extract 0 en)] W fun e w' => e = .returned (.int .i64 y) ∧ DiskAt w' b bm d2 ∧ Fp [b, bm] W w') ∧
    (¬ (x = 3 ∨ en < s.size) → Calls Tryz.prog 79 #[.pointer (some ⟨b, 0, none⟩), .string name] W fun e w' => e = .returned (.int .i64 y) ∧ DiskAt w' b bm d2 ∧ Fp [b, bm] W w')) := Lib.hid (fun W L hf hlg => by
   have hdW := HD.out.of_fp hf (by simp) (by simp)
   refine ⟨fun hc => ?_, fun hc => ?_⟩
   ·have h := write_any W b bm L ⟨name, l.length, false⟩ d (s.extract 0 en) hdW hok hname (by rw [HEXS.out]; omega) hlg
    have hgg := HG.out
    rw [if_pos hc] at hgg
    simp only [hgg] at h
    exact h
   ·have h := sync_any W b bm d name hdW hok (by unfold maxLen; omega)
    have hgg := HG.out
    rw [if_neg hc] at hgg
    injection hgg with g1 g2
    rw [g1, g2] at h
    exact h)
  have HDONE : Hid (∀ W w' L v, Fp [] w W → w.heap.size ≤ L → LogAt W L b ⟨name, l.length, false⟩ → OwnS W w.heap.size v l → DiskAt w' b bm d2 → Fp [b, bm] W w' →
    OpenW w b bm name (d2, y, tx) (if y = 0 then .returned (.tuple #[.pointer (some ⟨L, 0, none⟩), v, .int .i64 0]) else .returned (.tuple #[.pointer none, .slice none 0 0, .int .i64 y])) w') := Lib.hid (fun W w' L v hf hL hlg ho hd2 hf2 => by
   refine ⟨hd2, (hf.mono (S' := [b, bm]) (by simp)).trans hf2 (by intro i hi; exact Or.inl hi), ?_⟩
   by_cases hy : y = 0
   ·right
    rw [if_pos hy, ← HTX.out, if_pos hy]
    exact ⟨hy, L, v, rfl, hL, hlg.fp hf2 (by simp; omega), ho.fp hf2 (by simp; omega)⟩
   ·left
    rw [if_neg hy]
    exact ⟨hy, rfl⟩)
  clear HG HD HEXS hok
  rcases hx03 with rfl | rfl
  ·by_cases hlt : en < s.size
   ·have z : (en : Int) < (s.size : Int) := by omega
    go_enter Tryz.func60, Tryz.ntmps60
    go_wp2_with (fail)
    (with_reducible refine HR.out.mono ?_)
    rintro e w1 ⟨rfl, hf1⟩
    have HF1 := Lib.hid hf1
    have HT1 := Lib.hid (HT.out.fp hf1 (by simp))
    clear hf1
    go_wp2_with (fail)
    (with_reducible refine (HALL.out _ HT1.out).mono ?_)
    rintro e w2 ⟨v, rfl, ho2, hf2⟩
    obtain ⟨⟨va, vc, rfl⟩, -⟩ := ho2.at
    have hfW : Fp [] w (w2.alloc (.cells (logCells b ⟨name, l.length, false⟩) 139)) := (HF1.out.trans hf2 (by simp)).alloc' _
    have hlW : LogAt (w2.alloc (.cells (logCells b ⟨name, l.length, false⟩) 139)) w2.heap.size b ⟨name, l.length, false⟩ := heap_alloc_at rfl _
    have hle : w.heap.size ≤ w1.heap.size := HF1.out.size
    have hle2 : w.heap.size ≤ w2.heap.size := Nat.le_trans hle hf2.size
    have hoW : OwnS (w2.alloc (.cells (logCells b ⟨name, l.length, false⟩) 139)) w.heap.size (.slice va l.length vc) l := (ho2.mono hle).fp (Fp.alloc _ _) (by simp)
    have HC := HGO.out _ w2.heap.size hfW hlW
    have HDN := Lib.hid (fun w' h1 h2 => HDONE.out _ w' w2.heap.size (.slice va l.length vc) hfW hle2 hlW hoW h1 h2)
    unfold logCells at HC
    simp only at HC
    clear ho2 hf2 hfW hlW hoW hle hle2
    have HC2 := Lib.hid (HC.1 (Or.inr hlt))
    clear HC hlt
    go_wp2_with (fail)
    (with_reducible refine HC2.out.mono ?_)
    rintro e w3 ⟨rfl, hd3, hf3⟩
    have HDN2 := Lib.hid (HDN.out w3 hd3 (by unfold logCells; exact hf3))
    clear hd3 hf3
    by_cases hy : y = 0
    ·subst hy
     go_wp2_with (fail)
     refine bodyPost_ret (v := .tuple #[.pointer (some ⟨w2.heap.size, 0, none⟩), .slice va l.length vc, .int .i64 0]) (by simp [results, Tryz.results60, go_sem]) rfl ?_
     exact HDN2.out
    ·have by0 : ((y : Int) != 0) = true := by simpa using hy
     have HD4 : Hid (OpenW w b bm name (d2, y, tx) (.returned (.tuple #[.pointer none, .slice none 0 0, .int .i64 y])) w3) := Lib.hid (by
      have h := HDN2.out
      rw [if_neg hy] at h
      exact h)
     clear hy
     go_wp2_with (fail)
     refine bodyPost_ret (v := .tuple #[.pointer none, .slice none 0 0, .int .i64 y]) (by simp [results, Tryz.results60, go_sem]) rfl ?_
     exact HD4.out
   ·have z : ¬ (en : Int) < (s.size : Int) := by omega
    go_enter Tryz.func60, Tryz.ntmps60
    go_wp2_with (fail)
    (with_reducible refine HR.out.mono ?_)
    rintro e w1 ⟨rfl, hf1⟩
    have HF1 := Lib.hid hf1
    have HT1 := Lib.hid (HT.out.fp hf1 (by simp))
    clear hf1
    go_wp2_with (fail)
    (with_reducible refine (HALL.out _ HT1.out).mono ?_)
    rintro e w2 ⟨v, rfl, ho2, hf2⟩
    obtain ⟨⟨va, vc, rfl⟩, -⟩ := ho2.at
    have hfW : Fp [] w (w2.alloc (.cells (logCells b ⟨name, l.length, false⟩) 139)) := (HF1.out.trans hf2 (by simp)).alloc' _
    have hlW : LogAt (w2.alloc (.cells (logCells b ⟨name, l.length, false⟩) 139)) w2.heap.size b ⟨name, l.length, false⟩ := heap_alloc_at rfl _
    have hle : w.heap.size ≤ w1.heap.size := HF1.out.size
    have hle2 : w.heap.size ≤ w2.heap.size := Nat.le_trans hle hf2.size
    have hoW : OwnS (w2.alloc (.cells (logCells b ⟨name, l.length, false⟩) 139)) w.heap.size (.slice va l.length vc) l := (ho2.mono hle).fp (Fp.alloc _ _) (by simp)
    have HC := HGO.out _ w2.heap.size hfW hlW
    have HDN := Lib.hid (fun w' h1 h2 => HDONE.out _ w' w2.heap.size (.slice va l.length vc) hfW hle2 hlW hoW h1 h2)
    unfold logCells at HC
    simp only at HC
    clear ho2 hf2 hfW hlW hoW hle hle2
    have HC2 := Lib.hid (HC.2 (by omega))
    clear HC hlt
    go_wp2_with (fail)
    (with_reducible refine HC2.out.mono ?_)
    rintro e w3 ⟨rfl, hd3, hf3⟩
    have HDN2 := Lib.hid (HDN.out w3 hd3 (by unfold logCells; exact hf3))
    clear hd3 hf3
    by_cases hy : y = 0
    ·subst hy
     go_wp2_with (fail)
     refine bodyPost_ret (v := .tuple #[.pointer (some ⟨w2.heap.size, 0, none⟩), .slice va l.length vc, .int .i64 0]) (by simp [results, Tryz.results60, go_sem]) rfl ?_
     exact HDN2.out
    ·have by0 : ((y : Int) != 0) = true := by simpa using hy
     have HD4 : Hid (OpenW w b bm name (d2, y, tx) (.returned (.tuple #[.pointer none, .slice none 0 0, .int .i64 y])) w3) := Lib.hid (by
      have h := HDN2.out
      rw [if_neg hy] at h
      exact h)
     clear hy
     go_wp2_with (fail)
     refine bodyPost_ret (v := .tuple #[.pointer none, .slice none 0 0, .int .i64 y]) (by simp [results, Tryz.results60, go_sem]) rfl ?_
     exact HD4.out
  ·have zel : (en : Int) ≤ (s.size : Int) := by omega
   go_enter Tryz.func60, Tryz.ntmps60
   go_wp2_with (fail)
   (with_reducible refine HR.out.mono ?_)
   rintro e w1 ⟨rfl, hf1⟩
   have HF1 := Lib.hid hf1
   have HT1 := Lib.hid (HT.out.fp hf1 (by simp))
   clear hf1
   go_wp2_with (fail)
   (with_reducible refine (HALL.out _ HT1.out).mono ?_)
   rintro e w2 ⟨v, rfl, ho2, hf2⟩
   obtain ⟨⟨va, vc, rfl⟩, -⟩ := ho2.at
   have hfW : Fp [] w (w2.alloc (.cells (logCells b ⟨name, l.length, false⟩) 139)) := (HF1.out.trans hf2 (by simp)).alloc' _
   have hlW : LogAt (w2.alloc (.cells (logCells b ⟨name, l.length, false⟩) 139)) w2.heap.size b ⟨name, l.length, false⟩ := heap_alloc_at rfl _
   have hle : w.heap.size ≤ w1.heap.size := HF1.out.size
   have hle2 : w.heap.size ≤ w2.heap.size := Nat.le_trans hle hf2.size
   have hoW : OwnS (w2.alloc (.cells (logCells b ⟨name, l.length, false⟩) 139)) w.heap.size (.slice va l.length vc) l := (ho2.mono hle).fp (Fp.alloc _ _) (by simp)
   have HC := HGO.out _ w2.heap.size hfW hlW
   have HDN := Lib.hid (fun w' h1 h2 => HDONE.out _ w' w2.heap.size (.slice va l.length vc) hfW hle2 hlW hoW h1 h2)
   unfold logCells at HC
   simp only at HC
   clear ho2 hf2 hfW hlW hoW hle hle2
   have HC2 := Lib.hid (HC.1 (by simp))
   clear HC
   go_wp2_with (fail)
   (with_reducible refine HC2.out.mono ?_)
   rintro e w3 ⟨rfl, hd3, hf3⟩
   have HDN2 := Lib.hid (HDN.out w3 hd3 (by unfold logCells; exact hf3))
   clear hd3 hf3
   by_cases hy : y = 0
   ·subst hy
    go_wp2_with (fail)
    refine bodyPost_ret (v := .tuple #[.pointer (some ⟨w2.heap.size, 0, none⟩), .slice va l.length vc, .int .i64 0]) (by simp [results, Tryz.results60, go_sem]) rfl ?_
    exact HDN2.out
   ·have by0 : ((y : Int) != 0) = true := by simpa using hy
    have HD4 : Hid (OpenW w b bm name (d2, y, tx) (.returned (.tuple #[.pointer none, .slice none 0 0, .int .i64 y])) w3) := Lib.hid (by
     have h := HDN2.out
     rw [if_neg hy] at h
     exact h)
    clear hy
    go_wp2_with (fail)
    refine bodyPost_ret (v := .tuple #[.pointer none, .slice none 0 0, .int .i64 y]) (by simp [results, Tryz.results60, go_sem]) rfl ?_
    exact HD4.out
end
section
open Go.RowKit Go.Maps Go.MapKept
open Go.WideElems (Fit rd rg)
def anyElem (_ : Value) : Option (DataW Unit × List MemPlace) := some (.nil, [])
theorem rd_of {x : MapEntry} {s : ByteArray} (h : x.key = .string s) (hs : s.size ≤ maxLen) : rd Tryz.prog 9 anyElem x = some (.string s.data.toList, .nil) := by
 unfold rd
 rw [h, Go.WideMaps.keyOf_string_mk Tryz.underlying9 hs]
 rfl
theorem rg_of {x : MapEntry} {s : ByteArray} (h : x.key = .string s) (hs : s.size ≤ maxLen) : rg Tryz.prog 9 anyElem x = (.string s.data.toList, .nil) := by
 unfold rg
 rw [rd_of h hs]
 rfl
theorem owns_files {w : World} {b : Nat} {F : List (ByteArray × File)} (h : MapAt fileTy w b F) (hF : F.length ≤ 200) :
  ∃ D0 : DataW Unit, w.ownsMap Tryz.prog 9 anyElem b 200 D0 ∧ Maps.size D0 ≤ 200 ∧ (strKeys D0).Perm (F.map (fun p => p.1.data.toList)) := by
 obtain ⟨es, clock, hb, hst, hE, hok⟩ := h
 have hlen : es.size = F.length := by
  have := congrArg List.length hE
  simpa using this
 have hkey : ∀ x ∈ es.toList, ∃ s : ByteArray, x.key = .string s ∧ s.size ≤ maxLen := by
  intro x hx
  obtain ⟨j, hj⟩ := List.getElem?_of_mem hx
  obtain ⟨p, hp, h1, _⟩ := entry_of (M := fileTy) hE hj
  exact ⟨p.1, h1, hok p (List.mem_of_getElem? hp)⟩
 refine ⟨.map ((es.toList.map (rg Tryz.prog 9 anyElem)).foldr DataW.insert []), ⟨es, clock, hb, ⟨?_, hst, ?_⟩, by omega, rfl⟩, ?_, ?_⟩
 ·unfold maxLen; omega
 ·intro x hx
  obtain ⟨s, h1, h2⟩ := hkey x hx
  exact ⟨_, rd_of h1 h2⟩
 ·rw [Maps.size_eq, Go.WideShapes.sorted_perm _ |>.length_eq]
  simp only [List.length_map, Array.length_toList]
  omega
 ·have hp := (Go.WideShapes.sorted_perm (es.toList.map (rg Tryz.prog 9 anyElem))).map (fun p => Go.strOf p.1)
  refine List.Perm.trans hp (List.Perm.of_eq ?_)
  rw [List.map_map]
  apply List.ext_getElem?
  intro j
  rw [List.getElem?_map, List.getElem?_map]
  cases hj : es.toList[j]? with
  |none =>
   have hj' : F[j]? = none := by
    rw [List.getElem?_eq_none_iff] at hj ⊢
    simp only [Array.length_toList] at hj
    omega
   rw [hj']; rfl
  |some x =>
   obtain ⟨p, hp, h1, _⟩ := entry_of (M := fileTy) hE hj
   rw [hp]
   have := rg_of h1 (hok p (List.mem_of_getElem? hp))
   simp only [Option.map_some, Function.comp_apply, this]
   rfl
structure ListOf (d : Dk) (ns : List ByteArray) : Prop where
 perm : ns.Perm (mkeys d.files)
 rise : ns.Pairwise (fun a b => a.data.toList < b.data.toList)
def NamesAt (w : World) (n : Nat) (a : Option Addr) (ns : List ByteArray) : Prop :=
 ns = [] ∨ ∃ g, a = some ⟨g, 0, none⟩ ∧ n ≤ g ∧ g < w.heap.size ∧ ∀ i (h : i < ns.length), w.cell? ⟨g, i, none⟩ = some (.string ns[i])
theorem NamesAt.fp {w w' : World} {n : Nat} {a : Option Addr} {ns : List ByteArray} {S : List Nat} (h : NamesAt w n a ns) (hf : Fp S w w') (hS : ∀ k ∈ S, k < n) : NamesAt w' n a ns := by
 rcases h with h | ⟨g, rfl, hn, hg, hc⟩
 ·exact Or.inl h
 ·refine Or.inr ⟨g, rfl, hn, Nat.lt_of_lt_of_le hg hf.size, fun i hi => ?_⟩
  rw [hf.cell (by exact hg) (by intro hk; have := hS g hk; omega)]
  exact hc i hi
def ListGives : Prop := ∀ (w : World) (b bm : Nat) (d : Dk), DiskAt w b bm d → DkOK d →
 Calls Tryz.prog 66 #[.pointer (some ⟨b, 0, none⟩)] w fun e w' => ∃ a cap ns, e = .returned (.slice a ns.length cap) ∧ ListOf d ns ∧ NamesAt w' w.heap.size a ns ∧ Fp [] w w'
theorem sorted_names {ss : List (List UInt8)} {F : List (ByteArray × File)} (hn : (mkeys F).Nodup) (hp : ss.Perm (F.map (fun p => p.1.data.toList))) :
  ((ss.mergeSort (fun x y => decide (x ≤ y))).map (fun l => (⟨l.toArray⟩ : ByteArray))).Perm (mkeys F) ∧
  ((ss.mergeSort (fun x y => decide (x ≤ y))).map (fun l => (⟨l.toArray⟩ : ByteArray))).Pairwise (fun a b => a.data.toList < b.data.toList) := by
 have hp2 := (List.mergeSort_perm ss (fun x y => decide (x ≤ y))).trans hp
 have h1 : ((ss.mergeSort (fun x y => decide (x ≤ y))).map (fun l => (⟨l.toArray⟩ : ByteArray))).Perm (mkeys F) := by
  have := hp2.map (fun l => (⟨l.toArray⟩ : ByteArray))
  refine this.trans (List.Perm.of_eq ?_)
  unfold mkeys
  rw [List.map_map]
  apply List.map_congr_left
  intro p _
  rfl
 refine ⟨h1, ?_⟩
 have hnd : ((ss.mergeSort (fun x y => decide (x ≤ y))).map (fun l => (⟨l.toArray⟩ : ByteArray))).Nodup := h1.nodup_iff.2 hn
 rw [List.pairwise_map]
 unfold List.Nodup at hnd
 rw [List.pairwise_map] at hnd
 have hs : (ss.mergeSort (fun x y => decide (x ≤ y))).Pairwise (fun x y => decide (x ≤ y) = true) :=
  List.pairwise_mergeSort (by
   intro a b c h1 h2
   simp only [decide_eq_true_eq] at h1 h2 ⊢
   exact List.le_trans h1 h2) (by
   intro a b
   have := List.le_total a b
   simp only [Bool.or_eq_true, decide_eq_true_eq]
   exact this) ss
 refine (hs.and hnd).imp ?_
 intro x y ⟨h1, h2⟩
 simp only [decide_eq_true_eq] at h1
 show x < y
 by_cases h : x < y
 ·exact h
 ·exfalso
  have : y ≤ x := h
  exact h2 (by rw [List.le_antisymm h1 this])
end
section
open Go.RowKit Go.Maps Go.MapKept Go.Sort Go.Shelf
theorem list_gives : ListGives := by
 intro w b bm d hd hok
 have c2 : w.cell? ⟨b, 2, none⟩ = some (.map (some bm)) := cell_of_block hd.cells 2
 obtain ⟨D0, hown, hsz, hperm⟩ := owns_files hd.files hok.many
 have hmax : Maps.size D0 ≤ maxLen := by unfold maxLen; omega
 have hbytes : Maps.size D0 * 16 ≤ 140737488355328 := by omega
 have HD := Lib.hid hd
 have HOK := Lib.hid hok
 have HP := Lib.hid hperm
 have HK := Lib.hid (Tryz.slices_Sorted_keys_136_137 bm 200 D0 anyElem w hown hmax hbytes)
 clear hd hok hperm hown hmax hbytes hsz
 refine (callsIn_wide (n := 6)).1 ?_
 have hfK : Fence.wide.fn 137 := trivial
 have hfS : Fence.wide.fn 136 := trivial
 refine callsIn_of_wp Tryz.func66 rfl trivial ?_ rfl
 simp only [Tryz.ntmps66, List.size_toArray, List.length_cons, List.length_nil, Nat.reduceAdd, Nat.reduceSub, Array.replicate_succ, Array.replicate_zero, List.push_toArray, List.append_toArray, List.nil_append, List.cons_append]
 gi_wp2_with (first
  |(gi_at_call 137; refine (Tryz.maps_Keys_137 _ _).mono ?_; rintro e w' ⟨rfl, rfl⟩)
  |(gi_at_call 136; refine HK.out.mono ?_; rintro e w' ⟨v, ss, rfl, hS, hrow, hnil, hb⟩))
 go_ret
 have hF : Fp [] w (w.alloc (.cells #[.map (some bm)] 51)) := Fp.alloc _ _
 have hX : Fp [] (w.alloc (.cells #[.map (some bm)] 51)) w' := ⟨hb.os, hb.tape, hb.output, hb.size, fun k hk _ => hb.block k hk⟩
 have hF2 : Fp [] w w' := hF.trans hX (by simp)
 obtain ⟨h1, h2⟩ := sorted_names HOK.out.nodup (hS.trans HP.out)
 obtain ⟨ns, hns⟩ : ∃ ns, ns = (ss.mergeSort (fun x y => decide (x ≤ y))).map (fun l => (⟨l.toArray⟩ : ByteArray)) := ⟨_, rfl⟩
 rw [← hns] at h1 h2
 have hvals : (ss.mergeSort (fun x y => decide (x ≤ y))).map encStr = ns.map Value.string := by
  rw [hns, List.map_map]; rfl
 have hlen : ss.length = ns.length := by rw [hns]; simp
 rw [hvals] at hrow
 obtain ⟨hl, hform⟩ := hrow
 rcases hform with ⟨rfl, h0⟩ | ⟨g, cap, cur, rfl, hg, hblk, hn, hcap, hcur, htake⟩
 ·have : ns = [] := List.eq_nil_of_length_eq_zero (by omega)
  subst this
  exact ⟨none, 0, [], rfl, ⟨h1, h2⟩, Or.inl rfl, hF2⟩
 ·refine ⟨some ⟨g, 0, none⟩, cap, ns, by rw [hlen]; rfl, ⟨h1, h2⟩, Or.inr ⟨g, rfl, ?_, heap_lt hblk, fun i hi => ?_⟩, hF2⟩
  ·have := hF.size; omega
  ·rw [cell_of_block hblk i]
   have h3 := congrArg (fun l => l[i]?) htake
   simp only [List.getElem?_take, Nat.mul_one, Array.getElem?_toList, List.getElem?_map] at h3
   rw [if_pos (by omega), List.getElem?_eq_getElem hi] at h3
   exact h3
end
end Go.Proofs.YtkjmgbifoaoefaaGreatDoor
