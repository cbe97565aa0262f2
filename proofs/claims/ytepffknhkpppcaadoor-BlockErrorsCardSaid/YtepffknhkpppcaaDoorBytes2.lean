/-
  Bytes turned round.
-/
import Derived.Test.YtepffknhkpppcaaDoorBytes
namespace Go.Proofs.YtepffknhkpppcaaDoor
open Go.RowKit

/-- block b begins by these bytes, and they may be written -/
structure BRow (w : World) (b : Nat) (n : Nat) (f : Nat → UInt8) : Prop where
  lt : b < w.heap.size
  cell : ∀ j, j < n → w.cell? ⟨b, j, none⟩ = some (byteV (f j))
  free : ∀ j, j < n → w.frozen? ⟨b, j, none⟩ = false

/-- the bytes behind k exchanges -/
def turnF (n k : Nat) (f : Nat → UInt8) (t : Nat) : UInt8 := if t < k ∨ n - k ≤ t then f (n - 1 - t) else f t

theorem turnF_lo {n k : Nat} {f : Nat → UInt8} (h : 2 * k < n) : turnF n k f k = f k := by unfold turnF; rw [if_neg (by omega)]
theorem turnF_hi {n k : Nat} {f : Nat → UInt8} (h : 2 * k < n) : turnF n k f (n - 1 - k) = f (n - 1 - k) := by unfold turnF; rw [if_neg (by omega)]

set_option maxRecDepth 100000 in
set_option maxHeartbeats 1000000 in
theorem reverse_any (w : World) (b n cap : Nat) (f : Nat → UInt8) (hr : BRow w b n f) (hn : n ≤ 1000000000) :
    Calls Tryd.prog 63 #[.slice (some ⟨b, 0, none⟩) n cap] w fun e w' => e = .returned (.tuple #[]) ∧ BRow w' b n (fun t => f (n - 1 - t)) ∧ Fp [b] w w' := by
  have HR := Lib.hid hr
  clear hr
  go_enter Tryd.func63, Tryd.ntmps63
  go_wp2_with (fail)
  go_loopg [2, 3] n (fun g vi vj wr => ∃ k : Nat, g + k = n ∧ vi = .int .i64 k ∧ vj = .int .i64 ((n : Int) - 1 - k) ∧ 2 * k ≤ n ∧ BRow wr b n (turnF n k f) ∧ Fp [b] w wr)
  case atStart =>
    refine ⟨0, rfl, rfl, by simp, by omega, ⟨HR.out.lt, fun j hj => ?_, HR.out.free⟩, Fp.refl _ _⟩
    rw [HR.out.cell j hj]
    unfold turnF
    rw [if_neg (by omega)]
  case round =>
    obtain ⟨k, hg, rfl, rfl, hk2, hrow, hfp⟩ := hrel
    have HROW := Lib.hid hrow
    have HFP := Lib.hid hfp
    clear hfp
    by_cases hlt : k + 1 + k < n
    · obtain ⟨m, hm⟩ : ∃ m, m = n - 1 - k := ⟨_, rfl⟩
      have hmi : (n : Int) - 1 - k = (m : Int) := by omega
      have c1 : wr.cell? ⟨b, k, none⟩ = some (byteV (f k)) := by rw [hrow.cell k (by omega), turnF_lo (by omega)]
      have c2 : wr.cell? ⟨b, m, none⟩ = some (byteV (f m)) := by rw [hrow.cell m (by omega), hm, turnF_hi (by omega)]
      have f1 : wr.frozen? ⟨b, k, none⟩ = false := hrow.free k (by omega)
      have f2 : wr.frozen? ⟨b, m, none⟩ = false := hrow.free m (by omega)
      have hne : k ≠ m := by omega
      have hmn : m < n := by omega
      have hkm : k < m := by omega
      have hkn : k < n := by omega
      unfold byteV at c1 c2
      have HM := Lib.hid hm
      rw [hmi]
      have HMI := Lib.hid hmi
      clear hrow hm hmi
      have hkm1 : (k : Int) < (m : Int) := by omega
      go_wp2_with (fail)
      go_region
      go_wp2_with (fail)
      go_roundg (gk - 1)
      case measure => omega
      case rel =>
        refine ⟨k + 1, by omega, by go_num, ?_, by omega, ⟨?_, ?_, ?_⟩, ?_⟩
        · have := HMI.out
          congr 1
          omega
        · simpa [World.setCell] using HROW.out.lt
        · intro j hj
          have hc := HROW.out.cell j hj
          show ((wr.setCell ⟨b, k, none⟩ _).setCell ⟨b, m, none⟩ _).cell? ⟨b, j, none⟩ = _
          by_cases e1 : j = m
          · subst e1
            have c3 : (wr.setCell ⟨b, k, none⟩ (.int .u8 (f j).toNat)).cell? ⟨b, j, none⟩ = some (.int .u8 (f j).toNat) := by
              rw [World.cell?_setCell_other _ _ _ _ (fun e => hne (congrArg Addr.off e))]; exact c2
            rw [World.cell?_setCell_same _ _ _ c3]
            unfold turnF byteV
            rw [if_pos (by have := HM.out; omega), show n - 1 - j = k by have := HM.out; omega]
          · rw [World.cell?_setCell_other _ _ _ _ (fun e => e1 (congrArg Addr.off e).symm)]
            by_cases e2 : j = k
            · subst e2
              rw [World.cell?_setCell_same _ _ _ c1]
              unfold turnF byteV
              rw [if_pos (by omega), show n - 1 - j = m by have := HM.out; omega]
            · rw [World.cell?_setCell_other _ _ _ _ (fun e => e2 (congrArg Addr.off e).symm), hc]
              have hmm := HM.out
              unfold turnF
              by_cases e3 : j < k ∨ n - k ≤ j
              · rw [if_pos e3, if_pos (by omega)]
              · rw [if_neg e3, if_neg (by omega)]
        · intro j hj
          show ((wr.setCell ⟨b, k, none⟩ _).setCell ⟨b, m, none⟩ _).frozen? ⟨b, j, none⟩ = _
          rw [World.frozen?_setCell, World.frozen?_setCell]
          exact HROW.out.free j hj
        · exact (((HFP.out.setCell' (by simp) _).setCell' (by simp) _).drew')
    · have H : Hid (BRow wr b n (fun t => f (n - 1 - t))) := by
        refine ⟨HROW.out.lt, fun j hj => ?_, HROW.out.free⟩
        rw [HROW.out.cell j hj]
        unfold turnF
        by_cases e : j < k ∨ n - k ≤ j
        · rw [if_pos e]
        · rw [if_neg e, show n - 1 - j = j by omega]
      have hge : ¬ (k : Int) < (n : Int) - 1 - k := by omega
      clear hrow hlt
      go_wp2_with (fail)
      go_end0
      exact ⟨rfl, H.out, HFP.out⟩

/-- the bytes of a string, as a function -/
def atB (s : ByteArray) (j : Nat) : UInt8 := s.data.toList.getD j 0

theorem bytes_brow (w : World) (s : ByteArray) : ∃ cap W, (convert 9 46 (.string s)).run Tryd.prog w = .ok (.slice (some ⟨w.heap.size, 0, none⟩) s.size cap) W ∧ BRow W w.heap.size s.size (atB s) ∧ Fp [] w W := by
  have h := run_bytes_of_string (P := Tryd.prog) w 9 46 5 s Tryd.underlying9 Tryd.underlying46 Tryd.underlying5
  refine ⟨_, _, h, ?_, (Fp.drew w).alloc' _⟩
  have hb := heap_alloc_at (w := w.drew) (n := w.heap.size) rfl (.cells (bytesRow s (grownCap w s.size 0 5)) 5 ((bytesRow s (grownCap w s.size 0 5)).size, (bytesRow s (grownCap w s.size 0 5)).size + 1))
  refine ⟨heap_lt hb, fun j hj => ?_, fun j hj => ?_⟩
  · rw [cell_of_block hb, bytesRow_at s _ j hj]
    unfold byteV atB
    have : s.data.toList.getD j 0 = s.data[j] := by
      rw [List.getD_eq_getElem?_getD, List.getElem?_eq_getElem (by simpa using hj)]
      simp
    rw [this]
  · have hsz : s.size ≤ (bytesRow s (grownCap w s.size 0 5)).size := by
      unfold bytesRow
      simp only [Array.size_append, Array.size_map, Array.size_replicate]
      exact Nat.le_add_right _ _
    simp only [World.frozen?, hb]
    have : ¬ (bytesRow s (grownCap w s.size 0 5)).size ≤ j := by omega
    simp [this]

theorem str_of_brow {w : World} {b n cap : Nat} {f : Nat → UInt8} (h : BRow w b n f) : (convert 46 9 (.slice (some ⟨b, 0, none⟩) n cap)).run Tryd.prog w = .ok (.string ⟨((List.range n).map f).toArray⟩) w := by
  have := run_convert_bytes_back (P := Tryd.prog) w 46 9 5 ⟨b, 0, none⟩ cap ((List.range n).map f) Tryd.underlying46 Tryd.underlying5 Tryd.underlying9 (by
    intro j hj
    have hj' : j < n := by simpa using hj
    have e1 : (⟨b, 0, none⟩ : Addr).add j = ⟨b, j, none⟩ := by unfold Addr.add; split <;> simp_all
    rw [e1, h.cell j hj']
    simp [byteV])
  simpa using this

theorem atB_rev (s : ByteArray) : ((List.range s.size).map (fun t => atB s (s.size - 1 - t))) = s.data.toList.reverse := by
  apply List.ext_getElem
  · simp
  · intro i h1 h2
    have hi : i < s.data.toList.length := by simpa using h1
    have hi' : i < s.size := by simpa using h1
    simp only [List.getElem_map, List.getElem_range, List.getElem_reverse]
    unfold atB
    have hlen : s.data.toList.length = s.size := rfl
    rw [List.getD_eq_getElem?_getD, List.getElem?_eq_getElem (by omega)]
    simp only [Option.getD_some]
    congr 1

theorem turned_any (w : World) (s : ByteArray) (hs : s.size ≤ 1000000000) :
    Calls Tryd.prog 52 #[.string s] w fun e w' => e = .returned (.string ⟨s.data.toList.reverse.toArray⟩) ∧ Fp [] w w' := by
  obtain ⟨cap, W, hconv, hrow, hfp⟩ := bytes_brow w s
  have hrev := reverse_any W w.heap.size s.size cap (atB s) hrow hs
  have HREV := Lib.hid hrev
  have HFP := Lib.hid hfp
  clear hrow hfp hrev
  go_enter Tryd.func52, Tryd.ntmps52
  go_wp2_with (fail)
  refine HREV.out.mono ?_
  rintro e w2 ⟨rfl, hrow2, hf2⟩
  have hstr := str_of_brow (cap := cap) hrow2
  rw [atB_rev] at hstr
  have HF2 := Lib.hid (HFP.out.trans hf2 (by simp))
  clear hrow2 hf2
  go_wp2_with (fail)
  go_ret
  exact ⟨rfl, HF2.out⟩

set_option maxRecDepth 100000 in
theorem big_any (w : World) (base : Nat) (v : Value) (l : List UInt8) (n : Nat) (hown : Owned w base v l) (hb : base ≤ w.heap.size) (hl : l.length ≤ 1000000) (hn : n < 18446744073709551616) :
    Calls Tryd.prog 40 #[v, .int .u64 n] w fun e w' => ∃ v', e = .returned v' ∧ Owned w' base v' (l ++ be8 n) ∧ Below base w w' := by
  have hli := little_any w w.heap.size (.slice none 0 0) [] n (Owned.nil _ _) (Nat.le_refl _) (by simp) hn
  have HLI := Lib.hid hli
  have HO := Lib.hid hown
  clear hli hown hn
  go_enter Tryd.func40, Tryd.ntmps40
  go_wp2_with (fail)
  refine HLI.out.mono ?_
  rintro e w2 ⟨v2, rfl, ho2, hb2⟩
  have hstr := run_str_of ho2
  rw [List.nil_append] at hstr
  have hf2 : Fp [] w w2 := ⟨hb2.os, hb2.tape, hb2.output, hb2.size, fun k hk _ => hb2.block k hk⟩
  have HO2 := Lib.hid (HO.out.fp hf2)
  have HF2 := Lib.hid hf2
  clear ho2 hb2 hf2
  go_wp2_with (fail)
  refine (turned_any w2 _ (by show (le8 n).toArray.size ≤ _; simp [le8_length])).mono ?_
  rintro e w3 ⟨rfl, hf3⟩
  have HO3 := Lib.hid (HO2.out.fp hf3)
  have HF3 := Lib.hid (HF2.out.trans hf3 (by simp))
  have hbw : base ≤ w3.heap.size := by have := HF3.out.size; omega
  have hbs : l.length + (⟨(le8 n).reverse.toArray⟩ : ByteArray).size ≤ 1000000000 := by
    show l.length + (le8 n).reverse.toArray.size ≤ _
    simp [le8_length]; omega
  have HBS := Lib.hid hbs
  clear hf3 hstr hbs
  go_wp2_with (at_builtin; refine wpList_append_str rfl _ _ rfl base _ _ rfl HO3.out _ rfl HBS.out hbw ?_; intro v4 w4 hown4 hbel4)
  have HO4 := Lib.hid hown4
  have HB4 := Lib.hid hbel4
  clear hown4 hbel4
  go_wp2_with (fail)
  go_ret
  exact ⟨_, rfl, HO4.out, (HF3.out.below hb (by simp)).trans HB4.out⟩
end Go.Proofs.YtepffknhkpppcaaDoor
