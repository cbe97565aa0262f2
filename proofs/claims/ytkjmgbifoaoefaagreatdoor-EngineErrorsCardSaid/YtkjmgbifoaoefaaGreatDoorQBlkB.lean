/-
 A block's bytes (plain); whether some cell may not be; two bytes of a number.
-/
import Derived.Test.YtkjmgbifoaoefaaGreatDoorQBlkS
import Derived.Test.YtkjmgbifoaoefaaGreatDoorQBuild
import Derived.Test.YtkjmgbifoaoefaaGreatDoorQBytes
import Derived.Test.YtkjmgbifoaoefaaGreatDoorQCellLaw6
set_option maxRecDepth 100000
set_option maxHeartbeats 8000000
namespace Go.Proofs.YtkjmgbifoaoefaaGreatDoor
open Go.RowKit Go.Lib
def two (n : Nat) : List UInt8 := [UInt8.ofNat n, UInt8.ofNat (n / 256)]
def entL (last : List UInt8) (c : Cel) : List UInt8 :=
 two (shareL last (keyL c)) ++ two ((keyL c).length - shareL last (keyL c)) ++ (keyL c).drop (shareL last (keyL c)) ++ [delN c.del, UInt8.ofNat c.val.size] ++ c.val.data.toList
def lastAt (i : Nat) (last : List UInt8) : List UInt8 := if i % 4 = 0 then [] else last
def bodyL : Nat → List UInt8 → List Cel → List UInt8
 |_, _, [] => []
 |i, last, c :: r => entL (lastAt i last) c ++ bodyL (i + 1) (keyL c) r
def buildP (l : List Cel) : ByteArray × Nat :=
 if l.length > 255 then (⟨#[]⟩, 71) else if l.all mayB = false then (⟨#[]⟩, 1) else if risC l = false then (⟨#[]⟩, 40) else (bl (UInt8.ofNat l.length :: bodyL 0 [] l), 0)
theorem esc_le : ∀ l : List UInt8, (esc l).length ≤ 2 * l.length
 |[] => Nat.le_refl _
 |x :: l => by
  have := esc_le l
  have h2 := esc_append [x] l
  have h1 : (esc [x]).length ≤ 2 := by
   by_cases e : x = 0
   ·subst e; decide
   ·have : esc [x] = [x] := by simp [esc, e]
    rw [this]; exact Nat.le_succ 1
  show (esc ([x] ++ l)).length ≤ _
  rw [h2, List.length_append, List.length_cons]
  omega
theorem keyL_length (c : Cel) : (keyL c).length ≤ 2 * c.row.size + 2 * c.col.size + 20 := by
 have h1 := esc_le c.row.data.toList
 have h2 := esc_le c.col.data.toList
 have e1 : c.row.data.toList.length = c.row.size := rfl
 have e2 : c.col.data.toList.length = c.col.size := rfl
 unfold keyL
 simp only [List.length_append, List.length_cons, be8_length]
 omega
theorem may_sizes {c : Cel} (h : mayB c = true) : c.row.size ≤ 40 ∧ c.col.size ≤ 40 ∧ c.val.size ≤ 100 := by
 unfold mayB nmB at h
 simp only [Bool.and_eq_true, decide_eq_true_eq] at h
 exact ⟨h.1.1.1.2, h.1.1.2.2, h.1.2⟩
theorem key_short {c : Cel} (h : mayB c = true) : (keyL c).length ≤ 180 := by
 have := keyL_length c
 have := may_sizes h
 omega
theorem wrong_any (c : Cel) (w : World) (hc : CelOK c) : Calls Tryz.prog 157 #[cellV c] w fun e w' => e = .returned (.bool (!mayB c)) ∧ Fp [] w w' := by
 have HM := Lib.hid (fun w => may_any c w hc)
 obtain ⟨m, hm⟩ : ∃ m, mayB c = m := ⟨_, rfl⟩
 rw [hm] at HM
 rw [hm]
 clear hm
 obtain ⟨row, col, ts, seq, del, val⟩ := c
 rw [show cellV (⟨row, col, ts, seq, del, val⟩ : Cel) = .agg #[.string row, .string col, .int .u64 ts, .int .u64 seq, .bool del, .string val] from rfl] at *
 go_enter Tryz.func157, Tryz.ntmps157
 go_wp2_with (fail)
 (with_reducible refine (HM.out _).mono ?_)
 rintro e w1 ⟨rfl, hf⟩
 have HF : Hid (Fp [] w w1) := (Fp.alloc w _).trans hf (by simp)
 clear hf
 go_wp2_with (fail)
 go_ret
 exact ⟨rfl, HF.out⟩
theorem index_any (w : World) (a : Option Addr) (len cap : Nat) (l : List Cel) (hl : CelsAt w a len l) (hn : len ≤ 9223372036854775807) :
  Calls Tryz.prog 69 #[.slice a len cap, .func (.func 157) #[] #[]] w fun e w' => (∃ r : Int, e = .returned (.int .i64 r) ∧ decide (r ≥ 0) = !l.all mayB) ∧ Fp [] w w' := by
 have HL := Lib.hid hl
 have HLEN := Lib.hid hl.len
 have HW := Lib.hid (fun c w h => wrong_any c w h)
 clear hl
 go_enter Tryz.func69, Tryz.ntmps69
 go_wp2_with (fail)
 go_loopg [8] len (fun g vi wr => ∃ k : Nat, g + k = len ∧ vi = .int .i64 k ∧ Fp [] w wr ∧ ∀ i (hi : i < l.length), i < k → mayB l[i] = true)
 case atStart => exact ⟨0, rfl, rfl, Fp.refl _ _, by intro i _ h; omega⟩
 case round =>
  obtain ⟨k, hg, rfl, hf, hall⟩ := hrel
  have HF := Lib.hid hf
  have HALL := Lib.hid hall
  clear hf hall
  by_cases hk : k < len
  ·have hkl : k < l.length := by rw [← HLEN.out]; exact hk
   obtain ⟨b1, o1, rfl, hb1, hcells⟩ := cels_get HL.out hkl
   obtain ⟨c, hc⟩ : ∃ c, l[k] = c := ⟨_, rfl⟩
   have hcm : c ∈ l := by rw [← hc]; exact List.getElem_mem hkl
   have HOK := Lib.hid (HL.out.ok c hcm)
   have HNO : Hid (mayB c = false → l.all mayB = false) := fun h => by
    rw [List.all_eq_false]
    exact ⟨c, hcm, by simp [h]⟩
   have HYES : Hid (mayB c = true → ∀ i (hi : i < l.length), i < k + 1 → mayB l[i] = true) := fun h i hi hik => by
    by_cases e : i = k
    ·subst e; rw [hc]; exact h
    ·exact HALL.out i hi (by omega)
   rw [hc] at hcells
   obtain ⟨q0, q1, q2, q3, q4, q5⟩ := hcells wr HF.out
   clear hcells hc hcm
   have HWC := Lib.hid (fun w => HW.out c w HOK.out)
   obtain ⟨m, hm⟩ : ∃ m, mayB c = m := ⟨_, rfl⟩
   rw [hm] at HNO HYES HWC
   clear hm
   obtain ⟨row, col, ts, seq, del, val⟩ := c
   rw [show cellV (⟨row, col, ts, seq, del, val⟩ : Cel) = .agg #[.string row, .string col, .int .u64 ts, .int .u64 seq, .bool del, .string val] from rfl] at HWC
   go_wp2_with (fail)
   (with_reducible refine (HWC.out _).mono ?_)
   rintro e w2 ⟨rfl, hf⟩
   have HF2 := Lib.hid (HF.out.trans hf (by simp))
   clear hf
   cases m
   ·have HA := Lib.hid (HNO.out rfl)
    go_wp2_with (fail)
    go_ret
    exact ⟨⟨k, rfl, by rw [HA.out, decide_eq_true (by omega)]; rfl⟩, HF2.out⟩
   ·have HA := Lib.hid (HYES.out rfl)
    go_wp2_with (fail)
    go_roundg (gk - 1)
    case measure => omega
    case rel => exact ⟨k + 1, by omega, by simp, HF2.out, HA.out⟩
  ·have HA : Hid (l.all mayB = true) := by
    unfold Hid
    rw [List.all_eq_true]
    intro x hx
    obtain ⟨i, hi, rfl⟩ := List.getElem_of_mem hx
    exact HALL.out i hi (by have := HLEN.out; omega)
   go_wp2_with (fail)
   go_ret
   exact ⟨⟨-1, rfl, by rw [HA.out]; rfl⟩, HF.out⟩
theorem contains_any (w : World) (a : Option Addr) (len cap : Nat) (l : List Cel) (hl : CelsAt w a len l) (hn : len ≤ 9223372036854775807) :
  Calls Tryz.prog 25 #[.slice a len cap, .func (.func 157) #[] #[]] w fun e w' => e = .returned (.bool (!l.all mayB)) ∧ Fp [] w w' := by
 have H := Lib.hid (index_any w a len cap l hl hn)
 clear hl
 go_enter Tryz.func25, Tryz.ntmps25
 go_wp2_with (fail)
 (with_reducible refine H.out.mono ?_)
 rintro e w1 ⟨⟨r, rfl, hr⟩, hf⟩
 have HF := Lib.hid hf
 have HR := Lib.hid hr
 clear hf hr
 go_wp2_with (fail)
 go_ret
 exact ⟨ret_bool HR.out, HF.out⟩
theorem liesW : liesAt Tryz.prog Tryz.prog.depth 226 (2 / Tryz.prog.cellsOf 226) 0 69 1 = true := by kernel_rfl
theorem ofNat_u8 (n : Nat) : IntKind.u8.wrap (n : Int) = ((UInt8.ofNat n).toNat : Int) := by
 rw [IntKind.wrap_u8, UInt8.toNat_ofNat']
 omega
theorem two_any (B b : Nat) (l : List UInt8) (n : Nat) (w : World) (h : BAt 226 B b l w) (hlen : l.length + 2 ≤ 1000000000) (_hn : n ≤ 1000000) :
  Calls Tryz.prog 160 #[.pointer (some ⟨b, 0, none⟩), .int .i64 n] w fun e w' => e = .returned (.tuple #[]) ∧ BAt 226 B b (l ++ two n) w' ∧ BFp B b w w' := by
 have HB := Lib.hid h
 have HW := Lib.hid (fun l c w h1 h2 => writeByte_any liesW (show 226 ≠ 5 by decide) B b l c w h1 h2)
 have z1 := ofNat_u8 n
 have z2 := ofNat_u8 (n / 256)
 have z3 : (n : Int) / 256 = ((n / 256 : Nat) : Int) := by omega
 obtain ⟨c1, hc1⟩ : ∃ c, UInt8.ofNat n = c := ⟨_, rfl⟩
 obtain ⟨c2, hc2⟩ : ∃ c, UInt8.ofNat (n / 256) = c := ⟨_, rfl⟩
 have HT : Hid (two n = [c1] ++ [c2]) := by unfold Hid two; rw [hc1, hc2]; rfl
 obtain ⟨d, hd⟩ : ∃ d, n / 256 = d := ⟨_, rfl⟩
 rw [hc1] at z1
 rw [hc2, hd] at z2
 rw [hd] at z3
 clear h hc1 hc2 hd
 go_enter Tryz.func160, Tryz.ntmps160
 go_wp2_with (fail)
 (with_reducible refine (HW.out l c1 _ HB.out (by omega)).mono ?_)
 rintro e w1 ⟨rfl, hb1, hf1⟩
 have HB1 := Lib.hid hb1
 have HF1 := Lib.hid hf1
 clear hb1 hf1
 go_wp2_with (fail)
 (with_reducible refine (HW.out (l ++ [c1]) c2 _ HB1.out (by rw [List.length_append, List.length_singleton]; omega)).mono ?_)
 rintro e w2 ⟨rfl, hb2, hf2⟩
 have HB2 := Lib.hid hb2
 have HF2 := Lib.hid (HF1.out.trans hf2)
 clear hb2 hf2
 go_wp2_with (fail)
 go_end0
 exact ⟨rfl, by rw [HT.out, ← List.append_assoc]; exact HB2.out, HF2.out⟩
end Go.Proofs.YtkjmgbifoaoefaaGreatDoor
