/-
 Numbers in words, plain: a row of at most nine digits. script: the number of a word; the document's. ScriptWords: the walk. What every law's frame needs: integers' bounds. What every card's frame needs at this seat: cells that came in; the world's shape handed on. A slice of cells that came in. What every Table law's frame needs: the laid variables handed on; the table of four bits among them.
-/
import Derived.Lib.SlTrimSet
import Derived.Lib.ParseIntB
import Derived.Test.YtigajcabgaddgaaGreatDoorWMem
import Derived.Test.YtigajcabgaddgaaGreatDoorRows
import Derived.Test.YtigajcabgaddgaaGreatDoorWShelf
import Derived.Shelf.Strings.SlTrimAscii
import Derived.Test.YtigajcabgaddgaaGreatDoorWScrT
import Derived.ProofKit
import Derived.OpenShut
import Derived.ShutString
import Derived.ChangeOld
import Derived.SliceStrings
import Derived.Test.YtigajcabgaddgaaGreatDoorWTieD
import Derived.Test.YtigajcabgaddgaaGreatDoorCards
import Derived.Test.YtigajcabgaddgaaGreatDoorWCellPure
import Derived.Handed
import Derived.LaidMore
import Derived.Lay
import Derived.Stop.Joined
import Derived.Shelf.Vars
import Derived.Test.YtigajcabgaddgaaGreatDoorWCels
import Derived.Deep.Slices
import Derived.Deep.Fields
import Derived.ChangeSame
import Derived.Stop.LaidErr
import Derived.Lib.LaidTab
set_option maxRecDepth 100000
set_option maxHeartbeats 8000000
namespace Go.Proofs.YtigajcabgaddgaaGreatDoor
section
open Go.Lib
def digB (c : UInt8) : Bool := decide (48 ≤ c.toNat) && decide (c.toNat ≤ 57)
def digV (acc : Nat) : List UInt8 → Nat
 |[] => acc
 |c :: r => digV (acc * 10 + (c.toNat - 48)) r
def numOk (s : ByteArray) : Bool := decide (1 ≤ s.size) && (decide (s.size ≤ 9) && s.data.toList.all digB)
def numV (s : ByteArray) : Nat := bif numOk s then digV 0 s.data.toList else 0
def digits : ByteArray := ⟨#[48, 49, 50, 51, 52, 53, 54, 55, 56, 57]⟩
theorem digits_has (c : UInt8) : digits.data.toList.contains c = digB c := by
 have hn : ∀ n : Nat, n < 256 → ([48, 49, 50, 51, 52, 53, 54, 55, 56, 57] : List Nat).contains n = (decide (48 ≤ n) && decide (n ≤ 57)) := by decide +kernel
 have h1 := hn c.toNat c.toNat_lt
 unfold digB
 rw [← h1, Bool.eq_iff_iff]
 show (([48, 49, 50, 51, 52, 53, 54, 55, 56, 57] : List UInt8).contains c = true) ↔ _
 rw [List.contains_iff_mem, List.contains_iff_mem]
 have hi : ∀ a : UInt8, c = a ↔ c.toNat = a.toNat := fun a => ⟨fun h => by rw [h], fun h => UInt8.toNat_inj.1 h⟩
 simp only [List.mem_cons, List.not_mem_nil, or_false]
 rw [hi, hi, hi, hi, hi, hi, hi, hi, hi, hi]
 exact Iff.rfl
theorem drop_nil {α : Type} {p : α → Bool} : ∀ {l : List α}, l.dropWhile p = [] ↔ l.all p = true
 |[] => by simp
 |a :: l => by
  rw [List.dropWhile_cons, List.all_cons]
  cases h : p a with
  |true => simpa using drop_nil (l := l)
  |false => simp
theorem trim_nil (l cs : List UInt8) : trimS l cs = [] ↔ l.all (cs.contains ·) = true := by
 unfold trimS trimLeftS trimRightS
 rw [drop_nil, List.all_reverse]
 constructor
 ·intro h
  have h2 : (l.reverse.dropWhile (cs.contains ·)) = [] := by
   cases e : l.reverse.dropWhile (cs.contains ·) with
   |nil => rfl
   |cons a r =>
    exfalso
    have h3 := List.head_dropWhile_not (cs.contains ·) (w := by rw [e]; simp)
    rw [e] at h
    simp only [List.all_cons, Bool.and_eq_true] at h
    simp only [e, List.head_cons] at h3
    rw [h.1] at h3
    cases h3
  rw [drop_nil, List.all_reverse] at h2
  exact h2
 ·intro h
  have h2 : (l.reverse.dropWhile (cs.contains ·)) = [] := drop_nil.2 (by rw [List.all_reverse]; exact h)
  rw [h2]
  rfl
theorem all_digits (l : List UInt8) : l.all (digits.data.toList.contains ·) = l.all digB := by
 congr 1
 funext c
 exact digits_has c
theorem parse_digits {M : Nat} (hM : 1000000000000000000 ≤ M) : ∀ (l : List UInt8) (acc : Nat), l.all digB = true → (acc + 1) * 10 ^ l.length ≤ 1000000000000000000 → parseUintM M acc l = .ok (digV acc l)
 |[], acc, _, _ => rfl
 |c :: l, acc, h, hb => by
  rw [List.all_cons, Bool.and_eq_true] at h
  have hc := h.1
  unfold digB at hc
  rw [Bool.and_eq_true, decide_eq_true_eq, decide_eq_true_eq] at hc
  have hp : 1 ≤ 10 ^ l.length := Nat.one_le_pow _ _ (by omega)
  rw [List.length_cons, Nat.pow_succ] at hb
  have h1 : (acc + 1) * 10 ≤ (acc + 1) * 10 * 10 ^ l.length := Nat.le_mul_of_pos_right _ (by omega)
  have h2 : (acc + 1) * 10 * 10 ^ l.length = (acc + 1) * (10 ^ l.length * 10) := by rw [Nat.mul_assoc, Nat.mul_comm 10]
  have h3 : (acc * 10 + (c.toNat - 48) + 1) * 10 ^ l.length ≤ (acc + 1) * 10 * 10 ^ l.length := Nat.mul_le_mul_right _ (by omega)
  unfold parseUintM
  rw [if_pos hc, if_neg (by omega), if_neg (by omega), parse_digits hM l _ h.2 (by omega)]
  rfl
theorem num_parts {s : ByteArray} (h : numOk s = true) : 1 ≤ s.size ∧ s.size ≤ 9 ∧ s.data.toList.all digB = true := by
 unfold numOk at h
 rw [Bool.and_eq_true, Bool.and_eq_true, decide_eq_true_eq, decide_eq_true_eq] at h
 exact ⟨h.1, h.2.1, h.2.2⟩
theorem num_parse {s : ByteArray} (h : numOk s = true) : parseUintB 64 s.data.toList = .ok (numV s) := by
 obtain ⟨h1, h2, h3⟩ := num_parts h
 have hl : s.data.toList.length = s.size := by simp
 unfold parseUintB numV
 rw [h, if_neg (fun e => by rw [e] at hl; simp at hl; omega)]
 refine parse_digits (by decide) _ _ h3 ?_
 rw [hl]
 have := Nat.pow_le_pow_right (n := 10) (by decide) h2
 omega
def digTo (acc : Nat) : List UInt8 → Option Nat
 |[] => some acc
 |c :: r => bif digB c then digTo (acc * 10 + (c.toNat - 48)) r else none
theorem digTo_all : ∀ (l : List UInt8) (acc : Nat), digTo acc l = bif l.all digB then some (digV acc l) else none
 |[], _ => rfl
 |c :: l, acc => by
  unfold digTo
  rw [digTo_all l, List.all_cons]
  cases digB c <;> rfl
end
section
open Go.RowKit Go.Lib
theorem snumber_any (s : ByteArray) (w : World) (hs : s.size ≤ 1000000) :
  Calls Tryz.prog 5 #[.string s] w fun e w' => e = .returned (.tuple #[.int .u64 (numV s : Nat), .bool (numOk s)]) ∧ Fp [] w w' := by
 by_cases h1 : s.size < 1
 ·have z1 : (s.size : Int) < 1 := by omega
  have hn : numOk s = false := by unfold numOk; rw [show decide (1 ≤ s.size) = false from decide_eq_false (by omega)]; rfl
  have hv : numV s = 0 := by unfold numV; rw [hn]; rfl
  have HN := Lib.hid hn
  have HV := Lib.hid hv
  clear hn hv
  go_enter Tryz.func5, Tryz.ntmps5
  go_wp2_with (fail)
  go_ret2
  rw [HN.out, HV.out]
  exact ⟨rfl, Fp.refl _ _⟩
 by_cases h9 : 9 < s.size
 ·have z1 : ¬ (s.size : Int) < 1 := by omega
  have z2 : (9 : Int) < s.size := by omega
  have hn : numOk s = false := by unfold numOk; rw [show decide (s.size ≤ 9) = false from decide_eq_false (by omega)]; simp
  have hv : numV s = 0 := by unfold numV; rw [hn]; rfl
  have HN := Lib.hid hn
  have HV := Lib.hid hv
  clear hn hv
  go_enter Tryz.func5, Tryz.ntmps5
  go_wp2_with (fail)
  go_ret2
  rw [HN.out, HV.out]
  exact ⟨rfl, Fp.refl _ _⟩
 have z1 : ¬ (s.size : Int) < 1 := by omega
 have z2 : ¬ (9 : Int) < s.size := by omega
 have HA := Lib.hid (trim_nil s.data.toList digits.data.toList)
 obtain ⟨t, ht⟩ : ∃ t : ByteArray, (⟨(trimS s.data.toList digits.data.toList).toArray⟩ : ByteArray) = t := ⟨_, rfl⟩
 have HT : Hid (∀ w, Calls Tryz.prog 9 #[.string s, .string ⟨#[48, 49, 50, 51, 52, 53, 54, 55, 56, 57]⟩] w fun e w' => e = .returned (.string t) ∧ Below w.heap.size w w') := by
  intro w
  rw [← ht]
  exact Any.strings_Trim_laid Tryz.lays160 (by kernel_rfl) s digits w (by omega) (by decide) (ascii_of_all (by decide))
 have HE : Hid (t.size = 0 ↔ s.data.toList.all digB = true) := by
  show t.size = 0 ↔ _
  rw [← all_digits, ← HA.out, ← ht]
  show (trimS s.data.toList digits.data.toList).toArray.size = 0 ↔ _
  rw [List.size_toArray, List.length_eq_zero_iff]
 clear ht HA
 cases hd : s.data.toList.all digB with
 |true =>
  have hn : numOk s = true := by unfold numOk; rw [hd, decide_eq_true (show 1 ≤ s.size by omega), decide_eq_true (show s.size ≤ 9 by omega)]; rfl
  have ht0 : t.size = 0 := HE.out.2 hd
  obtain rfl : t = ⟨#[]⟩ := by
   apply ByteArray.ext
   exact Array.eq_empty_of_size_eq_zero ht0
  have HP := Lib.hid fun w => Tryz.strconv_ParseUint_10_at64_ok s (by omega) (numV s) (num_parse hn) w
  have HN := Lib.hid hn
  clear ht0 HE hd hn
  go_enter Tryz.func5, Tryz.ntmps5
  go_wp2_with (fail)
  (with_reducible refine (HT.out _).mono ?_)
  rintro e w1 ⟨rfl, hb⟩
  have HF := Lib.hid (Below.toFp hb)
  clear hb
  go_wp2_with (fail)
  (with_reducible refine (HP.out _).mono ?_)
  rintro e w2 ⟨rfl, hb⟩
  have HF2 := Lib.hid (HF.out.trans (show Fp [] w1 w2 from by rcases hb with rfl | rfl; exact Fp.refl _ _; exact ⟨rfl, rfl, rfl, by rw [Lib.bytesWorld_size]; omega, fun k hk _ => Lib.bytesWorld_at_old _ _ _ k hk⟩) (by simp))
  clear hb
  go_wp2_with (fail)
  go_region
  go_wp2_with (fail)
  go_ret2
  rw [HN.out]
  exact ⟨rfl, HF2.out.drew'⟩
 |false =>
  have hn : numOk s = false := by unfold numOk; rw [hd]; simp
  have hv : numV s = 0 := by unfold numV; rw [hn]; rfl
  have ht0 : t.toList.isEmpty = false := by
   rw [Bool.eq_false_iff]
   intro h
   have h2 := HE.out.1 (by rw [ByteArray.toList_eq, List.isEmpty_iff] at h; have h3 := congrArg List.length h; simpa using h3)
   rw [hd] at h2
   cases h2
  have HN := Lib.hid hn
  have HV := Lib.hid hv
  clear hn hv
  clear HE hd
  go_enter Tryz.func5, Tryz.ntmps5
  go_wp2_with (fail)
  (with_reducible refine (HT.out _).mono ?_)
  rintro e w1 ⟨rfl, hb⟩
  have HF := Lib.hid (Below.toFp hb)
  clear hb
  go_wp2_with (fail)
  go_ret2
  rw [HN.out, HV.out]
  exact ⟨rfl, HF.out⟩
theorem digTo_at {s : ByteArray} {k : Nat} (hk : k < s.size) (acc : Nat) : digTo acc (s.data.toList.drop k) = bif digB s[k] then digTo (acc * 10 + (s[k].toNat - 48)) (s.data.toList.drop (k + 1)) else none := by
 have hl : k < s.data.toList.length := by simpa using hk
 rw [List.drop_eq_getElem_cons hl]
 have : s.data.toList[k] = s[k] := by simp; rfl
 rw [this]
 rfl
theorem rnumber_any (s : ByteArray) (w : World) (hs : s.size ≤ 1000000) :
  Calls Tryz.prog 6 #[.string s] w fun e w' => e = .returned (.tuple #[.int .u64 (numV s : Nat), .bool (numOk s)]) ∧ Fp [] w w' := by
 by_cases h1 : s.size < 1
 ·have z1 : (s.size : Int) < 1 := by omega
  have hn : numOk s = false := by unfold numOk; rw [show decide (1 ≤ s.size) = false from decide_eq_false (by omega)]; rfl
  have hv : numV s = 0 := by unfold numV; rw [hn]; rfl
  have HN := Lib.hid hn
  have HV := Lib.hid hv
  clear hn hv
  go_enter Tryz.func6, Tryz.ntmps6
  go_wp2_with (fail)
  go_ret2
  rw [HN.out, HV.out]
  exact ⟨rfl, Fp.refl _ _⟩
 by_cases h9 : 9 < s.size
 ·have z1 : ¬ (s.size : Int) < 1 := by omega
  have z2 : (9 : Int) < s.size := by omega
  have hn : numOk s = false := by unfold numOk; rw [show decide (s.size ≤ 9) = false from decide_eq_false (by omega)]; simp
  have hv : numV s = 0 := by unfold numV; rw [hn]; rfl
  have HN := Lib.hid hn
  have HV := Lib.hid hv
  clear hn hv
  go_enter Tryz.func6, Tryz.ntmps6
  go_wp2_with (fail)
  go_ret2
  rw [HN.out, HV.out]
  exact ⟨rfl, Fp.refl _ _⟩
 have z1 : ¬ (s.size : Int) < 1 := by omega
 have z2 : ¬ (9 : Int) < s.size := by omega
 have HD : Hid (digTo 0 s.data.toList = bif numOk s then some (numV s) else none) := by
  show _ = _
  have e : numOk s = s.data.toList.all digB := by unfold numOk; rw [decide_eq_true (show 1 ≤ s.size by omega), decide_eq_true (show s.size ≤ 9 by omega)]; rfl
  rw [digTo_all]
  unfold numV
  rw [e]
  cases s.data.toList.all digB <;> rfl
 go_enter Tryz.func6, Tryz.ntmps6
 go_wp2_with (fail)
 go_loopg [4, 5] s.size (fun g vn vi wr => ∃ k acc : Nat, g + k = s.size ∧ vn = .int .u64 (acc : Nat) ∧ vi = .int .i64 k ∧ Fp [] w wr ∧ acc < 10 ^ k ∧ digTo acc (s.data.toList.drop k) = digTo 0 s.data.toList)
 case atStart => exact ⟨0, 0, by omega, rfl, rfl, Fp.refl _ _, by decide, rfl⟩
 case round =>
  obtain ⟨k, acc, hg, rfl, rfl, hf, ha, hd⟩ := hrel
  have HF := Lib.hid hf
  have HE := Lib.hid (hd.trans HD.out)
  have HA := Lib.hid ha
  clear hf hd ha
  by_cases hk : k < s.size
  ·have i1 : (k : Int) < (s.size : Int) := by omega
   have hb := s[k].toNat_lt
   have ha2 : acc < 1000000000 := Nat.lt_of_lt_of_le HA.out (Nat.pow_le_pow_right (n := 10) (by decide) (show k ≤ 9 by omega))
   have HT := Lib.hid (digTo_at hk acc)
   by_cases q1 : s[k].toNat < 48
   ·have HB : Hid (digB s[k] = false) := by show digB _ = _; unfold digB; rw [decide_eq_false (show ¬ 48 ≤ s[k].toNat by omega)]; rfl
    have i2 : (s[k].toNat : Int) < 48 := by omega
    go_wp2_with (fail)
    go_ret2
    have e := HT.out.symm.trans HE.out
    rw [HB.out] at e
    cases hn : numOk s with
    |true => rw [hn] at e; cases e
    |false =>
     have hv : numV s = 0 := by unfold numV; rw [hn]; rfl
     rw [hv]
     exact ⟨rfl, HF.out⟩
   by_cases q2 : 57 < s[k].toNat
   ·have HB : Hid (digB s[k] = false) := by show digB _ = _; unfold digB; rw [decide_eq_false (show ¬ s[k].toNat ≤ 57 by omega)]; simp
    have i2 : ¬ (s[k].toNat : Int) < 48 := by omega
    have i3 : (57 : Int) < (s[k].toNat : Int) := by omega
    go_wp2_with (fail)
    go_ret2
    have e := HT.out.symm.trans HE.out
    rw [HB.out] at e
    cases hn : numOk s with
    |true => rw [hn] at e; cases e
    |false =>
     have hv : numV s = 0 := by unfold numV; rw [hn]; rfl
     rw [hv]
     exact ⟨rfl, HF.out⟩
   ·have HB : Hid (digB s[k] = true) := by show digB _ = _; unfold digB; rw [decide_eq_true (show 48 ≤ s[k].toNat by omega), decide_eq_true (show s[k].toNat ≤ 57 by omega)]; rfl
    have i2 : ¬ (s[k].toNat : Int) < 48 := by omega
    have i3 : ¬ (57 : Int) < (s[k].toNat : Int) := by omega
    have HP : Hid (acc * 10 + (s[k].toNat - 48) < 10 ^ (k + 1)) := by show _ < _; have := HA.out; rw [Nat.pow_succ]; omega
    go_wp2_with (fail)
    go_roundg (gk - 1)
    case measure => omega
    case rel => exact ⟨k + 1, acc * 10 + (s[k].toNat - 48), by omega, by congr 1; omega, by simp, HF.out, HP.out, by
     have e := HT.out
     rw [HB.out] at e
     exact e.symm.trans (HE.out.trans HD.out.symm)⟩
  ·obtain rfl : k = s.size := by omega
   have i1 : ¬ ((s.size : Nat) : Int) < (s.size : Int) := by omega
   have e := HE.out
   rw [List.drop_of_length_le (by simp)] at e
   have he : numOk s = true ∧ numV s = acc := by
    cases hn : numOk s with
    |false => rw [hn] at e; cases e
    |true => rw [hn] at e; exact ⟨rfl, (Option.some.inj e).symm⟩
   have HN := Lib.hid he
   clear he e
   go_wp2_with (fail)
   go_ret2
   rw [HN.out.1, HN.out.2]
   exact ⟨rfl, HF.out⟩
end
section
open Go.RowKit
theorem scriptwords_law (w : World) (s : ByteArray) (_ : s.size ≤ 9223372036854775807) (hm : MaxAt w) (ht : TabAt w) :
  Calls Tryz.prog 3 #[.string s] w fun e w' => e = .returned (.bool true) ∧ Fp [] w w' := by
 have htl : 6 < w.heap.size := World.block_lt_of_cell? _ _ (ht 0 (by omega))
 have hml : 4 < w.heap.size := by
  obtain ⟨m, hm⟩ := hm
  exact World.block_lt_of_cell? _ _ hm
 have HS : Hid (∀ W, Fp [] w W → Calls Tryz.prog 4 #[] W fun e w' => e = .returned (.bool true) ∧ Fp [] W w') := fun W hf => shown22 W (hm.fp hf (by simp)) (ht.fp hf (by simp)) (Nat.lt_of_lt_of_le htl hf.size) (Nat.lt_of_lt_of_le hml hf.size)
 clear hm ht htl hml
 by_cases h2 : 200 < s.size
 ·have z : (200 : Int) < (s.size : Int) := by omega
  go_enter Tryz.func3, Tryz.ntmps3
  go_wp2_with (fail)
  (with_reducible refine (HS.out _ (Fp.refl _ _)).mono ?_)
  rintro e w1 ⟨rfl, hf⟩
  have HF := Lib.hid hf
  clear hf
  go_wp2_with (fail)
  go_ret
  exact ⟨rfl, HF.out⟩
 ·have z : ¬ (200 : Int) < (s.size : Int) := by omega
  have HN := Lib.hid fun W => snumber_any s W (by omega)
  have HR := Lib.hid fun W => rnumber_any s W (by omega)
  obtain ⟨n, hn⟩ : ∃ n, numV s = n := ⟨_, rfl⟩
  obtain ⟨b, hb⟩ : ∃ b, numOk s = b := ⟨_, rfl⟩
  rw [hn, hb] at HN HR
  clear hn hb
  go_enter Tryz.func3, Tryz.ntmps3
  go_wp2_with (fail)
  (with_reducible refine (HS.out _ (Fp.refl _ _)).mono ?_)
  rintro e w1 ⟨rfl, hf⟩
  have HF := Lib.hid hf
  clear hf
  go_wp2_with (fail)
  (with_reducible refine (HN.out _).mono ?_)
  rintro e w2 ⟨rfl, hf⟩
  have HF2 := Lib.hid (HF.out.trans hf (by simp))
  clear hf
  go_wp2_with (fail)
  (with_reducible refine (HR.out _).mono ?_)
  rintro e w3 ⟨rfl, hf⟩
  have HF3 := Lib.hid (HF2.out.trans hf (by simp))
  clear hf
  go_wp2_with (fail)
  go_ret
  exact ⟨by simp, HF3.out⟩
end
section
section
open Go.ChangeShapes Go.WideShapes Go.ChangeAt Go.RowKit
open Go.ChangeMaps (open_string shut_string)
theorem own : ownKnob Tryz.prog.godebug = none := by kernel_rfl
theorem Fp.toBelow {w w' : World} (h : Fp [] w w') : Below w.heap.size w w' := h.below (Nat.le_refl _) (by simp)
end
section
open Go.ChangeShapes Go.WideShapes Go.ChangeAt Go.RowKit
theorem max_of_shape {w : World} (h : w.ShapedOpen Tryz.prog) : MaxAt w :=
 cell_of_shapedOpen_int (P := Tryz.prog) (g := 4) (t := 3) (zero := #[.int .i64 0]) h (of_decide_eq_true (by kernel_rfl)) (by kernel_rfl) (by kernel_rfl) (by kernel_rfl) (by kernel_rfl) Tryz.underlying3
section
variable {H : Type} {enc : TypeId × Value → H}
end
end
end
section
section
open Go.RowKit Go.ChangeShapes Go.WideShapes Go.Deep
end
section
open Go.ChangeShapes Go.WideShapes Go.ChangeAt Go.RowKit Go.Lib
section
variable {H : Type} {enc : TypeId × Value → H}
theorem returns_laid {a : Assume} {C : Checked} {os : Os} {f : FuncId} {fn : Func} {s : ChangeSpec} {conds : List PathCond} {apart fresh handsOn again : Bool} {X : World → Array Value → Prop}
  (own : ownKnob C.prog.godebug = none) (started : os.Started) (noInit : C.prog.inits.idxOf? f = none) (hfn : C.prog.funcs[f]? = some fn)
  (witness : ∃ (w : World) (tape : Tape) (i : Input), w.os = os ∧ (w.forCall tape i).Shaped C.prog ∧ i.vars = [] ∧ Input.okWide C.prog (w.forCall tape i) .any w.heap.size f i ∧
   ((s.pre enc C.prog fn conds apart (w.forCall tape i).memory i.args ∧ X (w.forCall tape i).memory i.args) ∧ sizedMet enc C.prog fn (OpenSpec.ofChange s) apart (w.forCall tape i).memory i.args) ∧ a.holds C.prog (lone (Frame.enter C.prog f i.args .normal) [] (w.forCall tape i)))
  (contract : ∀ (W : World) (args : Array Value) (ds gs : List (DataW H)) (before : List MemPlace),
   (∀ (j : Nat) t v, fn.params[j]? = some t → args[j]? = some v → ∃ base, Value.okWide C.prog W .any base t v) →
   DataW.Whole enc C.prog fn.params.toList s.vars apart W args.toList ds gs before → W.ShapedOpen C.prog → X W.memory args →
   Calls C.prog f args W fun e W' => ∃ v, e = .returned v ∧ s.post enc C.prog fn apart fresh handsOn again W args v W') :
  ReturnsInHanded a C os f .any (fun w args => (s.pre enc C.prog fn conds apart w args ∧ X w args) ∧ sizedMet enc C.prog fn (OpenSpec.ofChange s) apart w args) (s.post enc C.prog fn apart fresh handsOn again) := by
 refine returnsInHanded_of_calls own started noInit witness ?_
 intro w tape i _ hsh _ hok hpre _
 obtain ⟨_, _, _, fn', hfn', _, _, _, _, hval⟩ := hok
 have e : fn' = fn := Option.some.inj (hfn'.symm.trans hfn)
 subst e
 obtain ⟨⟨⟨ds, gs, before, hw, _⟩, hx⟩, _⟩ := hpre
 have hw' := DataW.Whole.of_heap (w' := w.forCall tape i) (by rfl) hw
 refine (contract (w.forCall tape i) i.args ds gs before (fun j t v h1 h2 => ⟨_, hval j t v h1 h2⟩) hw' hsh hx).mono fun e W' ⟨v, he, hp⟩ => ?_
 subst he
 exact ChangeSpec.post_blind hp
end
theorem tab_of {w : World} (h : TabIs Tryz.prog w "rickyard/crc.four" .u32 (fourL.map fun (n : Nat) => (n : Int))) : TabAt w := by
 intro i hi
 have := h.cell (g := 6) (by kernel_rfl) i (by rw [List.length_map]; exact hi)
 rw [this]
 have key : ∀ r, r < 16 → (fourL.map fun (n : Nat) => (n : Int)).getD r 0 = ((fourL.getD r 0 : Nat) : Int) := by decide
 rw [key i hi]
theorem tab_met {W : World} {r : List (String × DataW Unit)} (h : laidMet Tryz.prog (("rickyard/crc.four", tabData .u32 (fourL.map fun (n : Nat) => (n : Int))) :: r) W.memory) : TabAt W :=
 tab_of (show TabIs Tryz.prog W.memory "rickyard/crc.four" .u32 (fourL.map fun (n : Nat) => (n : Int)) from tabIs_of_head (show Tryz.prog.globalNamed "rickyard/crc.four" = some 6 by kernel_rfl) (show (Tryz.prog.globals[6]?).map (·.type) = some 427 by kernel_rfl) Tryz.underlying427 Tryz.underlying67 (by kernel_rfl) (by kernel_rfl) h)
end
end
end Go.Proofs.YtigajcabgaddgaaGreatDoor
