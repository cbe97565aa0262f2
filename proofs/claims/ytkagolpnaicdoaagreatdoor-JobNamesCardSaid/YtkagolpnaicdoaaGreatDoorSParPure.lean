/-
 Lines of input: words, pieces between a byte. odd, Word, name. The steps of line: one for each word. line: a line of input as a cell.
-/
import Derived.Test.YtkagolpnaicdoaaGreatDoorSCellPure
import Derived.Shelf.GgClosure.StringsIndexFunc
import Derived.Laws.RangeAny
import Derived.Lib.Split
import Derived.Test.YtkagolpnaicdoaaGreatDoorSRegion
import Derived.Test.YtkagolpnaicdoaaGreatDoorSMaps
import Derived.Test.YtkagolpnaicdoaaGreatDoorSShelf
import Derived.Test.YtkagolpnaicdoaaGreatDoorSTabA
import Derived.LoopN
import Derived.Laws.EntriesVeiled
set_option maxRecDepth 100000
set_option maxHeartbeats 8000000
namespace Go.Proofs.YtkagolpnaicdoaaGreatDoor
section
open Go.Lib
def oddN (r : Nat) : Bool := decide (r ≤ 32 ∨ 126 < r)
def okB (b : UInt8) : Bool := !oddN b.toNat
def wordB (s : ByteArray) : Bool := decide (s.size ≠ 0) && s.data.toList.all okB
theorem get_data {s : ByteArray} {i : Nat} (h : i < s.size) : s.data.toList[i]? = some s[i] := Lib.data_getElem? s i h
theorem idx_none (s : ByteArray) : ∀ (f pos : Nat), s.size ≤ pos + f → (idxFuncFrom oddN true s f pos = -1 ↔ ∀ j (h : j < s.size), pos ≤ j → okB s[j] = true)
 |0, pos, hf => by
  constructor
  ·intro _ j h hj; omega
  ·intro _; rfl
 |f + 1, pos, hf => by
  by_cases hp : pos < s.size
  ·unfold idxFuncFrom
   rw [if_pos hp]
   by_cases hb : (s[pos]'hp).toNat < 128
   ·rw [decode_ascii s pos hp hb]
    by_cases ho : oddN (s[pos]'hp).toNat = true
    ·rw [if_pos ho]
     constructor
     ·intro h; omega
     ·intro h
      have := h pos hp (Nat.le_refl _)
      unfold okB at this
      rw [ho] at this
      cases this
    ·rw [if_neg ho]
     have ih := idx_none s f (pos + 1) (by omega)
     rw [ih]
     constructor
     ·intro h j hj hpj
      by_cases e : j = pos
      ·subst e; unfold okB; simpa using ho
      ·exact h j hj (by omega)
     ·intro h j hj hpj
      exact h j hj (by omega)
   ·have hh := decode_high s pos hp (by omega)
    have ho : oddN (Utf8.decode s pos).1 = true := by unfold oddN; exact decide_eq_true (by omega)
    rw [if_pos ho]
    constructor
    ·intro h; omega
    ·intro h
     have := h pos hp (Nat.le_refl _)
     have h2 : oddN (s[pos]'hp).toNat = true := by unfold oddN; exact decide_eq_true (by omega)
     unfold okB at this
     rw [h2] at this
     cases this
  ·rw [idxFuncFrom_end _ _ _ _ _ hp]
   constructor
   ·intro _ j h hj; omega
   ·intro _; rfl
theorem word_idx (s : ByteArray) : decide (idxFunc oddN true s < 0) = s.data.toList.all okB := by
 have h := idx_none s s.size 0 (by omega)
 have hr := idxFuncFrom_range oddN true s s.size 0
 unfold idxFunc
 rw [Bool.eq_iff_iff, decide_eq_true_eq, List.all_eq_true]
 constructor
 ·intro h0 b hb
  have h1 : idxFuncFrom oddN true s s.size 0 = -1 := by omega
  obtain ⟨j, hj, rfl⟩ := List.getElem_of_mem hb
  have hj2 : j < s.size := by rw [size_eq]; exact hj
  have := h.1 h1 j hj2 (Nat.zero_le _)
  have e := get_data hj2
  rw [List.getElem?_eq_getElem hj] at e
  rw [Option.some.inj e]
  exact this
 ·intro ha
  have : idxFuncFrom oddN true s s.size 0 = -1 := h.2 (fun j hj _ => ha _ (List.mem_of_getElem? (get_data hj)))
  omega
def splitL (c : UInt8) : List UInt8 → List (List UInt8)
 |[] => [[]]
 |b :: l => if b = c then [] :: splitL c l else match splitL c l with
  |[] => [[b]]
  |h :: t => (b :: h) :: t
theorem splitL_cons (c : UInt8) (l : List UInt8) : ∃ h t, splitL c l = h :: t := by
 induction l with
 |nil => exact ⟨[], [], rfl⟩
 |cons b l ih =>
  obtain ⟨h, t, e⟩ := ih
  unfold splitL
  by_cases hb : b = c
  ·rw [if_pos hb]; exact ⟨_, _, rfl⟩
  ·rw [if_neg hb, e]; exact ⟨_, _, rfl⟩
theorem splitL_none (c : UInt8) (l : List UInt8) (h : ∀ b ∈ l, b ≠ c) : splitL c l = [l] := by
 induction l with
 |nil => rfl
 |cons b l ih =>
  unfold splitL
  rw [if_neg (h b (by simp)), ih (fun x hx => h x (by simp [hx]))]
theorem splitL_at (c : UInt8) (a l : List UInt8) (h : ∀ b ∈ a, b ≠ c) : splitL c (a ++ c :: l) = a :: splitL c l := by
 induction a with
 |nil => show splitL c (c :: l) = _; conv => lhs; unfold splitL
         rw [if_pos rfl]
 |cons b a ih =>
  show splitL c (b :: (a ++ c :: l)) = _
  conv => lhs; unfold splitL
  rw [if_neg (h b (by simp)), ih (fun x hx => h x (by simp [hx]))]
theorem index_one (c : UInt8) : ∀ l : List UInt8, (index l [c] = -1 ∧ (∀ b ∈ l, b ≠ c)) ∨ ∃ a r, l = a ++ c :: r ∧ index l [c] = (a.length : Nat) ∧ ∀ b ∈ a, b ≠ c
 |[] => Or.inl ⟨by simp [index], by simp⟩
 |b :: l => by
  by_cases h : b = c
  ·subst h
   exact Or.inr ⟨[], l, rfl, by simp [index, List.isPrefixOf], by simp⟩
  ·have hp : ([c] : List UInt8).isPrefixOf (b :: l) = false := by simp [List.isPrefixOf, Ne.symm h]
   have hix : index (b :: l) [c] = if index l [c] == -1 then -1 else index l [c] + 1 := by rw [index, hp]; simp
   rcases index_one c l with ⟨h1, h2⟩ | ⟨a, r, h1, h2, h3⟩
   ·left
    refine ⟨by rw [hix, h1]; rfl, ?_⟩
    intro x hx
    rcases List.mem_cons.1 hx with hx | hx
    ·rw [hx]; exact h
    ·exact h2 x hx
   ·right
    refine ⟨b :: a, r, by rw [h1]; rfl, ?_, ?_⟩
    ·rw [hix, h2]
     have : (((a.length : Nat) : Int) == -1) = false := by rw [beq_eq_false_iff_ne]; omega
     rw [this]
     simp
    ·intro x hx
     rcases List.mem_cons.1 hx with hx | hx
     ·rw [hx]; exact h
     ·exact h3 x hx
theorem splitB_L (c : UInt8) : ∀ (k : Nat) (s : ByteArray), countB s ⟨#[c]⟩ = k → (splitB ⟨#[c]⟩ 0 k s).map (fun x => x.data.toList) = splitL c s.data.toList
 |0, s, hk => by
  rcases index_one c s.data.toList with ⟨h1, h2⟩ | ⟨a, r, h1, h2, h3⟩
  ·rw [splitL_none c _ h2]; rfl
  ·have := count_hit (s := s.data.toList) (sub := [c]) (by simp) h2
   have hk' : count s.data.toList [c] = 0 := hk
   omega
 |k + 1, s, hk => by
  have hk' : count s.data.toList [c] = k + 1 := hk
  rcases index_one c s.data.toList with ⟨h1, h2⟩ | ⟨a, r, h1, h2, h3⟩
  ·rw [count_miss h1] at hk'; omega
  ·have hc := count_hit (s := s.data.toList) (sub := [c]) (by simp) h2
   have hib : indexB s ⟨#[c]⟩ = (a.length : Nat) := h2
   have hd : s.data.toList.drop (a.length + [c].length) = r := by
    rw [h1, List.drop_append, List.drop_eq_nil_of_le (by simp)]
    simp
   have hsz : (⟨#[c]⟩ : ByteArray).size = 1 := rfl
   rw [hd] at hc
   have he : (s.extract (a.length + 1) s.size).data.toList = r := by
    rw [extract_to_end]; exact hd
   have ih := splitB_L c k (s.extract (a.length + 1) s.size) (by show count _ _ = k; rw [he]; show count r [c] = k; omega)
   unfold splitB
   rw [hib, if_neg (by simp)]
   simp only [List.map_cons, Nat.add_zero, Int.toNat_natCast, hsz]
   rw [ih, he, h1, splitL_at c a r h3, extract_data, h1]
   simp
theorem splitB_len (c : UInt8) : ∀ (k : Nat) (s : ByteArray), countB s ⟨#[c]⟩ = k → (splitB ⟨#[c]⟩ 0 k s).length = k + 1
 |0, s, hk => rfl
 |k + 1, s, hk => by
  have hk' : count s.data.toList [c] = k + 1 := hk
  rcases index_one c s.data.toList with ⟨h1, h2⟩ | ⟨a, r, h1, h2, h3⟩
  ·rw [count_miss h1] at hk'; omega
  ·have hc := count_hit (s := s.data.toList) (sub := [c]) (by simp) h2
   have hib : indexB s ⟨#[c]⟩ = (a.length : Nat) := h2
   have hsz : (⟨#[c]⟩ : ByteArray).size = 1 := rfl
   have hd : s.data.toList.drop (a.length + [c].length) = r := by
    rw [h1, List.drop_append, List.drop_eq_nil_of_le (by simp)]
    simp
   rw [hd] at hc
   have he : (s.extract (a.length + 1) s.size).data.toList = r := by
    rw [extract_to_end]; exact hd
   have ih := splitB_len c k (s.extract (a.length + 1) s.size) (by show count _ _ = k; rw [he]; show count r [c] = k; omega)
   rw [splitB_hit _ _ _ _ a.length hib, List.length_cons, hsz, ih]
theorem splitB_small (sep : ByteArray) : ∀ (k : Nat) (s : ByteArray), ∀ x ∈ splitB sep 0 k s, x.size ≤ s.size
 |0, s => by intro x hx; rw [splitB_zero] at hx; simp at hx; rw [hx]; exact Nat.le_refl _
 |k + 1, s => by
  by_cases h : indexB s sep = -1
  ·rw [splitB_miss _ _ _ _ h]; intro x hx; simp at hx; rw [hx]; exact Nat.le_refl _
  ·unfold splitB
   rw [if_neg (by simpa using h)]
   intro x hx
   rcases List.mem_cons.1 hx with hx | hx
   ·rw [hx, ByteArray.size_extract]; omega
   ·have := splitB_small sep k _ x hx
    rw [ByteArray.size_extract] at this
    omega
def pieces (c : UInt8) (s : ByteArray) : List ByteArray := splitB ⟨#[c]⟩ 0 (countB s ⟨#[c]⟩) s
theorem pieces_len (c : UInt8) (s : ByteArray) : (pieces c s).length = countB s ⟨#[c]⟩ + 1 := splitB_len c _ s rfl
theorem pieces_small {c : UInt8} {s : ByteArray} {x : ByteArray} (h : x ∈ pieces c s) : x.size ≤ s.size := splitB_small _ _ _ x h
theorem splitL_le (c : UInt8) (l : List UInt8) : (splitL c l).length ≤ l.length + 1 := by
 induction l with
 |nil => exact Nat.le_refl _
 |cons b l ih =>
  unfold splitL
  obtain ⟨h, t, e⟩ := splitL_cons c l
  rw [e] at ih ⊢
  split <;> simp at ih ⊢ <;> omega
theorem pieces_L (c : UInt8) (s : ByteArray) : (pieces c s).map (fun x => x.data.toList) = splitL c s.data.toList := splitB_L c _ s rfl
theorem pieces_le (c : UInt8) (s : ByteArray) : (pieces c s).length ≤ s.size + 1 := by
 have h := splitL_le c s.data.toList
 rw [← pieces_L, List.length_map, ← size_eq] at h
 exact h
end
section
open Go.RowKit Go.Lib
theorem odd_at (w : World) : PredAt Tryz.prog 202 #[] encR oddN w := fun W r _ => by
 unfold FnGives
 by_cases h1 : r ≤ 32 <;> by_cases h2 : 126 < r
 all_goals
  have z1 : (r : Int) ≤ 32 ↔ r ≤ 32 := by omega
  have z2 : (r : Int) > 126 ↔ 126 < r := by omega
  go_enter Tryz.func202, Tryz.ntmps202
  go_wp2
  all_goals first | (exfalso; omega) | (go_ret; exact ⟨by unfold oddN; simp [h1, h2], 0, rfl⟩)
theorem index_anyP (s : ByteArray) (w : World) :
  Calls Tryz.prog 201 #[.string s, .func (.func 202) #[] #[]] w fun e w' => e = .returned (.int .i64 (idxFunc oddN true s)) ∧ Fp [] w w' :=
 (Tryz.strings_IndexFunc 202 #[] (enters_of Tryz.func202 (by kernel_rfl) rfl) oddN s w (odd_at w)).mono fun _ _ ⟨h, hb⟩ => ⟨h, Below.toFp hb⟩
def nameB (s : ByteArray) : Bool := wordB s && decide (s.size ≤ 40)
theorem wordB_idx (s : ByteArray) : wordB s = (decide (s.size ≠ 0) && decide (idxFunc oddN true s < 0)) := by
 unfold wordB; rw [word_idx]
theorem word_any (s : ByteArray) (w : World) :
  Calls Tryz.prog 129 #[.string s] w fun e w' => e = .returned (.bool (wordB s)) ∧ Fp [] w w' := by
 have hI := Lib.hid (index_anyP s)
 rw [wordB_idx]
 by_cases h0 : s.size = 0
 ·have hem := str_empty h0
  go_enter Tryz.func129, Tryz.ntmps129
  go_wp2_with (fail)
  go_ret
  exact ⟨by rw [decide_eq_false (by omega)]; rfl, Fp.refl _ _⟩
 ·have hem := str_full (s := s) (by omega)
  rw [decide_eq_true h0, Bool.true_and]
  obtain ⟨I, hi⟩ : ∃ I, idxFunc oddN true s = I := ⟨_, rfl⟩
  rw [hi] at hI ⊢
  go_enter Tryz.func129, Tryz.ntmps129
  go_wp2_with (fail)
  (with_reducible refine (hI.out _).mono ?_)
  rintro e w1 ⟨rfl, hf⟩
  have HF := Lib.hid hf
  clear hf
  go_wp2_with (fail)
  go_ret
  exact ⟨rfl, HF.out⟩
theorem name_anyP (s : ByteArray) (w : World) :
  Calls Tryz.prog 123 #[.string s] w fun e w' => e = .returned (.bool (nameB s)) ∧ Fp [] w w' := by
 have hI := Lib.hid (word_any s)
 unfold nameB
 obtain ⟨b, hb⟩ : ∃ b, wordB s = b := ⟨_, rfl⟩
 rw [hb] at hI ⊢
 cases b
 ·go_enter Tryz.func123, Tryz.ntmps123
  go_wp2_with (fail)
  (with_reducible refine (hI.out _).mono ?_)
  rintro e w1 ⟨rfl, hf⟩
  have HF := Lib.hid hf
  clear hf
  go_wp2_with (fail)
  go_ret
  exact ⟨rfl, HF.out⟩
 ·go_enter Tryz.func123, Tryz.ntmps123
  go_wp2_with (fail)
  (with_reducible refine (hI.out _).mono ?_)
  rintro e w1 ⟨rfl, hf⟩
  have HF := Lib.hid hf
  clear hf
  go_wp2_with (fail)
  go_ret
  refine ⟨?_, HF.out⟩
  refine ret_bool ?_
  rw [Bool.true_and]
  exact decide_eq_decide.2 (by omega)
end
section
open Go.RowKit Go.Lib
theorem step1_any (s : ByteArray) (c : Cel) (b : Nat) (w : World) (hc : CelIn w b c) :
  Calls Tryz.prog 122 #[.string s, .pointer (some ⟨b, 0, none⟩)] w fun e w' => e = .returned (.bool (nameB s)) ∧ CelIn w' b { c with row := s } ∧ Fp [b] w w' := by
 have hN := Lib.hid (name_anyP s)
 have HC := Lib.hid hc
 have q0 : w.cell? ⟨b, 0, none⟩ = some (.string c.row) := hc.cell 0
 have f0 := hc.free 0
 clear hc
 go_enter Tryz.func122, Tryz.ntmps122
 go_wp2_with (fail)
 (with_reducible refine (hN.out _).mono ?_)
 rintro e w1 ⟨rfl, hf⟩
 have HF := Lib.hid hf
 clear hf
 go_wp2_with (fail)
 go_ret
 exact ⟨rfl, (HC.out.set (c' := { c with row := s }) 0 (.string s) rfl).fp HF.out List.not_mem_nil, (Fp.setCell _ _ _).trans HF.out (by simp)⟩
theorem step2_any (s : ByteArray) (c : Cel) (b : Nat) (w : World) (hc : CelIn w b c) :
  Calls Tryz.prog 124 #[.string s, .pointer (some ⟨b, 0, none⟩)] w fun e w' => e = .returned (.bool (nameB s)) ∧ CelIn w' b { c with col := s } ∧ Fp [b] w w' := by
 have hN := Lib.hid (name_anyP s)
 have HC := Lib.hid hc
 have q0 : w.cell? ⟨b, 1, none⟩ = some (.string c.col) := hc.cell 1
 have f0 := hc.free 1
 clear hc
 go_enter Tryz.func124, Tryz.ntmps124
 go_wp2_with (fail)
 (with_reducible refine (hN.out _).mono ?_)
 rintro e w1 ⟨rfl, hf⟩
 have HF := Lib.hid hf
 clear hf
 go_wp2_with (fail)
 go_ret
 exact ⟨rfl, (HC.out.set (c' := { c with col := s }) 1 (.string s) rfl).fp HF.out List.not_mem_nil, (Fp.setCell _ _ _).trans HF.out (by simp)⟩
def PuOut (s : ByteArray) (u : Nat) (ev : Value) : Prop := (ev = .nilIface ∧ parseUintB 64 s.data.toList = .ok u) ∨ ((∃ t p, ev = .iface t p) ∧ ∀ n, parseUintB 64 s.data.toList ≠ .ok n)
structure ErrsAt (w : World) : Prop where
 sy : ∃ tp p, w.cell? ⟨3, 0, none⟩ = some (.iface tp p)
 rg : ∃ tp p, w.cell? ⟨4, 0, none⟩ = some (.iface tp p)
theorem cell_past {w w' : World} {S : List Nat} {g : Nat} {v : Value} (h : w.cell? ⟨g, 0, none⟩ = some v) (hf : Fp S w w') (hs : g ∉ S) : w'.cell? ⟨g, 0, none⟩ = some v :=
 (hf.cell (p := ⟨g, 0, none⟩) (World.block_lt_of_cell? _ _ h) hs).trans h
theorem ErrsAt.fp {w w' : World} {S : List Nat} (h : ErrsAt w) (hf : Fp S w w') (h1 : 3 ∉ S) (h2 : 4 ∉ S) : ErrsAt w' := by
 obtain ⟨⟨t1, p1, q1⟩, ⟨t2, p2, q2⟩⟩ := h
 exact ⟨⟨t1, p1, cell_past q1 hf h1⟩, ⟨t2, p2, cell_past q2 hf h2⟩⟩
theorem Fp.bytesWorld (w : World) (t : TypeId) (s : ByteArray) : Fp [] w (Lib.bytesWorld w t s) := Below.toFp (Lib.bytesWorld_below _ _ _)
theorem uint_any (s : ByteArray) (w : World) (hs : s.size ≤ 100000000) (he : ErrsAt w) :
  Calls Tryz.prog 126 #[.string s, .int .i64 10, .int .i64 64] w fun e w' => ∃ u ev, e = .returned (.tuple #[.int .u64 (u : Nat), ev]) ∧ PuOut s u ev ∧ u < 18446744073709551616 ∧ Fp [] w w' := by
 obtain ⟨⟨t1, p1, q1⟩, ⟨t2, p2, q2⟩⟩ := he
 cases h : parseUintB 64 s.data.toList with
 |ok u =>
  refine (Tryz.strconv_ParseUint_10_at64_ok s (by omega) u h w).mono ?_
  rintro e w' ⟨rfl, hw⟩
  refine ⟨u, _, rfl, Or.inl ⟨rfl, h⟩, ?_, ?_⟩
  ·have := parseUintB_le h
   omega
  ·rcases hw with rfl | rfl
   ·exact Fp.refl _ _
   ·exact Fp.bytesWorld _ _ _
 |«syntax» =>
  refine (Tryz.strconv_ParseUint_10_at64_syntax s (by omega) h _ w q1 (Or.inr ⟨_, _, rfl⟩)).mono ?_
  rintro e w' ⟨N, rfl, _, _, hb⟩
  exact ⟨0, _, rfl, Or.inr ⟨⟨_, _, rfl⟩, fun n hn => by rw [h] at hn; cases hn⟩, by decide, Below.toFp hb⟩
 |range =>
  refine (Tryz.strconv_ParseUint_10_at64_range s (by omega) h _ w q2 (Or.inr ⟨_, _, rfl⟩)).mono ?_
  rintro e w' ⟨N, rfl, _, _, hb⟩
  exact ⟨18446744073709551615, _, rfl, Or.inr ⟨⟨_, _, rfl⟩, fun n hn => by rw [h] at hn; cases hn⟩, by decide, Below.toFp hb⟩
def numB (s : ByteArray) : Option Nat := match parseUintB 64 s.data.toList with
 |.ok u => if s.size ≤ 18 then some u else none
 |_ => none
theorem numB_out {s : ByteArray} {u : Nat} {ev : Value} (h : PuOut s u ev) : (numB s = some u ∧ ev = .nilIface ∧ s.size ≤ 18) ∨ (numB s = none ∧ (ev = .nilIface ∧ ¬ s.size ≤ 18)) ∨ (numB s = none ∧ ∃ t p, ev = .iface t p) := by
 rcases h with ⟨rfl, h⟩ | ⟨⟨t, p, rfl⟩, h⟩
 ·unfold numB
  rw [h]
  by_cases hs : s.size ≤ 18
  ·exact Or.inl ⟨if_pos hs, rfl, hs⟩
  ·exact Or.inr (Or.inl ⟨if_neg hs, rfl, hs⟩)
 ·right; right
  refine ⟨?_, t, p, rfl⟩
  unfold numB
  split
  ·rename_i u h2; exact absurd h2 (h u)
  ·rfl
theorem step3_any (s : ByteArray) (c : Cel) (b : Nat) (w : World) (hc : CelIn w b c) (hs : s.size ≤ 100000000) (he : ErrsAt w) :
  Calls Tryz.prog 125 #[.string s, .pointer (some ⟨b, 0, none⟩)] w fun e w' => e = .returned (.bool (numB s).isSome) ∧ (∃ u, (numB s = none ∨ numB s = some u) ∧ CelIn w' b { c with ts := u }) ∧ Fp [b] w w' := by
 have hN := Lib.hid (fun w => uint_any s w hs)
 have HC := Lib.hid hc
 have HE := Lib.hid he
 clear hc he
 go_enter Tryz.func125, Tryz.ntmps125
 go_wp2_with (fail)
 (with_reducible refine (hN.out _ HE.out).mono ?_)
 rintro e w1 ⟨u, ev, rfl, ho, hu, hf⟩
 have HC1 := Lib.hid (HC.out.fp hf (by simp))
 have HF := Lib.hid hf
 have q0 : w1.cell? ⟨b, 2, none⟩ = some (.int .u64 c.ts) := HC1.out.cell 2
 have f0 := HC1.out.free 2
 clear hf
 rcases numB_out ho with ⟨h1, rfl, h2⟩ | ⟨h1, rfl, h2⟩ | ⟨h1, t, p, rfl⟩
 all_goals
  clear ho
  have H1 := Lib.hid h1
  clear h1
  go_wp2_with (fail)
  go_ret
  rw [H1.out]
  refine ⟨?_, ⟨u, ?_, HC1.out.set 2 _ rfl⟩, (HF.out.mono (S' := [b]) (by simp)).trans (Fp.setCell _ _ _) (by simp)⟩
  ·first | exact ret_bool rfl | exact ret_bool (decide_eq_true (by omega)) | exact ret_bool (decide_eq_false (by omega))
  ·first | exact Or.inl rfl | exact Or.inr rfl
theorem cut_anyP (s : ByteArray) (w : World) :
  Calls Tryz.prog 128 #[.string s, .string ⟨#[61]⟩] w fun e w' => e = .returned (.tuple #[.string ⟨(Lib.trimPrefix s.data.toList [61]).toArray⟩, .bool (Lib.hasPrefix s.data.toList [61])]) ∧ w = w' :=
 (Tryz.strings_CutPrefix s ⟨#[61]⟩ w).mono fun _ _ ⟨h1, h2⟩ => ⟨h1, h2.symm⟩
def restB (s : ByteArray) : ByteArray := ⟨(Lib.trimPrefix s.data.toList [61]).toArray⟩
def goneB (s : ByteArray) : Bool := s.toList == [45]
def valB (s : ByteArray) : Bool := Lib.hasPrefix s.data.toList [61] && (wordB s && decide ((restB s).size ≤ 100))
theorem step4_any (s : ByteArray) (c : Cel) (b : Nat) (w : World) (hc : CelIn w b c) :
  Calls Tryz.prog 127 #[.string s, .pointer (some ⟨b, 0, none⟩)] w fun e w' => e = .returned (.bool (goneB s || valB s)) ∧ CelIn w' b { c with del := goneB s, val := if goneB s = true then c.val else restB s } ∧ Fp [b] w w' := by
 have hN := Lib.hid (word_any s)
 have hCut := Lib.hid (cut_anyP s)
 have HC := Lib.hid hc
 have q4 : w.cell? ⟨b, 4, none⟩ = some (.bool c.del) := hc.cell 4
 have f4 := hc.free 4
 clear hc
 obtain ⟨g, hg⟩ : ∃ g, goneB s = g := ⟨_, rfl⟩
 have hg2 : (s.toList == [45]) = g := hg
 rw [hg]
 have HC1 := Lib.hid (HC.out.set (c' := { c with del := g }) 4 (.bool g) rfl)
 have HF1 := Lib.hid (Fp.setCell w ⟨b, 4, none⟩ (.bool g))
 have q41 : (w.setCell ⟨b, 4, none⟩ (.bool g)).cell? ⟨b, 4, none⟩ = some (.bool g) := HC1.out.cell 4
 cases g
 ·go_enter Tryz.func127, Tryz.ntmps127
  go_wp2_with (fail)
  (with_reducible refine (hCut.out _).mono ?_)
  rintro e w1 ⟨rfl, rfl⟩
  have q5 : (w.setCell ⟨b, 4, none⟩ (.bool false)).cell? ⟨b, 5, none⟩ = some (.string c.val) := HC1.out.cell 5
  have f5 := HC1.out.free 5
  have HC2 := Lib.hid (HC1.out.set (c' := { c with del := false, val := restB s }) 5 (.string (restB s)) rfl)
  have HF2 := Lib.hid (HF1.out.trans (Fp.setCell _ ⟨b, 5, none⟩ (.string (restB s))) (by simp))
  have q52 : ((w.setCell ⟨b, 4, none⟩ (.bool false)).setCell ⟨b, 5, none⟩ (.string (restB s))).cell? ⟨b, 5, none⟩ = some (.string (restB s)) := HC2.out.cell 5
  rw [show (⟨(Lib.trimPrefix s.data.toList [61]).toArray⟩ : ByteArray) = restB s from rfl]
  obtain ⟨h, hh⟩ : ∃ h, Lib.hasPrefix s.data.toList [61] = h := ⟨_, rfl⟩
  obtain ⟨wb, hw⟩ : ∃ wb, wordB s = wb := ⟨_, rfl⟩
  have HV : Hid (valB s = (h && (wb && decide ((restB s).size ≤ 100)))) := by unfold Hid valB; rw [hh, hw]
  rw [hh]
  rw [hw] at hN
  clear hCut hg hg2
  cases h
  ·go_wp2_with (fail)
   go_ret
   rw [HV.out]
   exact ⟨rfl, HC2.out, HF2.out.mono (by simp)⟩
  ·cases wb
   all_goals
    go_wp2_with (fail)
    (with_reducible refine (hN.out _).mono ?_)
    rintro e w1 ⟨rfl, hf⟩
    have HC3 := Lib.hid (HC2.out.fp hf (by simp))
    have HF3 := Lib.hid (HF2.out.trans hf (by simp))
    have q53 : w1.cell? ⟨b, 5, none⟩ = some (.string (restB s)) := HC3.out.cell 5
    clear hf
    go_wp2_with (fail)
    go_ret
    rw [HV.out]
    refine ⟨?_, HC3.out, HF3.out.mono (by simp)⟩
   ·exact ret_bool rfl
   ·exact ret_bool (decide_eq_decide.2 (by omega))
 ·go_enter Tryz.func127, Tryz.ntmps127
  go_wp2_with (fail)
  go_ret
  exact ⟨rfl, HC1.out, HF1.out⟩
end
section
open Go.RowKit Go.Lib
def fourB (a b c d : ByteArray) : Option Cel :=
 if nameB a = true ∧ nameB b = true ∧ (goneB d || valB d) = true then
  (numB c).map fun u => ⟨a, b, u, 0, goneB d, if goneB d = true then ⟨#[]⟩ else restB d⟩
 else none
def lineP (s : ByteArray) : Option Cel := match pieces 32 s with
 |[a, b, c, d] => fourB a b c d
 |_ => none
theorem lineP_not {s : ByteArray} (h : (pieces 32 s).length ≠ 4) : lineP s = none := by
 unfold lineP
 split
 ·rename_i e; rw [e] at h; exact absurd rfl h
 ·rfl
theorem four_of {l : List ByteArray} (h : l.length = 4) : ∃ a b c d, l = [a, b, c, d] := by
 match l, h with
 |[a, b, c, d], _ => exact ⟨a, b, c, d, rfl⟩
def RowIn (w : World) (B : Nat) (l : List ByteArray) : Prop := w.heap[B]? = some (.cells (l.map Value.string).toArray 9 (0, 0))
theorem RowIn.fp {w w' : World} {B : Nat} {l : List ByteArray} {S : List Nat} (h : RowIn w B l) (hf : Fp S w w') (hb : B ∉ S) : RowIn w' B l := (hf.block B (heap_lt h) hb).trans h
theorem RowIn.at {w : World} {B : Nat} {l : List ByteArray} (h : RowIn w B l) (i : Nat) (hi : i < l.length) : w.cell? ⟨B, i, none⟩ = some (.string l[i]) := by
 rw [cell_of_block h]
 simp [hi]
theorem split_anyP (c : UInt8) (s : ByteArray) (w : World) (hs : s.size ≤ 100000000) (hm : MaxAt w) :
  Calls Tryz.prog 84 #[.string s, .string ⟨#[c]⟩] w fun e w' =>
   ∃ B, e = .returned (.slice (some ⟨B, 0, none⟩) (pieces c s).length (pieces c s).length) ∧ B = w.heap.size ∧ RowIn w' B (pieces c s) ∧ Fp [] w w' := by
 obtain ⟨m, hm⟩ := hm
 rw [pieces_len]
 refine (Tryz.strings_Split s ⟨#[c]⟩ m w (by omega) hm (Nat.le_refl 1)).mono ?_
 rintro e w' ⟨rfl, rfl⟩
 exact ⟨_, rfl, rfl, heap_alloc_at rfl _, Fp.alloc _ _⟩
theorem index_step0 (f0 f1 f2 f3 : Value) (w : World) : (Instr.index 196 (.agg #[f0, f1, f2, f3]) (.int .i64 0)).run Tryz.prog w = .ok f0 w := by
 simp [Instr.index, run_underlying Tryz.underlying196, asIntOf, go_sem]
theorem index_step1 (f0 f1 f2 f3 : Value) (w : World) : (Instr.index 196 (.agg #[f0, f1, f2, f3]) (.int .i64 1)).run Tryz.prog w = .ok f1 w := by
 simp [Instr.index, run_underlying Tryz.underlying196, asIntOf, go_sem]
theorem index_step2 (f0 f1 f2 f3 : Value) (w : World) : (Instr.index 196 (.agg #[f0, f1, f2, f3]) (.int .i64 2)).run Tryz.prog w = .ok f2 w := by
 simp [Instr.index, run_underlying Tryz.underlying196, asIntOf, go_sem]
theorem index_step3 (f0 f1 f2 f3 : Value) (w : World) : (Instr.index 196 (.agg #[f0, f1, f2, f3]) (.int .i64 3)).run Tryz.prog w = .ok f3 w := by
 simp [Instr.index, run_underlying Tryz.underlying196, asIntOf, go_sem]
structure ParAt (w : World) : Prop where
 mx : MaxAt w
 er : ErrsAt w
theorem line_any (s : ByteArray) (w : World) (hs : s.size ≤ 100000000) (hp : ParAt w) :
  Calls Tryz.prog 70 #[.string s] w fun e w' => e = .returned (.tuple #[cellV ((lineP s).getD zeroC), .bool (lineP s).isSome]) ∧ Fp [] w w' := by
 have HP := Lib.hid hp
 have hS := Lib.hid (fun w => split_anyP 32 s w hs)
 have hmf : ∀ (fn : Fn) (first cap : Array Value) (w : World), (Instr.makeFunc fn first cap).run Tryz.prog w = .ok (.func fn first cap) w := fun _ _ _ _ => rfl
 clear hp
 by_cases h4 : (pieces 32 s).length = 4
 ·obtain ⟨a, b, c, d, he⟩ := four_of h4
  go_enter Tryz.func70, Tryz.ntmps70
  go_wp2_with (fail)
  (with_reducible refine (hS.out _ (HP.out.mx.fp (Fp.alloc _ _) List.not_mem_nil)).mono ?_)
  rintro e w1 ⟨B, rfl, hB, hrow, hf⟩
  rw [he] at hrow ⊢
  have HC1 : Hid (CelIn w1 w.heap.size zeroC) := CelIn.fp (S := []) (heap_alloc_at rfl _) hf List.not_mem_nil
  have HF1 := Lib.hid ((Fp.alloc w _).trans hf (by simp))
  have HR1 := Lib.hid hrow
  have hBn : B ∉ [w.heap.size] := by rw [hB]; simp
  have hlen : [a, b, c, d].length = 4 := rfl
  have HSC : Hid (c.size ≤ 100000000) := by unfold Hid; have := pieces_small (c := 32) (s := s) (x := c) (by rw [he]; simp); omega
  clear hf hrow hB h4
  go_wp2_with (fail)
  obtain ⟨w2, hw2⟩ : ∃ w2, w1.alloc (.cells #[.func (.func 122) #[] #[.pointer (some ⟨w.heap.size, 0, none⟩)], .func (.func 124) #[] #[.pointer (some ⟨w.heap.size, 0, none⟩)], .func (.func 125) #[] #[.pointer (some ⟨w.heap.size, 0, none⟩)], .func (.func 127) #[] #[.pointer (some ⟨w.heap.size, 0, none⟩)]] 196) = w2 := ⟨_, rfl⟩
  rw [hw2]
  have hf2 : Fp [] w1 w2 := by rw [← hw2]; exact Fp.alloc _ _
  have HC2 := Lib.hid (HC1.out.fp hf2 List.not_mem_nil)
  have HR2 := Lib.hid (HR1.out.fp hf2 List.not_mem_nil)
  have HF2 := Lib.hid (HF1.out.trans hf2 (by simp))
  have p0 : w2.cell? ⟨B, 0, none⟩ = some (.string a) := HR2.out.at 0 (by simp)
  clear hf2 hw2
  have ix0 := index_step0
  have ix1 := index_step1
  have ix2 := index_step2
  have ix3 := index_step3
  refine wp_loop_rounds 5 ?_
  rw [rounds_succ]
  go_wp2_with (fail)
  (with_reducible refine (step1_any a _ _ _ HC2.out).mono ?_)
  rintro e w3 ⟨rfl, hc, hf⟩
  have HC3 := Lib.hid hc
  have HR3 := Lib.hid (HR2.out.fp hf hBn)
  have HF3 := Lib.hid (HF2.out.trans hf (by simp))
  have p1 : w3.cell? ⟨B, 1, none⟩ = some (.string b) := HR3.out.at 1 (by simp)
  clear p0 hc hf
  obtain ⟨n1, hn1⟩ : ∃ n1, nameB a = n1 := ⟨_, rfl⟩
  rw [hn1]
  cases n1
  ·have HL : Hid (lineP s = none) := by unfold Hid lineP; rw [he]; show fourB a b c d = none; unfold fourB; rw [hn1, if_neg (by simp)]
   obtain ⟨q0, q1, q2, q3, q4, q5, f0, f1, f2, f3, f4, f5⟩ := HC3.out.facts0
   go_wp2_with (fail)
   rw [HL.out]
   refine bodyPost_ret (v := .tuple #[cellV zeroC, .bool false]) (by simp [results, Tryz.results70, cellV, zeroC, go_sem, *]) rfl ⟨rfl, ?_⟩
   repeat (first | (with_reducible refine Fp.drew' ?_) | (with_reducible refine Fp.setCell' ?_ (Or.inr (Nat.le_refl _)) _) | (with_reducible refine Fp.alloc' ?_ _) | (with_reducible exact HF3.out))
  go_wp2_with (fail)
  rw [rounds_succ]
  go_wp2_with (fail)
  (with_reducible refine (step2_any b _ _ _ HC3.out).mono ?_)
  rintro e w4 ⟨rfl, hc, hf⟩
  have HC4 := Lib.hid hc
  have HR4 := Lib.hid (HR3.out.fp hf hBn)
  have HF4 := Lib.hid (HF3.out.trans hf (by simp))
  have p2 : w4.cell? ⟨B, 2, none⟩ = some (.string c) := HR4.out.at 2 (by simp)
  clear p1 hc hf
  obtain ⟨n2, hn2⟩ : ∃ n2, nameB b = n2 := ⟨_, rfl⟩
  rw [hn2]
  cases n2
  ·have HL : Hid (lineP s = none) := by unfold Hid lineP; rw [he]; show fourB a b c d = none; unfold fourB; rw [hn2, if_neg (by simp)]
   obtain ⟨q0, q1, q2, q3, q4, q5, f0, f1, f2, f3, f4, f5⟩ := HC4.out.facts0
   go_wp2_with (fail)
   rw [HL.out]
   refine bodyPost_ret (v := .tuple #[cellV zeroC, .bool false]) (by simp [results, Tryz.results70, cellV, zeroC, go_sem, *]) rfl ⟨rfl, ?_⟩
   repeat (first | (with_reducible refine Fp.drew' ?_) | (with_reducible refine Fp.setCell' ?_ (Or.inr (Nat.le_refl _)) _) | (with_reducible refine Fp.alloc' ?_ _) | (with_reducible exact HF4.out))
  go_wp2_with (fail)
  rw [rounds_succ]
  go_wp2_with (fail)
  (with_reducible refine (step3_any c _ _ _ HC4.out HSC.out (HP.out.er.fp HF4.out List.not_mem_nil List.not_mem_nil)).mono ?_)
  rintro e w5 ⟨rfl, ⟨u, hu, hc⟩, hf⟩
  have HC5 := Lib.hid hc
  have HR5 := Lib.hid (HR4.out.fp hf hBn)
  have HF5 := Lib.hid (HF4.out.trans hf (by simp))
  have p3 : w5.cell? ⟨B, 3, none⟩ = some (.string d) := HR5.out.at 3 (by simp)
  clear p2 hc hf
  cases hn3 : numB c with
  |none =>
   have HL : Hid (lineP s = none) := by unfold Hid lineP; rw [he]; show fourB a b c d = none; unfold fourB; rw [hn3]; split <;> rfl
   clear hu
   obtain ⟨q0, q1, q2, q3, q4, q5, f0, f1, f2, f3, f4, f5⟩ := HC5.out.facts0
   go_wp2_with (fail)
   rw [HL.out]
   refine bodyPost_ret (v := .tuple #[cellV zeroC, .bool false]) (by simp [results, Tryz.results70, cellV, zeroC, go_sem, *]) rfl ⟨rfl, ?_⟩
   repeat (first | (with_reducible refine Fp.drew' ?_) | (with_reducible refine Fp.setCell' ?_ (Or.inr (Nat.le_refl _)) _) | (with_reducible refine Fp.alloc' ?_ _) | (with_reducible exact HF5.out))
  |some u' =>
   obtain rfl : u' = u := by
    rcases hu with hu | hu
    ·rw [hn3] at hu; cases hu
    ·rw [hn3] at hu; exact Option.some.inj hu
   clear hu
   go_wp2_with (fail)
   rw [rounds_succ]
   go_wp2_with (fail)
   (with_reducible refine (step4_any d _ _ _ HC5.out).mono ?_)
   rintro e w6 ⟨rfl, hc, hf⟩
   have HC6 := Lib.hid hc
   have HF6 := Lib.hid (HF5.out.trans hf (by simp))
   clear p3 hc hf
   obtain ⟨n4, hn4⟩ : ∃ n4, (goneB d || valB d) = n4 := ⟨_, rfl⟩
   rw [hn4]
   cases n4
   ·have HL : Hid (lineP s = none) := by unfold Hid lineP; rw [he]; show fourB a b c d = none; unfold fourB; rw [hn4, if_neg (by simp)]
    obtain ⟨q0, q1, q2, q3, q4, q5, f0, f1, f2, f3, f4, f5⟩ := HC6.out.facts0
    go_wp2_with (fail)
    rw [HL.out]
    refine bodyPost_ret (v := .tuple #[cellV zeroC, .bool false]) (by simp [results, Tryz.results70, cellV, zeroC, go_sem, *]) rfl ⟨rfl, ?_⟩
    repeat (first | (with_reducible refine Fp.drew' ?_) | (with_reducible refine Fp.setCell' ?_ (Or.inr (Nat.le_refl _)) _) | (with_reducible refine Fp.alloc' ?_ _) | (with_reducible exact HF6.out))
   go_wp2_with (fail)
   rw [rounds_succ]
   have HL : Hid (lineP s = some ⟨a, b, u', 0, goneB d, if goneB d = true then ⟨#[]⟩ else restB d⟩) := by unfold Hid lineP; rw [he]; show fourB a b c d = _; unfold fourB; rw [hn1, hn2, hn3, hn4, if_pos (by simp)]; rfl
   obtain ⟨vv, hvv⟩ : ∃ vv, (if goneB d = true then zeroC.val else restB d) = vv := ⟨_, rfl⟩
   have hvv2 : (if goneB d = true then (⟨#[]⟩ : ByteArray) else restB d) = vv := hvv
   rw [hvv] at HC6
   rw [hvv2] at HL
   obtain ⟨q0, q1, q2, q3, q4, q5, f0, f1, f2, f3, f4, f5⟩ := HC6.out.facts0
   go_wp2_with (fail)
   rw [HL.out]
   refine bodyPost_ret (v := .tuple #[cellV ⟨a, b, u', 0, goneB d, vv⟩, .bool true]) (by simp [results, Tryz.results70, cellV, zeroC, go_sem, *]) rfl ⟨rfl, ?_⟩
   repeat (first | (with_reducible refine Fp.drew' ?_) | (with_reducible refine Fp.setCell' ?_ (Or.inr (Nat.le_refl _)) _) | (with_reducible refine Fp.alloc' ?_ _) | (with_reducible exact HF6.out))
 ·have hl := lineP_not h4
  rw [hl]
  obtain ⟨n, hn⟩ : ∃ n, (pieces 32 s).length = n := ⟨_, rfl⟩
  rw [hn] at hS h4
  have h4' : ¬ ((n : Nat) : Int) = 4 := by omega
  go_enter Tryz.func70, Tryz.ntmps70
  go_wp2_with (fail)
  (with_reducible refine (hS.out _ (HP.out.mx.fp (Fp.alloc _ _) List.not_mem_nil)).mono ?_)
  rintro e w1 ⟨B, rfl, hB, hrow, hf⟩
  have HC1 : Hid (CelIn w1 w.heap.size zeroC) := CelIn.fp (S := []) (heap_alloc_at rfl _) hf List.not_mem_nil
  have HF1 := Lib.hid ((Fp.alloc w _).trans hf (by simp))
  clear hf hrow hB hn
  obtain ⟨q0, q1, q2, q3, q4, q5, f0, f1, f2, f3, f4, f5⟩ := HC1.out.facts
  go_wp2_with (fail)
  refine bodyPost_ret (v := .tuple #[cellV zeroC, .bool false]) (by simp [results, Tryz.results70, cellV, zeroC, go_sem, *]) rfl ⟨rfl, ?_⟩
  repeat (first | (with_reducible refine Fp.drew' ?_) | (with_reducible refine Fp.setCell' ?_ (Or.inr (Nat.le_refl _)) _) | (with_reducible refine Fp.alloc' ?_ _) | (with_reducible exact HF1.out))
end
end Go.Proofs.YtkagolpnaicdoaaGreatDoor
