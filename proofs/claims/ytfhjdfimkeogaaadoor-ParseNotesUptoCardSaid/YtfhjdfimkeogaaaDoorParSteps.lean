/-
  The steps of line: one for each word.
-/
import Derived.Test.YtfhjdfimkeogaaaDoorParWord
import Derived.Test.YtfhjdfimkeogaaaDoorCelsOwn
namespace Go.Proofs.YtfhjdfimkeogaaaDoor
open Go.RowKit Go.Lib

theorem step1_any (s : ByteArray) (c : Cel) (b : Nat) (w : World) (hc : CelIn w b c) :
    Calls Tryd.prog 31 #[.string s, .pointer (some ⟨b, 0, none⟩)] w fun e w' => e = .returned (.bool (nameB s)) ∧ CelIn w' b { c with row := s } ∧ Fp [b] w w' := by
  have hN := Lib.hid (name_any s)
  have HC := Lib.hid hc
  have q0 : w.cell? ⟨b, 0, none⟩ = some (.string c.row) := hc.cell 0
  have f0 := hc.free 0
  clear hc
  go_enter Tryd.func31, Tryd.ntmps31
  go_wp2_with (fail)
  (with_reducible refine (hN.out _).mono ?_)
  rintro e w1 ⟨rfl, hf⟩
  have HF := Lib.hid hf
  clear hf
  go_wp2_with (fail)
  go_ret
  exact ⟨rfl, (HC.out.set (c' := { c with row := s }) 0 (.string s) rfl).fp HF.out List.not_mem_nil, (Fp.setCell _ _ _).trans HF.out (by simp)⟩

theorem step2_any (s : ByteArray) (c : Cel) (b : Nat) (w : World) (hc : CelIn w b c) :
    Calls Tryd.prog 33 #[.string s, .pointer (some ⟨b, 0, none⟩)] w fun e w' => e = .returned (.bool (nameB s)) ∧ CelIn w' b { c with col := s } ∧ Fp [b] w w' := by
  have hN := Lib.hid (name_any s)
  have HC := Lib.hid hc
  have q0 : w.cell? ⟨b, 1, none⟩ = some (.string c.col) := hc.cell 1
  have f0 := hc.free 1
  clear hc
  go_enter Tryd.func33, Tryd.ntmps33
  go_wp2_with (fail)
  (with_reducible refine (hN.out _).mono ?_)
  rintro e w1 ⟨rfl, hf⟩
  have HF := Lib.hid hf
  clear hf
  go_wp2_with (fail)
  go_ret
  exact ⟨rfl, (HC.out.set (c' := { c with col := s }) 1 (.string s) rfl).fp HF.out List.not_mem_nil, (Fp.setCell _ _ _).trans HF.out (by simp)⟩

/-- ParseUint of base 10 at 64 bits, whatever text -/
def PuOut (s : ByteArray) (u : Nat) (ev : Value) : Prop := (ev = .nilIface ∧ parseUintB 64 s.data.toList = .ok u) ∨ ((∃ t p, ev = .iface t p) ∧ ∀ n, parseUintB 64 s.data.toList ≠ .ok n)
structure ErrsAt (w : World) : Prop where
  sy : ∃ tp p, w.cell? ⟨3, 0, none⟩ = some (.iface tp p)
  rg : ∃ tp p, w.cell? ⟨4, 0, none⟩ = some (.iface tp p)
theorem cell_past {w w' : World} {S : List Nat} {g : Nat} {v : Value} (h : w.cell? ⟨g, 0, none⟩ = some v) (hf : Fp S w w') (hs : g ∉ S) : w'.cell? ⟨g, 0, none⟩ = some v :=
  (hf.cell (p := ⟨g, 0, none⟩) (World.block_lt_of_cell? _ _ h) hs).trans h
theorem ErrsAt.fp {w w' : World} {S : List Nat} (h : ErrsAt w) (hf : Fp S w w') (h1 : 3 ∉ S) (h2 : 4 ∉ S) : ErrsAt w' := by
  obtain ⟨⟨t1, p1, q1⟩, ⟨t2, p2, q2⟩⟩ := h
  exact ⟨⟨t1, p1, cell_past q1 hf h1⟩, ⟨t2, p2, cell_past q2 hf h2⟩⟩
theorem Fp.bytesWorld (w : World) (t : TypeId) (s : ByteArray) : Fp [] w (Lib.bytesWorld w t s) := Below.toFp (Lib.bytesWorld_below _ _ _)
theorem uint_any (s : ByteArray) (w : World) (hs : s.size ≤ 100000000) (he : ErrsAt w) :
    Calls Tryd.prog 35 #[.string s, .int .i64 10, .int .i64 64] w fun e w' => ∃ u ev, e = .returned (.tuple #[.int .u64 (u : Nat), ev]) ∧ PuOut s u ev ∧ u < 18446744073709551616 ∧ Fp [] w w' := by
  obtain ⟨⟨t1, p1, q1⟩, ⟨t2, p2, q2⟩⟩ := he
  cases h : parseUintB 64 s.data.toList with
  | ok u =>
    refine (Tryd.strconv_ParseUint_10_at64_ok s (by omega) u h w).mono ?_
    rintro e w' ⟨rfl, hw⟩
    refine ⟨u, _, rfl, Or.inl ⟨rfl, h⟩, ?_, ?_⟩
    · have := parseUintB_le h
      omega
    · rcases hw with rfl | rfl
      · exact Fp.refl _ _
      · exact Fp.bytesWorld _ _ _
  | range =>
    refine (Tryd.strconv_ParseUint_10_at64_range s (by omega) h _ w q2 (Or.inr ⟨_, _, rfl⟩)).mono ?_
    rintro e w' ⟨N, rfl, _, _, hb⟩
    exact ⟨18446744073709551615, _, rfl, Or.inr ⟨⟨_, _, rfl⟩, fun n hn => by rw [h] at hn; cases hn⟩, by decide, Below.toFp hb⟩
  | _ =>
    refine (Any.strconv_ParseUint_10_at64_syntax Tryd.laysPu14 s (by omega) h _ w q1 (Or.inr ⟨_, _, rfl⟩)).mono ?_
    rintro e w' ⟨N, rfl, _, _, hb⟩
    exact ⟨0, _, rfl, Or.inr ⟨⟨_, _, rfl⟩, fun n hn => by rw [h] at hn; cases hn⟩, by decide, Below.toFp hb⟩

/-- the number of a text: at most 18 digits -/
def numB (s : ByteArray) : Option Nat := match parseUintB 64 s.data.toList with
  | .ok u => if s.size ≤ 18 then some u else none
  | _ => none
theorem numB_out {s : ByteArray} {u : Nat} {ev : Value} (h : PuOut s u ev) : (numB s = some u ∧ ev = .nilIface ∧ s.size ≤ 18) ∨ (numB s = none ∧ (ev = .nilIface ∧ ¬ s.size ≤ 18)) ∨ (numB s = none ∧ ∃ t p, ev = .iface t p) := by
  rcases h with ⟨rfl, h⟩ | ⟨⟨t, p, rfl⟩, h⟩
  · unfold numB
    rw [h]
    by_cases hs : s.size ≤ 18
    · exact Or.inl ⟨if_pos hs, rfl, hs⟩
    · exact Or.inr (Or.inl ⟨if_neg hs, rfl, hs⟩)
  · right; right
    refine ⟨?_, t, p, rfl⟩
    unfold numB
    split
    · rename_i u h2; exact absurd h2 (h u)
    · rfl

theorem step3_any (s : ByteArray) (c : Cel) (b : Nat) (w : World) (hc : CelIn w b c) (hs : s.size ≤ 100000000) (he : ErrsAt w) :
    Calls Tryd.prog 34 #[.string s, .pointer (some ⟨b, 0, none⟩)] w fun e w' => e = .returned (.bool (numB s).isSome) ∧ (∃ u, (numB s = none ∨ numB s = some u) ∧ CelIn w' b { c with ts := u }) ∧ Fp [b] w w' := by
  have hN := Lib.hid (fun w => uint_any s w hs)
  have HC := Lib.hid hc
  have HE := Lib.hid he
  clear hc he
  go_enter Tryd.func34, Tryd.ntmps34
  go_wp2_with (fail)
  (with_reducible refine (hN.out _ HE.out).mono ?_)
  rintro e w1 ⟨u, ev, rfl, ho, hu, hf⟩
  have HC1 := Lib.hid (HC.out.fp hf (by simp))
  have HF := Lib.hid hf
  have q0 : w1.cell? ⟨b, 2, none⟩ = some (.int .u64 c.ts) := HC1.out.cell 2
  have f0 := HC1.out.free 2
  clear hf
  rcases numB_out ho with ⟨h1, rfl, h2⟩ | ⟨h1, rfl, h2⟩ | ⟨h1, t, p, rfl⟩
  all_goals
    clear ho
    have H1 := Lib.hid h1
    clear h1
    go_wp2_with (fail)
    go_ret
    rw [H1.out]
    refine ⟨?_, ⟨u, ?_, HC1.out.set 2 _ rfl⟩, (HF.out.mono (S' := [b]) (by simp)).trans (Fp.setCell _ _ _) (by simp)⟩
    · first | exact ret_bool rfl | exact ret_bool (decide_eq_true (by omega)) | exact ret_bool (decide_eq_false (by omega))
    · first | exact Or.inl rfl | exact Or.inr rfl

theorem cut_any (s : ByteArray) (w : World) :
    Calls Tryd.prog 37 #[.string s, .string ⟨#[61]⟩] w fun e w' => e = .returned (.tuple #[.string ⟨(Lib.trimPrefix s.data.toList [61]).toArray⟩, .bool (Lib.hasPrefix s.data.toList [61])]) ∧ w = w' :=
  (Tryd.strings_CutPrefix s ⟨#[61]⟩ w).mono fun _ _ ⟨h1, h2⟩ => ⟨h1, h2.symm⟩

/-- the last word's value: what stands behind '=' -/
def restB (s : ByteArray) : ByteArray := ⟨(Lib.trimPrefix s.data.toList [61]).toArray⟩
def goneB (s : ByteArray) : Bool := s.toList == [45]
def valB (s : ByteArray) : Bool := Lib.hasPrefix s.data.toList [61] && (wordB s && decide ((restB s).size ≤ 100))

theorem step4_any (s : ByteArray) (c : Cel) (b : Nat) (w : World) (hc : CelIn w b c) :
    Calls Tryd.prog 36 #[.string s, .pointer (some ⟨b, 0, none⟩)] w fun e w' => e = .returned (.bool (goneB s || valB s)) ∧ CelIn w' b { c with del := goneB s, val := if goneB s = true then c.val else restB s } ∧ Fp [b] w w' := by
  have hN := Lib.hid (word_any s)
  have hCut := Lib.hid (cut_any s)
  have HC := Lib.hid hc
  have q4 : w.cell? ⟨b, 4, none⟩ = some (.bool c.del) := hc.cell 4
  have f4 := hc.free 4
  clear hc
  obtain ⟨g, hg⟩ : ∃ g, goneB s = g := ⟨_, rfl⟩
  have hg2 : (s.toList == [45]) = g := hg
  rw [hg]
  have HC1 := Lib.hid (HC.out.set (c' := { c with del := g }) 4 (.bool g) rfl)
  have HF1 := Lib.hid (Fp.setCell w ⟨b, 4, none⟩ (.bool g))
  have q41 : (w.setCell ⟨b, 4, none⟩ (.bool g)).cell? ⟨b, 4, none⟩ = some (.bool g) := HC1.out.cell 4
  cases g
  · go_enter Tryd.func36, Tryd.ntmps36
    go_wp2_with (fail)
    (with_reducible refine (hCut.out _).mono ?_)
    rintro e w1 ⟨rfl, rfl⟩
    have q5 : (w.setCell ⟨b, 4, none⟩ (.bool false)).cell? ⟨b, 5, none⟩ = some (.string c.val) := HC1.out.cell 5
    have f5 := HC1.out.free 5
    have HC2 := Lib.hid (HC1.out.set (c' := { c with del := false, val := restB s }) 5 (.string (restB s)) rfl)
    have HF2 := Lib.hid (HF1.out.trans (Fp.setCell _ ⟨b, 5, none⟩ (.string (restB s))) (by simp))
    have q52 : ((w.setCell ⟨b, 4, none⟩ (.bool false)).setCell ⟨b, 5, none⟩ (.string (restB s))).cell? ⟨b, 5, none⟩ = some (.string (restB s)) := HC2.out.cell 5
    rw [show (⟨(Lib.trimPrefix s.data.toList [61]).toArray⟩ : ByteArray) = restB s from rfl]
    obtain ⟨h, hh⟩ : ∃ h, Lib.hasPrefix s.data.toList [61] = h := ⟨_, rfl⟩
    obtain ⟨wb, hw⟩ : ∃ wb, wordB s = wb := ⟨_, rfl⟩
    have HV : Hid (valB s = (h && (wb && decide ((restB s).size ≤ 100)))) := by unfold Hid valB; rw [hh, hw]
    rw [hh]
    rw [hw] at hN
    clear hCut hg hg2
    cases h
    · go_wp2_with (fail)
      go_ret
      rw [HV.out]
      exact ⟨rfl, HC2.out, HF2.out.mono (by simp)⟩
    · cases wb
      all_goals
        go_wp2_with (fail)
        (with_reducible refine (hN.out _).mono ?_)
        rintro e w1 ⟨rfl, hf⟩
        have HC3 := Lib.hid (HC2.out.fp hf (by simp))
        have HF3 := Lib.hid (HF2.out.trans hf (by simp))
        have q53 : w1.cell? ⟨b, 5, none⟩ = some (.string (restB s)) := HC3.out.cell 5
        clear hf
        go_wp2_with (fail)
        go_ret
        rw [HV.out]
        refine ⟨?_, HC3.out, HF3.out.mono (by simp)⟩
      · exact ret_bool rfl
      · exact ret_bool (decide_eq_decide.2 (by omega))
  · go_enter Tryd.func36, Tryd.ntmps36
    go_wp2_with (fail)
    go_ret
    exact ⟨rfl, HC1.out, HF1.out⟩
end Go.Proofs.YtfhjdfimkeogaaaDoor
