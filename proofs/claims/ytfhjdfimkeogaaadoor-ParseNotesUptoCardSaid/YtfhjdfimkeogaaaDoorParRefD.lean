/-
  The reference of layer 7: line.
-/
import Derived.Test.YtfhjdfimkeogaaaDoorParRefC
namespace Go.Proofs.YtfhjdfimkeogaaaDoor
open Go.RowKit Go.Lib

theorem has_at {d : ByteArray} (h : 0 < d.size) : hasPrefix d.data.toList [61] = ((d[0].toNat : Int) == 61) := by
  have e := get_data h
  cases hd : d.data.toList with
  | nil => rw [hd] at e; cases e
  | cons x r =>
    rw [hd] at e
    have hx : x = d[0] := by simpa using e
    rw [← hx]
    unfold hasPrefix
    rw [Bool.eq_iff_iff, beq_iff_eq]
    simp only [List.isPrefixOf, Bool.and_true, beq_iff_eq]
    constructor
    · intro e2; rw [← e2]; rfl
    · intro e2
      refine (UInt8.toNat_inj.1 ?_)
      have h3 : (x.toNat : Int) = 61 := e2
      show (61 : Nat) = x.toNat
      omega
theorem rest_at {d : ByteArray} (h : hasPrefix d.data.toList [61] = true) : restB d = d.extract 1 d.size := by
  apply data_inj
  rw [extract_to_end]
  unfold restB Lib.trimPrefix
  rw [if_pos h]
  simp
/-- what the last word says, as the document reads it -/
theorem val_at {d : ByteArray} (hw : wordB d = true) (h : 0 < d.size) : valB d = (((d[0].toNat : Int) == 61) && decide ((d.extract 1 d.size).size ≤ 100)) := by
  unfold valB
  rw [hw, Bool.true_and, has_at h]
  by_cases e : ((d[0].toNat : Int) == 61) = true
  · rw [rest_at (by rw [has_at h]; exact e)]
  · have e' : ((d[0].toNat : Int) == 61) = false := by simpa using e
    rw [e', Bool.false_and, Bool.false_and]
theorem word_pos {d : ByteArray} (h : wordB d = true) : 0 < d.size := by
  unfold wordB at h
  rw [Bool.and_eq_true, decide_eq_true_eq] at h
  omega
theorem gone_word {d : ByteArray} (h : goneB d = true) : wordB d = true := by
  have e : d.toList = [45] := by simpa [goneB] using h
  rw [ByteArray.toList_eq] at e
  have : d = ⟨#[45]⟩ := data_inj e
  rw [this]; rfl
theorem val_word {d : ByteArray} (h : valB d = true) : wordB d = true := by
  unfold valB at h
  simp only [Bool.and_eq_true] at h
  exact h.2.1
theorem four_no {a b c d : ByteArray} (h : wordB a = false ∨ wordB b = false ∨ wordB d = false ∨ ¬ a.size ≤ 40 ∨ ¬ b.size ≤ 40 ∨ numB c = none ∨ (goneB d || valB d) = false) : fourB a b c d = none := by
  unfold fourB
  by_cases hn : numB c = none
  · rw [hn]; split <;> rfl
  · rw [if_neg]
    rintro ⟨h1, h2, h3⟩
    unfold nameB at h1 h2
    simp only [Bool.and_eq_true, decide_eq_true_eq] at h1 h2
    have h4 : wordB d = true := by
      rcases Bool.or_eq_true_iff.1 h3 with h3 | h3
      · exact gone_word h3
      · exact val_word h3
    rcases h with h | h | h | h | h | h | h
    · rw [h1.1] at h; cases h
    · rw [h2.1] at h; cases h
    · rw [h4] at h; cases h
    · exact h h1.2
    · exact h h2.2
    · exact hn h
    · rw [h3] at h; cases h
theorem four_yes {a b c d : ByteArray} {u : Nat} (h1 : wordB a = true) (h2 : wordB b = true) (h4 : a.size ≤ 40) (h5 : b.size ≤ 40) (h6 : numB c = some u) (h7 : (goneB d || valB d) = true) :
    fourB a b c d = some ⟨a, b, u, 0, goneB d, if goneB d = true then ⟨#[]⟩ else restB d⟩ := by
  unfold fourB nameB
  rw [h1, h2, h6, h7, decide_eq_true h4, decide_eq_true h5, if_pos ⟨rfl, rfl, rfl⟩]; rfl
theorem OwnS.at4 {w : World} {base : Nat} {v : Value} {a b c d : ByteArray} (h : OwnS w base v [a, b, c, d]) : ∃ g cap, v = .slice (some ⟨g, 0, none⟩) 4 cap ∧ base ≤ g ∧ g < w.heap.size ∧
    ∀ w', Fp [] w w' → w'.cell? ⟨g, 0, none⟩ = some (.string a) ∧ w'.cell? ⟨g, 1, none⟩ = some (.string b) ∧ w'.cell? ⟨g, 2, none⟩ = some (.string c) ∧ w'.cell? ⟨g, 3, none⟩ = some (.string d) := by
  rcases h.at with ⟨_, h | ⟨g, cap, hv, hg, hl, hc⟩⟩
  · cases h
  · refine ⟨g, cap, hv, hg, hl, fun w' hf => ?_⟩
    have k : ∀ i (hi : i < [a, b, c, d].length), w'.cell? ⟨g, i, none⟩ = some (.string [a, b, c, d][i]) := fun i hi => (hf.cell (p := ⟨g, i, none⟩) hl List.not_mem_nil).trans (hc i hi)
    exact ⟨k 0 (by simp), k 1 (by simp), k 2 (by simp), k 3 (by simp)⟩

/-- what the document's line hands back: a cell that may not be one, and whether it is one -/
def RLine (s : ByteArray) (e : Ending) : Prop := ∃ c, e = .returned (.tuple #[cellV c, .bool (lineP s).isSome]) ∧ (lineP s = none ∨ lineP s = some c)

set_option maxRecDepth 100000 in
set_option maxHeartbeats 8000000 in
theorem rline_any (s : ByteArray) (w : World) (hs : s.size ≤ 100000000) :
    Calls Tryd.prog 20 #[.string s] w fun e w' => RLine s e ∧ Fp [] w w' := by
  have hS := Lib.hid (fun w => words_any s w hs)
  by_cases h4 : (pieces 32 s).length = 4
  · obtain ⟨a, b, c, d, he⟩ := four_of h4
    have HSM := Lib.hid (fun x => pieces_small (c := 32) (s := s) (x := x))
    have hLP : lineP s = fourB a b c d := by unfold lineP; rw [he]
    rw [he] at hS HSM
    have HSA : a.size ≤ 100000000 := by have := HSM.out a (by simp); omega
    have HSB : b.size ≤ 100000000 := by have := HSM.out b (by simp); omega
    have HSC : c.size ≤ 100000000 := by have := HSM.out c (by simp); omega
    have HSD : d.size ≤ 100000000 := by have := HSM.out d (by simp); omega
    have HA := Lib.hid (fun w => rword_any a w HSA)
    have HB := Lib.hid (fun w => rword_any b w HSB)
    have HD := Lib.hid (fun w => rword_any d w HSD)
    have HC := Lib.hid (fun w => digits_any c w HSC)
    have HSD2 : (d.size : Int) ≤ 100000000 := by omega
    obtain ⟨wa, hwa⟩ : ∃ wa, wordB a = wa := ⟨_, rfl⟩
    obtain ⟨wb, hwb⟩ : ∃ wb, wordB b = wb := ⟨_, rfl⟩
    obtain ⟨wd, hwd⟩ : ∃ wd, wordB d = wd := ⟨_, rfl⟩
    rw [hwa] at HA
    rw [hwb] at HB
    rw [hwd] at HD
    have HL := Lib.hid hLP
    clear h4 he hLP HSM
    go_enter Tryd.func20, Tryd.ntmps20
    go_wp2_with (fail)
    (with_reducible refine (hS.out _).mono ?_)
    rintro e w1 ⟨⟨v, rfl, ho⟩, hf⟩
    have HC1 : Hid (CelIn w1 w.heap.size zeroC) := CelIn.fp (S := []) (heap_alloc_at rfl _) hf List.not_mem_nil
    have HF1 := Lib.hid ((Fp.alloc w _).trans hf (by simp))
    obtain ⟨g, cap, rfl, hg, hgl, hcells⟩ := ho.at4
    have HCE := Lib.hid hcells
    obtain ⟨p0, p1, p2, p3⟩ := hcells w1 (Fp.refl _ _)
    clear hf ho hcells
    have HFW1 := Lib.hid (Fp.refl [] w1)
    go_wp2_with (fail)
    clear p0 p1 p2 p3
    (with_reducible refine (HA.out _).mono ?_)
    rintro e w2 ⟨rfl, hf⟩
    have HC2 := Lib.hid (HC1.out.fp hf (by simp))
    have HF2 := Lib.hid (HF1.out.trans hf (by simp))
    obtain ⟨p0, p1, p2, p3⟩ := HCE.out w2 (HFW1.out.trans hf (by simp))
    have HFW2 := Lib.hid (HFW1.out.trans hf (by simp))
    clear hf
    cases wa
    · have HN : Hid (lineP s = none) := HL.out.trans (four_no (Or.inl hwa))
      clear hwa hwb hwd
      obtain ⟨q0, q1, q2, q3, q4, q5, f0, f1, f2, f3, f4, f5⟩ := HC2.out.facts0
      go_wp2_with (fail)
      refine bodyPost_ret (v := .tuple #[cellV zeroC, .bool false]) (by simp [results, Tryd.results20, cellV, zeroC, go_sem, *]) rfl ⟨⟨zeroC, by rw [HN.out]; rfl, Or.inl HN.out⟩, ?_⟩
      repeat (first | (with_reducible refine Fp.drew' ?_) | (with_reducible refine Fp.setCell' ?_ (Or.inr (Nat.le_refl _)) _) | (with_reducible refine Fp.alloc' ?_ _) | (with_reducible exact HF2.out))
    go_wp2_with (fail)
    clear p0 p1 p2 p3
    (with_reducible refine (HB.out _).mono ?_)
    rintro e w3 ⟨rfl, hf⟩
    have HC3 := Lib.hid (HC2.out.fp hf (by simp))
    have HF3 := Lib.hid (HF2.out.trans hf (by simp))
    obtain ⟨p0, p1, p2, p3⟩ := HCE.out w3 (HFW2.out.trans hf (by simp))
    have HFW3 := Lib.hid (HFW2.out.trans hf (by simp))
    clear hf
    cases wb
    · have HN : Hid (lineP s = none) := HL.out.trans (four_no (Or.inr (Or.inl hwb)))
      clear hwa hwb hwd
      obtain ⟨q0, q1, q2, q3, q4, q5, f0, f1, f2, f3, f4, f5⟩ := HC3.out.facts0
      go_wp2_with (fail)
      refine bodyPost_ret (v := .tuple #[cellV zeroC, .bool false]) (by simp [results, Tryd.results20, cellV, zeroC, go_sem, *]) rfl ⟨⟨zeroC, by rw [HN.out]; rfl, Or.inl HN.out⟩, ?_⟩
      repeat (first | (with_reducible refine Fp.drew' ?_) | (with_reducible refine Fp.setCell' ?_ (Or.inr (Nat.le_refl _)) _) | (with_reducible refine Fp.alloc' ?_ _) | (with_reducible exact HF3.out))
    go_wp2_with (fail)
    clear p0 p1 p2 p3
    (with_reducible refine (HD.out _).mono ?_)
    rintro e w4 ⟨rfl, hf⟩
    have HC4 := Lib.hid (HC3.out.fp hf (by simp))
    have HF4 := Lib.hid (HF3.out.trans hf (by simp))
    obtain ⟨p0, p1, p2, p3⟩ := HCE.out w4 (HFW3.out.trans hf (by simp))
    have HFW4 := Lib.hid (HFW3.out.trans hf (by simp))
    clear hf
    cases wd
    · have HN : Hid (lineP s = none) := HL.out.trans (four_no (Or.inr (Or.inr (Or.inl hwd))))
      clear hwa hwb hwd
      obtain ⟨q0, q1, q2, q3, q4, q5, f0, f1, f2, f3, f4, f5⟩ := HC4.out.facts0
      go_wp2_with (fail)
      refine bodyPost_ret (v := .tuple #[cellV zeroC, .bool false]) (by simp [results, Tryd.results20, cellV, zeroC, go_sem, *]) rfl ⟨⟨zeroC, by rw [HN.out]; rfl, Or.inl HN.out⟩, ?_⟩
      repeat (first | (with_reducible refine Fp.drew' ?_) | (with_reducible refine Fp.setCell' ?_ (Or.inr (Nat.le_refl _)) _) | (with_reducible refine Fp.alloc' ?_ _) | (with_reducible exact HF4.out))
    by_cases ha : ¬ a.size ≤ 40
    · have HN : Hid (lineP s = none) := HL.out.trans (four_no (Or.inr (Or.inr (Or.inr (Or.inl ha)))))
      have z : (a.size : Int) > 40 := by omega
      clear hwa hwb hwd
      obtain ⟨q0, q1, q2, q3, q4, q5, f0, f1, f2, f3, f4, f5⟩ := HC4.out.facts0
      go_wp2_with (fail)
      refine bodyPost_ret (v := .tuple #[cellV zeroC, .bool false]) (by simp [results, Tryd.results20, cellV, zeroC, go_sem, *]) rfl ⟨⟨zeroC, by rw [HN.out]; rfl, Or.inl HN.out⟩, ?_⟩
      repeat (first | (with_reducible refine Fp.drew' ?_) | (with_reducible refine Fp.setCell' ?_ (Or.inr (Nat.le_refl _)) _) | (with_reducible refine Fp.alloc' ?_ _) | (with_reducible exact HF4.out))
    have za : ¬ (a.size : Int) > 40 := by omega
    by_cases hb : ¬ b.size ≤ 40
    · have HN : Hid (lineP s = none) := HL.out.trans (four_no (Or.inr (Or.inr (Or.inr (Or.inr (Or.inl hb))))))
      have z : (b.size : Int) > 40 := by omega
      clear hwa hwb hwd
      obtain ⟨q0, q1, q2, q3, q4, q5, f0, f1, f2, f3, f4, f5⟩ := HC4.out.facts0
      go_wp2_with (fail)
      refine bodyPost_ret (v := .tuple #[cellV zeroC, .bool false]) (by simp [results, Tryd.results20, cellV, zeroC, go_sem, *]) rfl ⟨⟨zeroC, by rw [HN.out]; rfl, Or.inl HN.out⟩, ?_⟩
      repeat (first | (with_reducible refine Fp.drew' ?_) | (with_reducible refine Fp.setCell' ?_ (Or.inr (Nat.le_refl _)) _) | (with_reducible refine Fp.alloc' ?_ _) | (with_reducible exact HF4.out))
    have zb : ¬ (b.size : Int) > 40 := by omega
    have HA40 : Hid (a.size ≤ 40 ∧ b.size ≤ 40) := ⟨by omega, by omega⟩
    have HWD := Lib.hid hwd
    have HWA := Lib.hid hwa
    have HWB := Lib.hid hwb
    clear hwa hwb hwd ha hb
    go_wp2_with (fail)
    clear p0 p1 p2 p3
    (with_reducible refine (HC.out _).mono ?_)
    rintro e w5 ⟨⟨u, rfl, hu⟩, hf⟩
    have HC5 := Lib.hid (HC4.out.fp hf (by simp))
    have HF5 := Lib.hid (HF4.out.trans hf (by simp))
    obtain ⟨p0, p1, p2, p3⟩ := HCE.out w5 (HFW4.out.trans hf (by simp))
    have HFW5 := Lib.hid (HFW4.out.trans hf (by simp))
    clear hf
    cases hn : numB c with
    | none =>
      have HN : Hid (lineP s = none) := HL.out.trans (four_no (Or.inr (Or.inr (Or.inr (Or.inr (Or.inr (Or.inl hn)))))))
      rw [show (Option.none : Option Nat).isSome = false from rfl]
      clear hn hu
      obtain ⟨q0, q1, q2, q3, q4, q5, f0, f1, f2, f3, f4, f5⟩ := HC5.out.facts0
      go_wp2_with (fail)
      refine bodyPost_ret (v := .tuple #[cellV zeroC, .bool false]) (by simp [results, Tryd.results20, cellV, zeroC, go_sem, *]) rfl ⟨⟨zeroC, by rw [HN.out]; rfl, Or.inl HN.out⟩, ?_⟩
      repeat (first | (with_reducible refine Fp.drew' ?_) | (with_reducible refine Fp.setCell' ?_ (Or.inr (Nat.le_refl _)) _) | (with_reducible refine Fp.alloc' ?_ _) | (with_reducible exact HF5.out))
    | some u' =>
      obtain rfl : u' = u := by
        rcases hu with hu | hu
        · rw [hn] at hu; cases hu
        · rw [hn] at hu; exact Option.some.inj hu
      have HNU := Lib.hid hn
      rw [show (Option.some u').isSome = true from rfl]
      clear hu hn
      have hd0 : 0 < d.size := word_pos HWD.out
      have HK := Lib.hid (fun X : Obj => HCE.out (w5.alloc X).drew (HFW5.out.trans ((Fp.alloc w5 X).drew') (by simp)))
      have k0 := fun X : Obj => (HK.out X).1
      have k1 := fun X : Obj => (HK.out X).2.1
      have d0 : w5.drew.cell? ⟨g, 0, none⟩ = some (.string a) := p0
      have d1 : w5.drew.cell? ⟨g, 1, none⟩ = some (.string b) := p1
      clear p2 p3
      go_wp2_with (fail)
      go_region
      obtain ⟨w6, hw6⟩ : ∃ w6, (w5.alloc (.cells #[.string a, .string b, .int .u64 u', .int .u64 0, .bool false, .string ⟨#[]⟩] 38)).drew = w6 := ⟨_, rfl⟩
      rw [hw6]
      have HX6 : Hid (CelIn w6 w5.heap.size ⟨a, b, u', 0, false, ⟨#[]⟩⟩) := by rw [← hw6]; exact CelIn.fp (S := []) (heap_alloc_at rfl _) (Fp.drew _) List.not_mem_nil
      have hf6 : Fp [] w5 w6 := by rw [← hw6]; exact (Fp.alloc w5 _).drew'
      have HF6 := Lib.hid (HF5.out.trans hf6 (by simp))
      have HC6 := Lib.hid (HC5.out.fp hf6 (by simp))
      obtain ⟨p0, p1, p2, p3⟩ := HCE.out w6 (HFW5.out.trans hf6 (by simp))
      have HFW6 := Lib.hid (HFW5.out.trans hf6 (by simp))
      obtain ⟨B, hB⟩ : ∃ B, w5.heap.size = B := ⟨_, rfl⟩
      rw [hB] at HX6
      rw [hB]
      have hne1 : ¬ w.heap.size = B := by have := heap_lt HC5.out; omega
      have hne2 : ¬ B = w.heap.size := fun e => hne1 e.symm
      have hne3 : ¬ g = B := by have := HFW5.out.size; omega
      have hne4 : ¬ B = g := fun e => hne3 e.symm
      have hle : Hid (w.heap.size ≤ B) := by have := HF5.out.size; unfold Hid; omega
      clear hf6 hw6 hB k0 k1 d0 d1 p0 p1 p2
      obtain ⟨q0, q1, q2, q3, q4, q5, f0, f1, f2, f3, f4, f5⟩ := HC6.out.facts0
      obtain ⟨x0, x1, x2, x3, x4, x5, y0, y1, y2, y3, y4, y5⟩ := HX6.out.facts0
      obtain ⟨gd, hgd⟩ : ∃ gd, goneB d = gd := ⟨_, rfl⟩
      have hgd2 : (d.toList == [45]) = gd := hgd
      have HGD := Lib.hid hgd
      clear hgd
      cases gd
      · go_wp2_with (fail)
        obtain ⟨v, hv⟩ : ∃ v, d.extract 1 d.size = v := ⟨_, rfl⟩
        have HVA : Hid (valB d = (((d[0].toNat : Int) == 61) && decide (v.size ≤ 100))) := by rw [← hv]; exact val_at HWD.out hd0
        have HRE : Hid (((d[0].toNat : Int) == 61) = true → restB d = v) := by intro e; rw [← hv]; exact rest_at (by rw [has_at hd0]; exact e)
        rw [hv]
        obtain ⟨w7, hw7⟩ : ∃ w7, w6.setCell ⟨B, 5, none⟩ (.string v) = w7 := ⟨_, rfl⟩
        rw [hw7]
        have HX7 : Hid (CelIn w7 B ⟨a, b, u', 0, false, v⟩) := by rw [← hw7]; exact HX6.out.set 5 _ rfl
        have hf7 : Fp [B] w6 w7 := by rw [← hw7]; exact Fp.setCell w6 ⟨B, 5, none⟩ _
        have HF7 := Lib.hid (HF6.out.trans hf7 (by have := hle.out; simpa using this))
        have HC7 := Lib.hid (HC6.out.fp hf7 (by simpa using hne1))
        have p37 : w7.cell? ⟨g, 3, none⟩ = some (.string d) := by rw [hf7.cell (p := ⟨g, 3, none⟩) (World.block_lt_of_cell? _ _ p3) (by simpa using hne3)]; exact p3
        clear q0 q1 q2 q3 q4 q5 f0 f1 f2 f3 f4 f5 x0 x1 x2 x3 x4 x5 y0 y1 y2 y3 y4 y5 p3 hw7 hf7 hv
        obtain ⟨q0, q1, q2, q3, q4, q5, f0, f1, f2, f3, f4, f5⟩ := HC7.out.facts0
        obtain ⟨x0, x1, x2, x3, x4, x5, y0, y1, y2, y3, y4, y5⟩ := HX7.out.facts0
        obtain ⟨e0, he0⟩ : ∃ e0, ((d[0].toNat : Int) == 61) = e0 := ⟨_, rfl⟩
        rw [he0] at HVA HRE
        cases e0
        · have HN : Hid (lineP s = none) := HL.out.trans (four_no (Or.inr (Or.inr (Or.inr (Or.inr (Or.inr (Or.inr (by rw [HGD.out, HVA.out]; rfl))))))))
          have he1 : ¬ (d[0].toNat : Int) = 61 := beq_eq_false_iff_ne.1 he0
          go_wp2_with (fail)
          go_region
          go_wp2_with (fail)
          refine bodyPost_ret (v := .tuple #[cellV ⟨a, b, u', 0, false, v⟩, .bool false]) (by simp [results, Tryd.results20, cellV, zeroC, go_sem, *]) rfl ⟨⟨⟨a, b, u', 0, false, v⟩, by rw [HN.out]; rfl, Or.inl HN.out⟩, ?_⟩
          repeat (first | (with_reducible refine Fp.drew' ?_) | (with_reducible refine Fp.setCell' ?_ (Or.inr (Nat.le_refl _)) _) | (with_reducible refine Fp.setCell' ?_ (Or.inr hle.out) _) | (with_reducible refine Fp.alloc' ?_ _) | (with_reducible exact HF7.out))
        · have he1 : (d[0].toNat : Int) = 61 := beq_iff_eq.1 he0
          by_cases hv1 : v.size ≤ 100
          · have HN : Hid (lineP s = some ⟨a, b, u', 0, false, v⟩) := HL.out.trans ((four_yes HWA.out HWB.out HA40.out.1 HA40.out.2 HNU.out (by rw [HGD.out, HVA.out, decide_eq_true hv1]; rfl)).trans (by rw [HGD.out, HRE.out rfl]; rfl))
            have z1 : (v.size : Int) ≤ 100 := by omega
            go_wp2_with (fail)
            go_region
            go_wp2_with (fail)
            refine bodyPost_ret (v := .tuple #[cellV ⟨a, b, u', 0, false, v⟩, .bool true]) (by simp [results, Tryd.results20, cellV, zeroC, go_sem, *]) rfl ⟨⟨⟨a, b, u', 0, false, v⟩, by rw [HN.out]; rfl, Or.inr HN.out⟩, ?_⟩
            repeat (first | (with_reducible refine Fp.drew' ?_) | (with_reducible refine Fp.setCell' ?_ (Or.inr (Nat.le_refl _)) _) | (with_reducible refine Fp.setCell' ?_ (Or.inr hle.out) _) | (with_reducible refine Fp.alloc' ?_ _) | (with_reducible exact HF7.out))
          · have HN : Hid (lineP s = none) := HL.out.trans (four_no (Or.inr (Or.inr (Or.inr (Or.inr (Or.inr (Or.inr (by rw [HGD.out, HVA.out, decide_eq_false hv1]; rfl))))))))
            have z1 : ¬ (v.size : Int) ≤ 100 := by omega
            go_wp2_with (fail)
            go_region
            go_wp2_with (fail)
            refine bodyPost_ret (v := .tuple #[cellV ⟨a, b, u', 0, false, v⟩, .bool false]) (by simp [results, Tryd.results20, cellV, zeroC, go_sem, *]) rfl ⟨⟨⟨a, b, u', 0, false, v⟩, by rw [HN.out]; rfl, Or.inl HN.out⟩, ?_⟩
            repeat (first | (with_reducible refine Fp.drew' ?_) | (with_reducible refine Fp.setCell' ?_ (Or.inr (Nat.le_refl _)) _) | (with_reducible refine Fp.setCell' ?_ (Or.inr hle.out) _) | (with_reducible refine Fp.alloc' ?_ _) | (with_reducible exact HF7.out))
      · have HN : Hid (lineP s = some ⟨a, b, u', 0, true, ⟨#[]⟩⟩) := HL.out.trans ((four_yes HWA.out HWB.out HA40.out.1 HA40.out.2 HNU.out (by rw [HGD.out]; rfl)).trans (by rw [HGD.out]; rfl))
        go_wp2_with (fail)
        refine bodyPost_ret (v := .tuple #[cellV ⟨a, b, u', 0, true, ⟨#[]⟩⟩, .bool true]) (by simp [results, Tryd.results20, cellV, zeroC, go_sem, *]) rfl ⟨⟨⟨a, b, u', 0, true, ⟨#[]⟩⟩, by rw [HN.out]; rfl, Or.inr HN.out⟩, ?_⟩
        repeat (first | (with_reducible refine Fp.drew' ?_) | (with_reducible refine Fp.setCell' ?_ (Or.inr (Nat.le_refl _)) _) | (with_reducible refine Fp.setCell' ?_ (Or.inr hle.out) _) | (with_reducible refine Fp.alloc' ?_ _) | (with_reducible exact HF6.out))
  · have hl := lineP_not h4
    have HN := Lib.hid hl
    obtain ⟨n, hn⟩ : ∃ n, (pieces 32 s).length = n := ⟨_, rfl⟩
    have h4' : ¬ ((n : Nat) : Int) = 4 := by omega
    go_enter Tryd.func20, Tryd.ntmps20
    go_wp2_with (fail)
    (with_reducible refine (hS.out _).mono ?_)
    rintro e w1 ⟨⟨v, rfl, ho⟩, hf⟩
    obtain ⟨⟨ad, cap, rfl⟩, _⟩ := ho.at
    rw [hn]
    have HC1 : Hid (CelIn w1 w.heap.size zeroC) := CelIn.fp (S := []) (heap_alloc_at rfl _) hf List.not_mem_nil
    have HF1 := Lib.hid ((Fp.alloc w _).trans hf (by simp))
    clear hf ho hn hS h4
    obtain ⟨q0, q1, q2, q3, q4, q5, f0, f1, f2, f3, f4, f5⟩ := HC1.out.facts0
    go_wp2_with (fail)
    refine bodyPost_ret (v := .tuple #[cellV zeroC, .bool false]) (by simp [results, Tryd.results20, cellV, zeroC, go_sem, *]) rfl ⟨⟨zeroC, by rw [HN.out]; rfl, Or.inl HN.out⟩, ?_⟩
    repeat (first | (with_reducible refine Fp.drew' ?_) | (with_reducible refine Fp.setCell' ?_ (Or.inr (Nat.le_refl _)) _) | (with_reducible refine Fp.alloc' ?_ _) | (with_reducible exact HF1.out))
end Go.Proofs.YtfhjdfimkeogaaaDoor
