/-
  The reference of layer 7: Cells.
-/
import Derived.Test.YtfhjdfimkeogaaaDoorParRefD
namespace Go.Proofs.YtfhjdfimkeogaaaDoor
open Go.RowKit Go.Lib

/-- what holds at the head of the loop: j lines are done, the next one begins at f -/
structure RCell (w wr : World) (s : ByteArray) (k f j : Nat) (va : Value) (acc : List Cel) : Prop where
  fp : Fp [] w wr
  own : OwnC wr w.heap.size va acc
  few : acc.length ≤ j
  jk : j ≤ k
  fk : f ≤ k
  go : cellsGo 0 [] (pieces 10 s) = cellsGo j acc ((pieces 10 s).drop j)
  rest : (k ≤ s.size ∧ ((pieces 10 s).drop j).map (fun t => t.data.toList) = splitL 10 (s.data.toList.drop f) ∧ ∀ i (hi : i < s.size), f ≤ i → i < k → s[i] ≠ 10) ∨ (k = s.size + 1 ∧ (pieces 10 s).drop j = [])

theorem extract_at {s : ByteArray} {f k : Nat} : (s.extract f k).data.toList = (s.data.toList.drop f).take (k - f) := by
  rw [extract_data]
theorem no_of {s : ByteArray} {f k : Nat} (hk : k ≤ s.size) (h : ∀ i (hi : i < s.size), f ≤ i → i < k → s[i] ≠ 10) : ∀ b ∈ (s.data.toList.drop f).take (k - f), b ≠ 10 := by
  intro b hb
  obtain ⟨i, hi, rfl⟩ := List.getElem_of_mem hb
  rw [List.length_take, List.length_drop, ← size_eq] at hi
  have hs : f + i < s.size := by omega
  have e := get_data hs
  have hl : f + i < s.data.toList.length := by rw [← size_eq]; exact hs
  rw [List.getElem?_eq_getElem hl] at e
  rw [List.getElem_take, List.getElem_drop, Option.some.inj e]
  exact h (f + i) hs (by omega) (by omega)
theorem piece_end {s : ByteArray} {f j : Nat} (hr : ((pieces 10 s).drop j).map (fun t => t.data.toList) = splitL 10 (s.data.toList.drop f)) (hn : ∀ i (hi : i < s.size), f ≤ i → i < s.size → s[i] ≠ 10) :
    (pieces 10 s).drop j = [s.extract f s.size] := by
  apply map_data_inj
  rw [hr]
  have h := no_of (Nat.le_refl _) hn
  have e : (s.data.toList.drop f).take (s.size - f) = s.data.toList.drop f := List.take_of_length_le (by rw [List.length_drop, ← size_eq]; exact Nat.le_refl _)
  rw [e] at h
  rw [splitL_none 10 _ h, List.map_cons, extract_at, e]; rfl
theorem piece_at {s : ByteArray} {f k j : Nat} (hf : f ≤ k) (hk : k < s.size) (hb : s[k] = 10) (hr : ((pieces 10 s).drop j).map (fun t => t.data.toList) = splitL 10 (s.data.toList.drop f)) (hn : ∀ i (hi : i < s.size), f ≤ i → i < k → s[i] ≠ 10) :
    (pieces 10 s).drop j = s.extract f k :: (pieces 10 s).drop (j + 1) ∧ ((pieces 10 s).drop (j + 1)).map (fun t => t.data.toList) = splitL 10 (s.data.toList.drop (k + 1)) := by
  have h := no_of (Nat.le_of_lt hk) hn
  have e : s.data.toList.drop f = (s.data.toList.drop f).take (k - f) ++ 10 :: s.data.toList.drop (k + 1) := by
    have e1 : (s.data.toList.drop f).drop (k - f) = s.data.toList.drop k := by rw [List.drop_drop, show f + (k - f) = k by omega]
    conv => lhs; rw [← List.take_append_drop (k - f) (s.data.toList.drop f)]
    rw [e1, drop_at hk, hb]
  rw [e, splitL_at 10 _ _ h] at hr
  cases hd : (pieces 10 s).drop j with
  | nil => rw [hd] at hr; cases hr
  | cons t r =>
    rw [hd, List.map_cons] at hr
    have h1 := (List.cons.inj hr).1
    have h2 := (List.cons.inj hr).2
    have h3 : (pieces 10 s).drop (j + 1) = r := by rw [← List.drop_drop, hd]; rfl
    rw [h3]
    exact ⟨by rw [data_inj (a := t) (b := s.extract f k) (h1.trans extract_at.symm)], h2⟩
/-- one more byte that ends no line -/
theorem RCell.on {w wr : World} {s : ByteArray} {k f j : Nat} {va : Value} {acc : List Cel} (h : RCell w wr s k f j va acc) (hk : k < s.size) (hb : s[k] ≠ 10) : RCell w wr s (k + 1) f j va acc := by
  refine ⟨h.fp, h.own, h.few, Nat.le_succ_of_le h.jk, Nat.le_succ_of_le h.fk, h.go, Or.inl ⟨hk, ?_, ?_⟩⟩
  · rcases h.rest with ⟨_, h2, _⟩ | ⟨e, _⟩
    · exact h2
    · omega
  · intro i hi h1 h2
    rcases h.rest with ⟨_, _, h3⟩ | ⟨e, _⟩
    · by_cases e : i = k
      · subst e; exact hb
      · exact h3 i hi h1 (by omega)
    · omega
/-- a line ends: it is the next one -/
theorem RCell.line {w wr : World} {s : ByteArray} {k f j : Nat} {va : Value} {acc : List Cel} (h : RCell w wr s k f j va acc) (hk : k ≤ s.size) (hb : ∀ (hk2 : k < s.size), s[k] = 10) :
    (pieces 10 s).drop j = s.extract f k :: (pieces 10 s).drop (j + 1) ∧ ∀ (wr' : World) (va' : Value) (acc' : List Cel), Fp [] w wr' → OwnC wr' w.heap.size va' acc' → acc'.length ≤ acc.length + 1 → cellsGo 0 [] (pieces 10 s) = cellsGo (j + 1) acc' ((pieces 10 s).drop (j + 1)) → RCell w wr' s (k + 1) (k + 1) (j + 1) va' acc' := by
  rcases h.rest with ⟨_, h2, h3⟩ | ⟨e, _⟩
  · by_cases hlt : k < s.size
    · obtain ⟨e1, e2⟩ := piece_at h.fk hlt (hb hlt) h2 h3
      exact ⟨e1, fun wr' va' acc' f1 o1 l1 g1 => ⟨f1, o1, by have := h.few; omega, by have := h.jk; omega, Nat.le_refl _, g1, Or.inl ⟨hlt, e2, fun i hi a b => absurd b (by omega)⟩⟩⟩
    · obtain rfl : k = s.size := by omega
      have e1 := piece_end h2 h3
      have e2 : (pieces 10 s).drop (j + 1) = [] := by rw [← List.drop_drop, e1]; rfl
      exact ⟨by rw [e1, e2], fun wr' va' acc' f1 o1 l1 g1 => ⟨f1, o1, by have := h.few; omega, by have := h.jk; omega, Nat.le_refl _, g1, Or.inr ⟨rfl, e2⟩⟩⟩
  · omega

set_option maxRecDepth 100000 in
set_option maxHeartbeats 8000000 in
theorem rcells_any (s : ByteArray) (w : World) (hs : s.size ≤ 100000000) :
    Calls Tryd.prog 11 #[.string s] w fun e w' => CellsOut w w' e (cellsP s) ∧ Fp [] w w' := by
  by_cases h4 : s.size > 4000
  · have HR : Hid (cellsP s = ([], 0, 71)) := if_pos h4
    go_enter Tryd.func11, Tryd.ntmps11
    go_wp2_with (fail)
    rw [HR.out]
    refine bodyPost_ret (v := .tuple #[.slice none 0 0, .int .i64 0, .int .i64 71]) (by simp [results, Tryd.results11, go_sem, *]) rfl ⟨⟨_, rfl, OwnC.nil _ _⟩, ?_⟩
    exact Fp.refl _ _
  · have HR : Hid (cellsP s = cellsGo 0 [] (pieces 10 s)) := if_neg h4
    have h4' : ¬ ((s.size : Nat) : Int) > 4000 := by omega
    go_enter Tryd.func11, Tryd.ntmps11
    go_wp2_with (fail)
    go_loopg [5, 6, 7, 8] (s.size + 1) (fun g va vn vf vi wr => ∃ k f j acc, g + k = s.size + 1 ∧ vi = .int .i64 (k : Nat) ∧ vf = .int .i64 (f : Nat) ∧ vn = .int .i64 ((j + 1 : Nat)) ∧ RCell w wr s k f j va acc)
    case atStart => exact ⟨0, 0, 0, [], by simp, rfl, rfl, rfl, Fp.alloc _ _, OwnC.made w _ (Nat.le_refl _), Nat.le_refl _, Nat.le_refl _, Nat.le_refl _, rfl, Or.inl ⟨Nat.zero_le _, pieces_L 10 s, fun i hi _ h => absurd h (by omega)⟩⟩
    case round =>
      obtain ⟨k, f, j, acc, hg, rfl, rfl, rfl, hr⟩ := hrel
      have HX := Lib.hid hr
      have hfk := hr.fk
      have hjk := hr.jk
      have hfew := hr.few
      clear hr
      by_cases hk : k ≤ s.size
      · by_cases hb : ∃ h : k < s.size, s[k] ≠ 10
        · obtain ⟨hlt, hb⟩ := hb
          have z : ((s[k].toNat : Int) == 10) = false := beq_eq_false_iff_ne.2 (fun e => hb (UInt8.toNat_inj.1 (by show s[k].toNat = 10; omega)))
          have z2 : ¬ (s[k].toNat : Int) = 10 := beq_eq_false_iff_ne.1 z
          have HN := Lib.hid (HX.out.on hlt hb)
          go_wp2_with (fail)
          go_roundg (gk - 1)
          case measure => omega
          case rel => exact ⟨k + 1, f, j, acc, by omega, by simp, rfl, rfl, HN.out⟩
        · have hb2 : ∀ (hk2 : k < s.size), s[k] = 10 := fun h => by
            by_cases e : s[k] = 10
            · exact e
            · exact absurd ⟨h, e⟩ hb
          have HL := Lib.hid (HX.out.line hk hb2).1
          have HNX := Lib.hid (HX.out.line hk hb2).2
          obtain ⟨t, ht⟩ : ∃ t, s.extract f k = t := ⟨_, rfl⟩
          have hts : t.size ≤ 100000000 := by rw [← ht, ByteArray.size_extract]; omega
          rw [ht] at HL
          have HT := Lib.hid ht
          clear hb ht
          have HT2 := HT.out
          rw [← HT2] at HL
          clear HT
          by_cases hlt : k < s.size
          · have z2 : (s[k].toNat : Int) = 10 := by rw [hb2 hlt]; rfl
            have z3 : ((s[k].toNat : Int) == 10) = true := beq_iff_eq.2 z2
            clear hb2
            by_cases h0 : t.size = 0
            · have hem := str_empty h0
              have HSK : Hid (skipB t = true) := skip_zero h0
              go_wp2_with (fail)
              go_roundg (gk - 1)
              case measure => omega
              case rel => exact ⟨k + 1, k + 1, j + 1, acc, by omega, by simp, by simp, by simp, HNX.out wr _ acc HX.out.fp HX.out.own (Nat.le_succ _) (by rw [HX.out.go, HL.out, HT2, skip_step HSK.out])⟩
            · have hem := str_full (s := t) (by omega)
              have ht0 : 0 < t.size := by omega
              obtain ⟨sk, hsk⟩ : ∃ sk, ((t[0].toNat : Int) == 35) = sk := ⟨_, rfl⟩
              have HSK : Hid (skipB t = sk) := (skip_at' ht0).trans hsk
              cases sk
              · have hne35 : ¬ (t[0].toNat : Int) = 35 := beq_eq_false_iff_ne.1 hsk
                go_wp2_with (fail)
                (with_reducible refine (rline_any t _ hts).mono ?_)
                rintro e w2 ⟨⟨c, rfl, hc⟩, hf⟩
                have HF2 := Lib.hid (HX.out.fp.trans hf (by simp))
                have HO2 := Lib.hid (HX.out.own.fp hf (by simp))
                obtain ⟨cr, cc, ct, cq, cd, cv⟩ := c
                rw [show cellV (⟨cr, cc, ct, cq, cd, cv⟩ : Cel) = .agg #[.string cr, .string cc, .int .u64 ct, .int .u64 cq, .bool cd, .string cv] from rfl]
                clear hf
                cases hl : lineP t with
                | none =>
                  have HLN := Lib.hid hl
                  clear hl hc
                  rw [show (Option.none : Option Cel).isSome = false from rfl]
                  go_wp2_with (fail)
                  rw [HR.out, HX.out.go, HL.out, HT2, bad_step HSK.out HLN.out]
                  refine bodyPost_ret (v := .tuple #[.slice none 0 0, .int .i64 ((j + 1 : Nat)), .int .i64 70]) (by simp [results, Tryd.results11, go_sem, *]) rfl ⟨⟨_, rfl, OwnC.nil _ _⟩, ?_⟩
                  exact HF2.out.alloc' _
                | some c' =>
                  obtain rfl : c' = ⟨cr, cc, ct, cq, cd, cv⟩ := by
                    rcases hc with hc | hc
                    · rw [hl] at hc; cases hc
                    · rw [hl] at hc; exact Option.some.inj hc
                  have HLN := Lib.hid hl
                  have HCO := Lib.hid (lineP_ok hts hl)
                  clear hl hc
                  rw [show (Option.some (⟨cr, cc, ct, cq, cd, cv⟩ : Cel)).isSome = true from rfl]
                  go_wp2_with (at_builtin; (refine wpList_append_cels rfl _ _ rfl w.heap.size _ acc rfl ((HO2.out.fp (Fp.alloc _ _) (by simp)).fp (Fp.alloc _ _) (by simp)) _ _ _ [⟨cr, cc, ct, cq, cd, cv⟩] rfl (CelIn.one (heap_alloc_at (by simp) _) HCO.out) (fun h => by cases h) (by simp; omega) (by have := HF2.out.size; simp; omega) ?_); intro v3 w3 ho3 hb3)
                  go_roundg (gk - 1)
                  case measure => omega
                  case rel => exact ⟨k + 1, k + 1, j + 1, acc ++ [⟨cr, cc, ct, cq, cd, cv⟩], by omega, by simp, by simp, by simp, HNX.out w3 _ _ (((HF2.out.alloc' _).alloc' _).belowTrans hb3) ho3 (by simp) (by rw [HX.out.go, HL.out, HT2, good_step HSK.out HLN.out])⟩
              · go_wp2_with (fail)
                go_roundg (gk - 1)
                case measure => omega
                case rel => exact ⟨k + 1, k + 1, j + 1, acc, by omega, by simp, by simp, by simp, HNX.out wr _ acc HX.out.fp HX.out.own (Nat.le_succ _) (by rw [HX.out.go, HL.out, HT2, skip_step HSK.out])⟩
          · obtain rfl : k = s.size := by omega
            clear hb2
            by_cases h0 : t.size = 0
            · have hem := str_empty h0
              have HSK : Hid (skipB t = true) := skip_zero h0
              go_wp2_with (fail)
              go_roundg (gk - 1)
              case measure => omega
              case rel => exact ⟨s.size + 1, s.size + 1, j + 1, acc, by omega, by simp, by simp, by simp, HNX.out wr _ acc HX.out.fp HX.out.own (Nat.le_succ _) (by rw [HX.out.go, HL.out, HT2, skip_step HSK.out])⟩
            · have hem := str_full (s := t) (by omega)
              have ht0 : 0 < t.size := by omega
              obtain ⟨sk, hsk⟩ : ∃ sk, ((t[0].toNat : Int) == 35) = sk := ⟨_, rfl⟩
              have HSK : Hid (skipB t = sk) := (skip_at' ht0).trans hsk
              cases sk
              · have hne35 : ¬ (t[0].toNat : Int) = 35 := beq_eq_false_iff_ne.1 hsk
                go_wp2_with (fail)
                (with_reducible refine (rline_any t _ hts).mono ?_)
                rintro e w2 ⟨⟨c, rfl, hc⟩, hf⟩
                have HF2 := Lib.hid (HX.out.fp.trans hf (by simp))
                have HO2 := Lib.hid (HX.out.own.fp hf (by simp))
                obtain ⟨cr, cc, ct, cq, cd, cv⟩ := c
                rw [show cellV (⟨cr, cc, ct, cq, cd, cv⟩ : Cel) = .agg #[.string cr, .string cc, .int .u64 ct, .int .u64 cq, .bool cd, .string cv] from rfl]
                clear hf
                cases hl : lineP t with
                | none =>
                  have HLN := Lib.hid hl
                  clear hl hc
                  rw [show (Option.none : Option Cel).isSome = false from rfl]
                  go_wp2_with (fail)
                  rw [HR.out, HX.out.go, HL.out, HT2, bad_step HSK.out HLN.out]
                  refine bodyPost_ret (v := .tuple #[.slice none 0 0, .int .i64 ((j + 1 : Nat)), .int .i64 70]) (by simp [results, Tryd.results11, go_sem, *]) rfl ⟨⟨_, rfl, OwnC.nil _ _⟩, ?_⟩
                  exact HF2.out.alloc' _
                | some c' =>
                  obtain rfl : c' = ⟨cr, cc, ct, cq, cd, cv⟩ := by
                    rcases hc with hc | hc
                    · rw [hl] at hc; cases hc
                    · rw [hl] at hc; exact Option.some.inj hc
                  have HLN := Lib.hid hl
                  have HCO := Lib.hid (lineP_ok hts hl)
                  clear hl hc
                  rw [show (Option.some (⟨cr, cc, ct, cq, cd, cv⟩ : Cel)).isSome = true from rfl]
                  go_wp2_with (at_builtin; (refine wpList_append_cels rfl _ _ rfl w.heap.size _ acc rfl ((HO2.out.fp (Fp.alloc _ _) (by simp)).fp (Fp.alloc _ _) (by simp)) _ _ _ [⟨cr, cc, ct, cq, cd, cv⟩] rfl (CelIn.one (heap_alloc_at (by simp) _) HCO.out) (fun h => by cases h) (by simp; omega) (by have := HF2.out.size; simp; omega) ?_); intro v3 w3 ho3 hb3)
                  go_roundg (gk - 1)
                  case measure => omega
                  case rel => exact ⟨s.size + 1, s.size + 1, j + 1, acc ++ [⟨cr, cc, ct, cq, cd, cv⟩], by omega, by simp, by simp, by simp, HNX.out w3 _ _ (((HF2.out.alloc' _).alloc' _).belowTrans hb3) ho3 (by simp) (by rw [HX.out.go, HL.out, HT2, good_step HSK.out HLN.out])⟩
              · go_wp2_with (fail)
                go_roundg (gk - 1)
                case measure => omega
                case rel => exact ⟨s.size + 1, s.size + 1, j + 1, acc, by omega, by simp, by simp, by simp, HNX.out wr _ acc HX.out.fp HX.out.own (Nat.le_succ _) (by rw [HX.out.go, HL.out, HT2, skip_step HSK.out])⟩
      · obtain rfl : k = s.size + 1 := by omega
        have HD : Hid ((pieces 10 s).drop j = []) := by
          rcases HX.out.rest with ⟨e, _⟩ | ⟨_, e⟩
          · omega
          · exact e
        go_wp2_with (fail)
        rw [HR.out, HX.out.go, HD.out]
        refine bodyPost_ret (v := .tuple #[_, .int .i64 0, .int .i64 0]) (by simp [results, Tryd.results11, go_sem, *]) rfl ⟨⟨_, rfl, HX.out.own⟩, HX.out.fp⟩
end Go.Proofs.YtfhjdfimkeogaaaDoor
