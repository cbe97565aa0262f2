/-
  The reference of layer 7: words.
-/
import Derived.Test.YtfhjdfimkeogaaaDoorParRefB
import Derived.Test.YtfhjdfimkeogaaaDoorStrsOwn
import Derived.Laws.DeepStrings4
namespace Go.Proofs.YtfhjdfimkeogaaaDoor
open Go.RowKit Go.Lib

/-- what holds at the head of the loop: out's words, the word under way, what is left -/
structure WordsRel (w wr : World) (s : ByteArray) (k : Nat) (v : Value) (out : List ByteArray) (cur : ByteArray) : Prop where
  fp : Fp [] w wr
  own : OwnS wr w.heap.size v out
  few : out.length ≤ k
  small : cur.size ≤ k
  no : ∀ b ∈ cur.data.toList, b ≠ 32
  split : (k ≤ s.size ∧ splitL 32 s.data.toList = out.map (fun t => t.data.toList) ++ splitL 32 (cur.data.toList ++ s.data.toList.drop k)) ∨ (k = s.size + 1 ∧ splitL 32 s.data.toList = out.map (fun t => t.data.toList))
theorem drop_at {s : ByteArray} {k : Nat} (h : k < s.size) : s.data.toList.drop k = s[k] :: s.data.toList.drop (k + 1) := by
  have hl : k < s.data.toList.length := by rw [← size_eq]; exact h
  have e := get_data h
  rw [List.getElem?_eq_getElem hl] at e
  rw [List.drop_eq_getElem_cons hl, Option.some.inj e]
theorem one_at {s : ByteArray} {k : Nat} (h : k < s.size) : (s.extract k (k + 1)).data.toList = [s[k]] := by
  have hl : k < s.data.toList.length := by rw [← size_eq]; exact h
  rw [extract_data]
  have e := get_data h
  rw [List.getElem?_eq_getElem hl] at e
  apply List.ext_getElem?
  intro i
  rw [List.getElem?_take, List.getElem?_drop]
  cases i with
  | zero => rw [if_pos (by omega), Nat.add_zero, List.getElem?_eq_getElem hl, Option.some.inj e]; rfl
  | succ i => rw [if_neg (by omega)]; rfl

theorem words_end {w wr : World} {s : ByteArray} {v : Value} {out : List ByteArray} {cur : ByteArray} (h : WordsRel w wr s s.size v out cur) : splitL 32 s.data.toList = (out ++ [cur]).map (fun t => t.data.toList) := by
  rcases h.split with ⟨_, e⟩ | ⟨e, _⟩
  · rw [e, List.map_append, List.drop_of_length_le (by rw [size_eq]; exact Nat.le_refl _), List.append_nil, splitL_none 32 _ h.no]; rfl
  · omega
theorem words_blank {w wr : World} {s : ByteArray} {k : Nat} {v : Value} {out : List ByteArray} {cur : ByteArray} (h : WordsRel w wr s k v out cur) (hk : k < s.size) (hb : s[k] = 32) :
    splitL 32 s.data.toList = (out ++ [cur]).map (fun t => t.data.toList) ++ splitL 32 (([] : List UInt8) ++ s.data.toList.drop (k + 1)) := by
  rcases h.split with ⟨_, e⟩ | ⟨e, _⟩
  · rw [e, List.map_append, drop_at hk, hb, splitL_at 32 _ _ h.no]; simp
  · omega
theorem words_on {w wr : World} {s : ByteArray} {k : Nat} {v : Value} {out : List ByteArray} {cur : ByteArray} (h : WordsRel w wr s k v out cur) (hk : k < s.size) :
    splitL 32 s.data.toList = out.map (fun t => t.data.toList) ++ splitL 32 ((cur ++ s.extract k (k + 1)).data.toList ++ s.data.toList.drop (k + 1)) := by
  rcases h.split with ⟨_, e⟩ | ⟨e, _⟩
  · rw [e, drop_at hk, append_data, one_at hk]; simp
  · omega

set_option maxRecDepth 100000 in
set_option maxHeartbeats 4000000 in
theorem words_any (s : ByteArray) (w : World) (hs : s.size ≤ 100000000) :
    Calls Tryd.prog 38 #[.string s] w fun e w' => (∃ v, e = .returned v ∧ OwnS w' w.heap.size v (pieces 32 s)) ∧ Fp [] w w' := by
  go_enter Tryd.func38, Tryd.ntmps38
  go_wp2_with (fail)
  go_loopg [3, 4, 5] (s.size + 1) (fun g vo vc vi wr => ∃ k out cur, g + k = s.size + 1 ∧ vi = .int .i64 (k : Nat) ∧ vc = .string cur ∧ WordsRel w wr s k vo out cur)
  case atStart => exact ⟨0, [], ⟨#[]⟩, by simp, rfl, rfl, Fp.alloc _ _, OwnS.made w _ (Nat.le_refl _), Nat.le_refl _, Nat.le_refl _, by simp, Or.inl ⟨Nat.zero_le _, rfl⟩⟩
  case round =>
    obtain ⟨k, out, cur, hg, rfl, rfl, hr⟩ := hrel
    have HR := Lib.hid hr
    have hfew := hr.few
    have hsm := hr.small
    clear hr
    by_cases hk : k ≤ s.size
    · by_cases hke : k = s.size
      · subst hke
        have HE := Lib.hid (words_end HR.out)
        go_wp2_with (at_builtin; (refine wpList_append_one rfl _ _ rfl w.heap.size _ out rfl (HR.out.own.fp (Fp.alloc _ _) (by simp)) _ cur rfl ((cell_of_block (heap_alloc_at rfl _) 0).trans rfl) (by omega) (by have := HR.out.fp.size; simp; omega) ?_); intro v3 w3 ho3 hb3)
        go_roundg (gk - 1)
        case measure => omega
        case rel => exact ⟨s.size + 1, out ++ [cur], ⟨#[]⟩, by omega, by simp, rfl, (HR.out.fp.alloc' _).belowTrans hb3, ho3, by simp; omega, Nat.zero_le _, by simp, Or.inr ⟨rfl, HE.out⟩⟩
      · have hlt : k < s.size := by omega
        by_cases hb : s[k].toNat = 32
        · have z : (s[k].toNat : Int) = 32 := by omega
          have HE := Lib.hid (words_blank HR.out hlt (UInt8.toNat_inj.1 hb))
          go_wp2_with (at_builtin; (refine wpList_append_one rfl _ _ rfl w.heap.size _ out rfl (HR.out.own.fp (Fp.alloc _ _) (by simp)) _ cur rfl ((cell_of_block (heap_alloc_at rfl _) 0).trans rfl) (by omega) (by have := HR.out.fp.size; simp; omega) ?_); intro v3 w3 ho3 hb3)
          go_roundg (gk - 1)
          case measure => omega
          case rel => exact ⟨k + 1, out ++ [cur], ⟨#[]⟩, by omega, by simp, rfl, (HR.out.fp.alloc' _).belowTrans hb3, ho3, by simp; omega, Nat.zero_le _, by simp, Or.inl ⟨by omega, HE.out⟩⟩
        · have z : ((s[k].toNat : Int) == 32) = false := beq_eq_false_iff_ne.2 (by omega)
          have z2 : ¬ (s[k].toNat : Int) = 32 := by omega
          have HE := Lib.hid (words_on HR.out hlt)
          have hsz : (s.extract k (k + 1)).size = 1 := by rw [ByteArray.size_extract]; omega
          have HNO : Hid (∀ b ∈ (cur ++ s.extract k (k + 1)).data.toList, b ≠ 32) := by
            intro b hm
            rw [append_data, one_at hlt] at hm
            rcases List.mem_append.1 hm with hm | hm
            · exact HR.out.no b hm
            · rw [List.mem_singleton.1 hm]; intro e; exact hb (by rw [e]; rfl)
          go_wp2_with (fail)
          go_roundg (gk - 1)
          case measure => omega
          case rel => exact ⟨k + 1, out, cur ++ s.extract k (k + 1), by omega, by simp, rfl, HR.out.fp, HR.out.own, by omega, by rw [ByteArray.size_append, hsz]; omega, HNO.out, Or.inl ⟨by omega, HE.out⟩⟩
    · obtain rfl : k = s.size + 1 := by omega
      have HE : Hid (pieces 32 s = out) := by
        apply map_data_inj
        rw [pieces_L]
        rcases HR.out.split with ⟨e, _⟩ | ⟨_, e⟩
        · omega
        · exact e
      go_wp2_with (fail)
      go_ret
      refine ⟨⟨_, rfl, ?_⟩, HR.out.fp⟩
      rw [HE.out]
      exact HR.out.own
end Go.Proofs.YtfhjdfimkeogaaaDoor
