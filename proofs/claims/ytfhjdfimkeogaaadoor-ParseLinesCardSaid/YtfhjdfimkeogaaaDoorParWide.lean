/-
  ParseWide: an input of more than 4000 bytes is refused.
-/
import Derived.Test.YtfhjdfimkeogaaaDoorParShown
namespace Go.Proofs.YtfhjdfimkeogaaaDoor
open Go.RowKit Go.Lib

/-- all lines empty -/
theorem go_empty : ∀ (l : List ByteArray) (i : Nat) (acc : List Cel), (∀ t ∈ l, t.size = 0) → cellsGo i acc l = (acc, 0, 0)
  | [], _, _, _ => rfl
  | t :: r, i, acc, h => by
    rw [skip_step (skip_zero (h t (by simp)))]
    exact go_empty r (i + 1) acc (fun x hx => h x (by simp [hx]))
theorem split_nl : ∀ (n : Nat), ∀ x ∈ splitL 10 (List.replicate n 10), x = []
  | 0 => by intro x hx; simp [splitL] at hx; exact hx
  | n + 1 => by
    intro x hx
    rw [List.replicate_succ, splitL, if_pos rfl] at hx
    rcases List.mem_cons.1 hx with h | h
    · exact h
    · exact split_nl n x h
def wideL (wrong : Bool) (n : Nat) : List UInt8 := if wrong = true then 120 :: List.replicate (n - 1) 10 else List.replicate n 10
theorem wide_cells (wrong : Bool) (n : Nat) (h1 : 1 ≤ n) (h2 : n ≤ 4000) : cellsP ⟨(wideL wrong n).toArray⟩ = if wrong = true then ([], 1, 70) else ([], 0, 0) := by
  have hlen : (wideL wrong n).length = n := by unfold wideL; split <;> simp; omega
  have hsz : (⟨(wideL wrong n).toArray⟩ : ByteArray).size = n := by show (wideL wrong n).toArray.size = n; simp [hlen]
  unfold cellsP
  rw [if_neg (by omega)]
  have hL := pieces_L 10 ⟨(wideL wrong n).toArray⟩
  cases wrong
  · rw [if_neg (by decide)]
    refine go_empty _ _ _ (fun t ht => ?_)
    have hm : t.data.toList ∈ splitL 10 (List.replicate n 10) := by
      have : t.data.toList ∈ (pieces 10 ⟨(wideL false n).toArray⟩).map (fun x => x.data.toList) := List.mem_map_of_mem ht
      rw [hL] at this
      exact this
    rw [size_eq, split_nl n _ hm]; rfl
  · rw [if_pos rfl]
    obtain ⟨m, rfl⟩ : ∃ m, n = m + 1 := ⟨n - 1, by omega⟩
    have hs : splitL 10 (wideL true (m + 1)) = [120] :: (splitL 10 (List.replicate m 10)).tail := by
      unfold wideL
      rw [if_pos rfl, Nat.add_sub_cancel]
      conv => lhs; unfold splitL
      rw [if_neg (by decide)]
      have hm := split_nl m
      obtain ⟨h, t, e⟩ := splitL_cons 10 (List.replicate m 10)
      rw [e] at hm ⊢
      rw [hm h (by simp)]
      rfl
    cases hp : pieces 10 ⟨(wideL true (m + 1)).toArray⟩ with
    | nil => rw [hp] at hL; rw [show (⟨(wideL true (m + 1)).toArray⟩ : ByteArray).data.toList = wideL true (m + 1) by simp, hs] at hL; cases hL
    | cons t r =>
      rw [hp] at hL
      rw [show (⟨(wideL true (m + 1)).toArray⟩ : ByteArray).data.toList = wideL true (m + 1) by simp, hs] at hL
      have ht : t.data.toList = [120] := (List.cons.inj hL).1
      refine bad_step ?_ (lineP_not ?_)
      · unfold skipB; rw [ht, size_eq, ht]; rfl
      · have := congrArg List.length (pieces_L 32 t)
        rw [List.length_map, ht] at this
        rw [this]
        decide

def fillV (k : Nat) : List Value := List.replicate k (.int .u8 10) ++ List.replicate (4100 - k) (.int .u8 0)
theorem fill_len (k : Nat) (h : k ≤ 4100) : (fillV k).length = 4100 := by unfold fillV; simp; omega
theorem fill_step (k : Nat) (h : k < 4100) : (fillV k).toArray.setIfInBounds k (.int .u8 10) = (fillV (k + 1)).toArray := by
  unfold fillV
  rw [List.setIfInBounds_toArray]
  congr 1
  rw [show 4100 - k = (4100 - (k + 1)) + 1 by omega, List.replicate_succ, List.set_append_right _ _ (by simp)]
  simp [List.replicate_succ']

theorem made_one (v : Value) (n : Nat) : madeCells #[v] n = (List.replicate n v).toArray := by
  apply Array.ext
  · rw [size_madeCells]; simp
  · intro i h1 h2
    simp [madeCells, Nat.mod_one]
theorem make_wide (W : World) : (Instr.makeSlice 31 (.int .i64 4100) (.int .i64 4100)).run Tryd.prog W = .ok (.slice (some ⟨W.heap.size, 0, none⟩) 4100 4100) (W.alloc (.cells (fillV 0).toArray 5)) := by
  have hi5 : (Tryd.prog.info? 5).map (fun i => (i.zero, i.size, i.bytes)) = some (some (.int .u8 0), 1, 1) := by kernel_rfl
  obtain ⟨i0, hi, hz0, hz1, hz2⟩ := info_parts hi5
  rw [run_makeSlice W 31 5 i0 _ Tryd.underlying31 hi hz0 .i64 .i64 4100 4100 (by decide) (by decide) (by rw [hz1]; decide) (by rw [hz2]; decide) (by decide)]
  rw [hz1]
  have e : madeCells (Value.int .u8 0).cells (Int.toNat 4100 * 1) = (fillV 0).toArray := made_one (.int .u8 0) 4100
  rw [e]
  rfl

theorem conv_row (w : World) (B : Nat) (cs : Array Value) (T : TypeId) (fr : Nat × Nat) (h : w.heap[B]? = some (.cells cs T fr)) (l : List UInt8) (n cap : Nat) (hn : n = l.length) (ht : cs.toList.take n = l.map (fun b => Value.int .u8 (b.toNat : Int))) :
    (convert 31 9 (.slice (some ⟨B, 0, none⟩) n cap)).run Tryd.prog w = .ok (.string ⟨l.toArray⟩) w := by
  subst hn
  refine run_convert_bytes_back w _ _ 5 ⟨B, 0, none⟩ cap l Tryd.underlying31 Tryd.underlying5 Tryd.underlying9 ?_
  intro j hj
  have e1 : (⟨B, 0, none⟩ : Addr).add j = ⟨B, j, none⟩ := by unfold Addr.add; split <;> simp_all
  rw [e1, cell_of_block h]
  have h3 : (cs.toList.take l.length)[j]? = (l.map (fun b => Value.int .u8 (b.toNat : Int)))[j]? := by rw [ht]
  rw [List.getElem?_take, if_pos hj, List.getElem?_map, List.getElem?_eq_getElem hj] at h3
  simpa using h3
theorem take_fill (n : Nat) (h : n ≤ 4100) : (fillV 4100).toArray.toList.take n = (wideL false n).map (fun b => Value.int .u8 (b.toNat : Int)) := by
  unfold fillV wideL
  rw [Nat.sub_self, List.replicate_zero, List.append_nil, List.take_replicate, Nat.min_eq_left h, if_neg (by decide), List.map_replicate]
  rfl
theorem set_head (v u : Value) (N : Nat) : (List.replicate (N + 1) v).set 0 u = u :: List.replicate N v := by rw [List.replicate_succ, List.set_cons_zero]
theorem take_wrong (n : Nat) (h1 : 1 ≤ n) (h : n ≤ 4100) : ((fillV 4100).toArray.setIfInBounds 0 (.int .u8 120)).toList.take n = (wideL true n).map (fun b => Value.int .u8 (b.toNat : Int)) := by
  obtain ⟨m, rfl⟩ : ∃ m, n = m + 1 := ⟨n - 1, by omega⟩
  unfold fillV wideL
  rw [List.setIfInBounds_toArray, Nat.sub_self, List.replicate_zero, List.append_nil, set_head _ _ 4099, List.take_succ_cons, List.take_replicate, Nat.min_eq_left (show m ≤ 4099 by omega), if_pos rfl, Nat.add_sub_cancel, List.map_cons, List.map_replicate]
  rfl
theorem wideL_len (wrong : Bool) (n : Nat) (h : 1 ≤ n) : (wideL wrong n).length = n := by unfold wideL; split <;> simp; omega
theorem wide_great (wrong : Bool) (n : Nat) (h : 4000 < n) : cellsP ⟨(wideL wrong n).toArray⟩ = ([], 0, 71) := by
  have hsz : (⟨(wideL wrong n).toArray⟩ : ByteArray).size = n := by show (wideL wrong n).toArray.size = n; simp [wideL_len wrong n (by omega)]
  unfold cellsP
  rw [if_pos (by omega)]
theorem OwnC.none {w : World} {base : Nat} {v : Value} (h : OwnC w base v []) : ∃ a cap, v = .slice a 0 cap := by
  obtain ⟨a, cap, e, _⟩ := h.at (by simp)
  exact ⟨a, cap, e⟩
theorem ParAt.fp {w w' : World} (h : ParAt w) (hf : Fp [] w w') : ParAt w' := ⟨h.mx.fp hf List.not_mem_nil, h.er.fp hf List.not_mem_nil List.not_mem_nil⟩

set_option maxRecDepth 100000 in
set_option maxHeartbeats 8000000 in
theorem wide_walk (W : World) (n : Nat) (wrong : Bool) (h0 : n ≤ 65535) (hp : ParAt W) :
    Calls Tryd.prog 4 #[.int .u16 n, .bool wrong] W fun e w' => e = .returned (.bool true) ∧ Fp [] W w' := by
  have HP := Lib.hid hp
  have hmk := make_wide
  have hn2 : n % 200 < 200 := Nat.mod_lt _ (by decide)
  obtain ⟨m, hm⟩ : ∃ m, n % 200 = m := ⟨_, rfl⟩
  have hm' : (n : Int) % 200 = (m : Int) := by omega
  rw [hm] at hn2
  clear hp
  go_enter Tryd.func4, Tryd.ntmps4
  go_wp2_with (fail)
  go_loopg [7] 4100 (fun g vi wr => ∃ k : Nat, g + k = 4100 ∧ vi = .int .i64 k ∧ wr.heap[W.heap.size]? = some (.cells (fillV k).toArray 5 (0, 0)) ∧ Fp [] W wr)
  case atStart => exact ⟨0, rfl, rfl, heap_alloc_at rfl _, Fp.alloc _ _⟩
  case round =>
    obtain ⟨k, hg, rfl, hb, hf⟩ := hrel
    have HB := Lib.hid hb
    have HF := Lib.hid hf
    clear hb hf
    by_cases hk : k < 4100
    · have q : wr.cell? ⟨W.heap.size, k, none⟩ = some (.int .u8 0) := by
        rw [cell_of_block HB.out]
        unfold fillV
        rw [List.getElem?_toArray, List.getElem?_append_right (by simp), List.length_replicate, Nat.sub_self, List.getElem?_replicate, if_pos (by omega)]
      have fz := frozen_of_block HB.out k
      go_wp2_with (fail)
      go_roundg (gk - 1)
      case measure => omega
      case rel => exact ⟨k + 1, by omega, by simp, by rw [heap_setCell_same HB.out, fill_step k hk], HF.out.setCell' (Or.inr (Nat.le_refl _)) _⟩
    · obtain rfl : k = 4100 := by omega
      cases wrong
      · have hconv := conv_row wr W.heap.size _ _ _ HB.out (wideL false (3900 + m)) (3900 + m) 4100 (wideL_len _ _ (by omega)).symm (take_fill _ (by omega))
        obtain ⟨s, hs⟩ : ∃ s : ByteArray, (⟨(wideL false (3900 + m)).toArray⟩ : ByteArray) = s := ⟨_, rfl⟩
        have hss : s.size = 3900 + m := by rw [← hs]; show (wideL false (3900 + m)).toArray.size = _; simp [wideL_len false (3900 + m) (by omega)]
        have hcall := fun w hp => cells_any s w (by omega) hp
        by_cases hgr : 100 < m
        · have hgr' : (3900 : Int) + m > 4000 := by omega
          rw [show cellsP s = ([], 0, 71) by rw [← hs]; exact wide_great _ _ (by omega)] at hcall
          rw [hs] at hconv
          have HCALL := Lib.hid hcall
          have HSH := Lib.hid shown_any
          clear hcall hss hs
          go_wp2_with (fail)
          (with_reducible refine (HCALL.out _ (HP.out.fp HF.out)).mono ?_)
          rintro e w2 ⟨⟨v, rfl, ho⟩, hf2⟩
          have HF2 := Lib.hid ((HF.out).trans hf2 (by simp))
          obtain ⟨a, cap, rfl⟩ := ho.none
          clear ho hf2
          go_wp2_with (fail)
          (with_reducible refine (HSH.out _ (HP.out.fp HF2.out)).mono ?_)
          rintro e w3 ⟨rfl, hf3⟩
          have HF3 := Lib.hid (HF2.out.trans hf3 (by simp))
          clear hf3
          go_wp2_with (fail)
          go_ret
          exact ⟨rfl, HF3.out⟩
        · have hgr' : ¬ (3900 : Int) + m > 4000 := by omega
          rw [show cellsP s = ([], 0, 0) by rw [← hs, wide_cells _ _ (by omega) (by omega)]; rfl] at hcall
          rw [hs] at hconv
          have HCALL := Lib.hid hcall
          have HSH := Lib.hid shown_any
          clear hcall hss hs
          go_wp2_with (fail)
          (with_reducible refine (HCALL.out _ (HP.out.fp HF.out)).mono ?_)
          rintro e w2 ⟨⟨v, rfl, ho⟩, hf2⟩
          have HF2 := Lib.hid ((HF.out).trans hf2 (by simp))
          obtain ⟨a, cap, rfl⟩ := ho.none
          clear ho hf2
          go_wp2_with (fail)
          (with_reducible refine (HSH.out _ (HP.out.fp HF2.out)).mono ?_)
          rintro e w3 ⟨rfl, hf3⟩
          have HF3 := Lib.hid (HF2.out.trans hf3 (by simp))
          clear hf3
          go_wp2_with (fail)
          go_ret
          exact ⟨rfl, HF3.out⟩
      · have q : wr.cell? ⟨W.heap.size, 0, none⟩ = some (.int .u8 10) := by
          rw [cell_of_block HB.out]; rfl
        have fz := frozen_of_block HB.out 0
        have hconv := conv_row (wr.setCell ⟨W.heap.size, 0, none⟩ (.int .u8 120)) W.heap.size _ _ _ (heap_setCell_same HB.out _) (wideL true (3900 + m)) (3900 + m) 4100 (wideL_len _ _ (by omega)).symm (take_wrong _ (by omega) (by omega))
        obtain ⟨s, hs⟩ : ∃ s : ByteArray, (⟨(wideL true (3900 + m)).toArray⟩ : ByteArray) = s := ⟨_, rfl⟩
        have hss : s.size = 3900 + m := by rw [← hs]; show (wideL true (3900 + m)).toArray.size = _; simp [wideL_len true (3900 + m) (by omega)]
        have hcall := fun w hp => cells_any s w (by omega) hp
        by_cases hgr : 100 < m
        · have hgr' : (3900 : Int) + m > 4000 := by omega
          rw [show cellsP s = ([], 0, 71) by rw [← hs]; exact wide_great _ _ (by omega)] at hcall
          rw [hs] at hconv
          have HCALL := Lib.hid hcall
          have HSH := Lib.hid shown_any
          clear hcall hss hs
          go_wp2_with (fail)
          (with_reducible refine (HCALL.out _ (HP.out.fp (HF.out.setCell' (Or.inr (Nat.le_refl _)) _))).mono ?_)
          rintro e w2 ⟨⟨v, rfl, ho⟩, hf2⟩
          have HF2 := Lib.hid (((HF.out.setCell' (Or.inr (Nat.le_refl _)) _)).trans hf2 (by simp))
          obtain ⟨a, cap, rfl⟩ := ho.none
          clear ho hf2
          go_wp2_with (fail)
          (with_reducible refine (HSH.out _ (HP.out.fp HF2.out)).mono ?_)
          rintro e w3 ⟨rfl, hf3⟩
          have HF3 := Lib.hid (HF2.out.trans hf3 (by simp))
          clear hf3
          go_wp2_with (fail)
          go_ret
          exact ⟨rfl, HF3.out⟩
        · have hgr' : ¬ (3900 : Int) + m > 4000 := by omega
          rw [show cellsP s = ([], 1, 70) by rw [← hs, wide_cells _ _ (by omega) (by omega)]; rfl] at hcall
          rw [hs] at hconv
          have HCALL := Lib.hid hcall
          have HSH := Lib.hid shown_any
          clear hcall hss hs
          go_wp2_with (fail)
          (with_reducible refine (HCALL.out _ (HP.out.fp (HF.out.setCell' (Or.inr (Nat.le_refl _)) _))).mono ?_)
          rintro e w2 ⟨⟨v, rfl, ho⟩, hf2⟩
          have HF2 := Lib.hid (((HF.out.setCell' (Or.inr (Nat.le_refl _)) _)).trans hf2 (by simp))
          obtain ⟨a, cap, rfl⟩ := ho.none
          clear ho hf2
          go_wp2_with (fail)
          (with_reducible refine (HSH.out _ (HP.out.fp HF2.out)).mono ?_)
          rintro e w3 ⟨rfl, hf3⟩
          have HF3 := Lib.hid (HF2.out.trans hf3 (by simp))
          clear hf3
          go_wp2_with (fail)
          go_ret
          exact ⟨rfl, HF3.out⟩
theorem wide_law (W : World) (a : Int) (wrong : Bool) (h0 : 0 ≤ a) (h1 : a ≤ 65535) (hp : ParAt W) :
    Calls Tryd.prog 4 #[.int .u16 a, .bool wrong] W fun e w' => e = .returned (.bool true) ∧ Fp [] W w' := by
  obtain ⟨n, rfl⟩ := Int.eq_ofNat_of_zero_le h0
  exact wide_walk W n wrong (by omega) hp
end Go.Proofs.YtfhjdfimkeogaaaDoor
