/-
  Slices of cells: slices.Grow, Concat, Clone; what table's methods do with them. slices.DeleteFunc of cells, with table.Row's question.
-/
import Derived.Test.YtjnapcfclejknaaGreatDoorTabG
import Derived.Test.YtjnapcfclejknaaGreatDoorCelsStep
import Derived.Lib.AppendZeros
import Derived.Laws.IdiomCopy
import Derived.Lib.SliceRun
namespace Go.Proofs.YtjnapcfclejknaaGreatDoor
section
open Go.RowKit

set_option maxRecDepth 100000 in
set_option maxHeartbeats 1000000 in
theorem cgrow_any (w : World) (n : Nat) (hn : n ≤ 1000000000) :
    Calls Tryz.prog 87 #[.slice none 0 0, .int .i64 n] w fun e w' => ∃ v', e = .returned v' ∧ OwnC w' w.heap.size v' [] ∧ Fp [] w w' := by
  by_cases h0 : n = 0
  · subst h0
    go_enter Tryz.func87, Tryz.ntmps87
    go_wp2_with (fail)
    go_ret
    exact ⟨_, rfl, OwnC.nil _ _, Fp.refl _ _⟩
  · obtain ⟨i0, hi, hz0, hz1, hz2⟩ := info_parts Tryz.infoCel
    have hpos : 0 < n := by omega
    have happ := Lib.run_append_nil_zeros (P := Tryz.prog) w 22 3 22 34 i0 _ .i64 .i64 Tryz.underlying22 Tryz.underlying3 hi hz0 n hpos (by rw [hz1]; decide) (by omega) (by rw [hz2]; omega)
    have hge := grownCap_ge w n 0 34
    have hle := grownCap_le_maxLen w n 0 34 (by unfold maxLen; omega)
    obtain ⟨cp, hcp⟩ : ∃ cp, cp = grownCap w n 0 34 := ⟨_, rfl⟩
    rw [← hcp] at happ hge hle
    clear hcp hi hz0 hz1 hz2 h0
    obtain ⟨W, hW⟩ : ∃ W, W = (w.drew.alloc (.cells (Builtin.zeroCells (Value.agg #[.string ⟨#[]⟩, .string ⟨#[]⟩, .int .u64 0, .int .u64 0, .bool false, .string ⟨#[]⟩]).cells n ++ Builtin.zeroCells (Value.agg #[.string ⟨#[]⟩, .string ⟨#[]⟩, .int .u64 0, .int .u64 0, .bool false, .string ⟨#[]⟩]).cells (cp - n)) 34)) := ⟨_, rfl⟩
    rw [← hW] at happ
    have hf : Fp [] w W := by rw [hW]; exact (Fp.drew w).alloc' _
    have ho : OwnC W w.heap.size (.slice (some ⟨w.heap.size, 0, none⟩) 0 cp) [] := by
      refine ⟨rfl, Or.inr ⟨w.heap.size, cp, _, rfl, Nat.le_refl _, by rw [hW]; exact heap_alloc_at (w := w.drew) rfl _, Nat.zero_le _, hle, ?_, by simp⟩⟩
      simp [Builtin.zeroCells, Value.cells]
      omega
    have HO := Lib.hid ho
    have HF := Lib.hid hf
    have HA := Lib.hid happ
    clear ho hf hW happ
    go_enter Tryz.func87, Tryz.ntmps87
    go_wp2_with (at_builtin; refine Lib.wpList_append_run _ rfl _ _ _ _ rfl _ _ rfl rfl _ _ HA.out ?_)
    go_ret
    exact ⟨_, rfl, HO.out, HF.out⟩

/-- a row of slices, and their cells -/
structure PRow (w : World) (a : Option Addr) (vs : List Value) (ls : List (List Cel)) : Prop where
  cells : vs = [] ∨ ∃ g, a = some ⟨g, 0, none⟩ ∧ g < w.heap.size ∧ ∀ i (h : i < vs.length), w.cell? ⟨g, i, none⟩ = some vs[i]
  len : vs.length = ls.length
  row : ∀ i (h : i < vs.length), ∃ ad m c, vs[i] = .slice (some ad) m c ∧ CelsAt w (some ad) m (ls.getD i [])
theorem PRow.fp {w w' : World} {a : Option Addr} {vs : List Value} {ls : List (List Cel)} (h : PRow w a vs ls) (hf : Fp [] w w') : PRow w' a vs ls := by
  refine ⟨?_, h.len, fun i hi => ?_⟩
  · rcases h.cells with h0 | ⟨g, e, hg, hc⟩
    · exact Or.inl h0
    · exact Or.inr ⟨g, e, Nat.lt_of_lt_of_le hg hf.size, fun i hi => (hf.cell (p := ⟨g, i, none⟩) hg (by simp)).trans (hc i hi)⟩
  · obtain ⟨ad, m, c, e, hc⟩ := h.row i hi
    exact ⟨ad, m, c, e, hc.fp hf⟩
theorem PRow.get {w : World} {a : Option Addr} {vs : List Value} {ls : List (List Cel)} (h : PRow w a vs ls) {k : Nat} (hk : k < vs.length) : ∃ g, a = some ⟨g, 0, none⟩ ∧ ∀ w', Fp [] w w' → w'.cell? ⟨g, k, none⟩ = some vs[k] := by
  rcases h.cells with h0 | ⟨g, e, hg, hc⟩
  · subst h0; exact absurd hk (Nat.not_lt_zero _)
  · exact ⟨g, e, fun w' hf => (hf.cell (p := ⟨g, k, none⟩) hg (by simp)).trans (hc k hk)⟩
def totC (ls : List (List Cel)) (k : Nat) : Nat := (ls.take k).flatten.length
theorem totC_succ (ls : List (List Cel)) (k : Nat) (h : k < ls.length) : totC ls (k + 1) = totC ls k + (ls.getD k []).length := by
  unfold totC
  rw [List.take_succ_eq_append_getElem h, List.flatten_append, List.length_append]
  simp [List.getD_eq_getElem?_getD, List.getElem?_eq_getElem h]
theorem totC_le (ls : List (List Cel)) (k : Nat) : totC ls k ≤ ls.flatten.length := by
  unfold totC
  conv => rhs; rw [← List.take_append_drop k ls, List.flatten_append, List.length_append]
  omega
theorem flatC_succ (ls : List (List Cel)) (k : Nat) (h : k < ls.length) : (ls.take (k + 1)).flatten = (ls.take k).flatten ++ ls.getD k [] := by
  rw [List.take_succ_eq_append_getElem h, List.flatten_append]
  simp [List.getD_eq_getElem?_getD, List.getElem?_eq_getElem h]

set_option maxRecDepth 100000 in
set_option maxHeartbeats 4000000 in
theorem cconcat_any (w : World) (a : Option Addr) (cap : Nat) (vs : List Value) (ls : List (List Cel)) (hr : PRow w a vs ls) (hn : vs.length ≤ 1000000) (ht : ls.flatten.length ≤ 1000000) :
    Calls Tryz.prog 52 #[.slice a vs.length cap] w fun e w' => ∃ v', e = .returned v' ∧ OwnC w' w.heap.size v' ls.flatten ∧ Fp [] w w' := by
  have HR := Lib.hid hr
  have HLEN := Lib.hid hr.len
  obtain ⟨n, hnv⟩ : ∃ n, vs.length = n := ⟨_, rfl⟩
  have HN := Lib.hid hnv
  rw [hnv] at hn ⊢
  clear hr hnv
  go_enter Tryz.func52, Tryz.ntmps52
  go_wp2_with (fail)
  go_loopg [3, 11] n (fun g vt vi wr => ∃ k : Nat, g + k = n ∧ vi = .int .i64 k ∧ vt = .int .i64 (totC ls k) ∧ w = wr)
  case atStart => exact ⟨0, by omega, rfl, rfl, rfl⟩
  case round =>
    obtain ⟨k, hg, rfl, rfl, rfl⟩ := hrel
    by_cases hk : k < n
    · have hk2 : k < vs.length := by rw [HN.out]; exact hk
      obtain ⟨g, rfl, hcell0⟩ := HR.out.get hk2
      obtain ⟨ad, m, c, hv, hcl⟩ := HR.out.row k hk2
      have hcell := hcell0 w (Fp.refl _ _)
      rw [hv] at hcell
      have hts := totC_succ ls k (by rw [← HLEN.out]; exact hk2)
      rw [← hcl.len] at hts
      have htl := totC_le ls (k + 1)
      obtain ⟨t, htt⟩ : ∃ t, t = totC ls k := ⟨_, rfl⟩
      rw [← htt] at hts ⊢
      have HTS := Lib.hid hts
      have hbd : t + m ≤ 1000000 := by omega
      have zk : (k : Int) < (n : Int) := by omega
      clear hv hts htl htt hcl hcell0
      have hnn : ¬ ((t : Int) + (m : Int)) < 0 := by omega
      go_wp2_with (fail)
      go_roundg (gk - 1)
      case measure => omega
      case rel => exact ⟨k + 1, by omega, by go_num, by rw [HTS.out]; go_num, rfl⟩
    · have hkl : k = n := by omega
      have htot : totC ls k = ls.flatten.length := by unfold totC; rw [hkl, ← HN.out, HLEN.out, List.take_length]
      have hb := htot ▸ ht
      obtain ⟨t, htt⟩ : ∃ t, t = totC ls k := ⟨_, rfl⟩
      rw [← htt] at hb ⊢
      have zk : ¬ (k : Int) < (n : Int) := by omega
      clear htot htt hkl
      go_wp2_with (fail)
      (with_reducible refine (cgrow_any w t (by omega)).mono ?_)
      rintro e w1 ⟨v1, rfl, ho1, hf1⟩
      have HO1 := Lib.hid ho1
      have HF1 := Lib.hid hf1
      clear ho1 hf1
      go_wp2_with (fail)
      go_loopg [6, 27] n (fun g vb vi wx => ∃ (k : Nat) (v : Value), g + k = n ∧ v = vb ∧ vi = .int .i64 k ∧ OwnC wx w.heap.size v (ls.take k).flatten ∧ Fp [] w wx)
      case atStart => exact ⟨0, _, by omega, rfl, rfl, HO1.out, HF1.out⟩
      case round =>
        obtain ⟨k, vb, hg, rfl, rfl, ho, hf⟩ := hrel
        have HO := Lib.hid ho
        have HF := Lib.hid hf
        have hbw := hf.size
        clear ho hf
        by_cases hk : k < n
        · have hk2 : k < vs.length := by rw [HN.out]; exact hk
          obtain ⟨g, rfl, hcell0⟩ := HR.out.get hk2
          obtain ⟨ad, m, c, hv, hcl⟩ := HR.out.row k hk2
          have hcell := hcell0 wr HF.out
          rw [hv] at hcell
          have HRD := Lib.hid (hcl.fp HF.out)
          have HFS := Lib.hid (flatC_succ ls k (by rw [← HLEN.out]; exact hk2))
          have hL : (ls.take k).flatten.length + (ls.getD k []).length ≤ 1000000000 := by
            have h1 := totC_succ ls k (by rw [← HLEN.out]; exact hk2)
            have h2 := totC_le ls (k + 1)
            unfold totC at h1 h2
            omega
          have HL := Lib.hid hL
          have zk : (k : Int) < (n : Int) := by omega
          clear hL hcl hv hcell0
          go_wp2_with (at_builtin; refine wpList_append_cels rfl _ _ rfl w.heap.size _ _ rfl HO.out _ _ _ _ rfl HRD.out (by intro h; cases h) HL.out hbw ?_; intro v2 w2 hown2 hbel2)
          have HO2 := Lib.hid hown2
          have HF2 := Lib.hid (HF.out.belowTrans hbel2)
          clear hown2 hbel2
          go_wp2_with (fail)
          go_roundg (gk - 1)
          case measure => omega
          case rel => exact ⟨k + 1, _, by omega, rfl, by go_num, by rw [HFS.out]; exact HO2.out, HF2.out⟩
        · have hkl : k = n := by omega
          have h2 := HO.out
          rw [hkl, ← HN.out, HLEN.out, List.take_length] at h2
          have HO2 := Lib.hid h2
          have zk : ¬ (k : Int) < (n : Int) := by omega
          clear h2 hkl
          go_wp2_with (fail)
          go_ret
          exact ⟨_, rfl, HO2.out, HF.out⟩

set_option maxRecDepth 100000 in
set_option maxHeartbeats 1000000 in
theorem cclone_any (w : World) (v : Value) (base : Nat) (l : List Cel) (hv : OwnC w base v l) (hok : ∀ c ∈ l, CelOK c) (hn : l.length ≤ 1000000) :
    Calls Tryz.prog 86 #[v] w fun e w' => ∃ v', e = .returned v' ∧ OwnC w' w.heap.size v' l ∧ Fp [] w w' := by
  obtain ⟨a, cap, rfl, hnone, hat⟩ := hv.at2 hok
  have HAT := Lib.hid hat
  have q22 : ∀ (w : World) (a : Option Addr) (n c n' c' : Nat), (binOp .eql 22 (.slice a n c) (.slice none n' c')).run Tryz.prog w = .ok (.bool a.isNone) w := fun w a n c n' c' => Lib.run_eql_slice_nil w _ _ a n c n' c' Tryz.underlying22
  cases a with
  | none =>
    obtain rfl := hnone rfl
    have hl0 : l = [] := by
      rcases hat.cells with h | ⟨b, o, h, _⟩
      · exact h
      · cases h
    subst hl0
    go_enter Tryz.func86, Tryz.ntmps86
    go_wp2_with (fail)
    go_ret
    exact ⟨_, rfl, OwnC.nil _ _, Fp.refl _ _⟩
  | some ad =>
    clear hv hat hnone
    go_enter Tryz.func86, Tryz.ntmps86
    go_wp2_with (at_builtin; refine wpList_append_cels rfl _ _ rfl w.heap.size _ [] rfl (OwnC.made w _ (Nat.le_refl _)) _ _ _ l rfl (HAT.out.fp (Fp.alloc _ _)) (by intro h; cases h) (by simp; omega) (by simp) ?_; intro v2 w2 hown2 hbel2; have HO2 := Lib.hid hown2; have HB2 := Lib.hid hbel2; clear hown2 hbel2)
    go_ret
    exact ⟨_, rfl, HO2.out, (Fp.alloc w _).belowTrans (HB2.out.mono (by simp))⟩

/-! slices.DeleteFunc with table.Row's question -/
def strNe (a b : ByteArray) : Bool := !decide (a = b)
theorem str_ne (a b : ByteArray) : (!(a.toList == b.toList)) = strNe a b := by
  unfold strNe
  by_cases h : a = b
  · subst h; simp
  · rw [decide_eq_false h]
    have : a.toList ≠ b.toList := fun e => h (toList_inj' e)
    simpa using this
set_option maxRecDepth 100000 in
set_option maxHeartbeats 1000000 in
theorem rowq_any (w : World) (bx : Nat) (row : ByteArray) (c : Cel) (hbx : w.heap[bx]? = some (.cells #[.string row] 9 (0, 0))) :
    Calls Tryz.prog 54 #[cellV c, .pointer (some ⟨bx, 0, none⟩)] w fun e w' => e = .returned (.bool (strNe c.row row)) ∧ Fp [] w w' := by
  obtain ⟨r, col, ts, seq, del, val⟩ := c
  have hs := str_ne r row
  have q0 : ∀ X, (w.alloc X).cell? ⟨bx, 0, none⟩ = some (.string row) := fun X => cell_of_block (heap_alloc_old hbx) 0
  obtain ⟨b, hb⟩ : ∃ b, strNe r row = b := ⟨_, rfl⟩
  rw [hb] at hs
  show Calls _ _ #[.agg #[.string r, .string col, .int .u64 ts, .int .u64 seq, .bool del, .string val], _] _ fun e w' => e = .returned (.bool (strNe r row)) ∧ _
  rw [hb]
  clear hb hbx
  go_enter Tryz.func54, Tryz.ntmps54
  go_wp2_with (fail)
  go_ret
  exact ⟨rfl, Fp.alloc _ _⟩

set_option maxRecDepth 100000 in
set_option maxHeartbeats 4000000 in
theorem rowidx_any (w : World) (bx : Nat) (row : ByteArray) (a : Option Addr) (n cap : Nat) (l : List Cel) (hbx : w.heap[bx]? = some (.cells #[.string row] 9 (0, 0))) (hl : CelsAt w a n l) (hn : n ≤ 1000000) :
    Calls Tryz.prog 88 #[.slice a n cap, .func (.func 54) #[] #[.pointer (some ⟨bx, 0, none⟩)]] w fun e w' =>
      ((e = .returned (.int .i64 (-1)) ∧ ∀ i (hi : i < l.length), strNe l[i].row row = false) ∨ ∃ k : Nat, ∃ hk : k < l.length, e = .returned (.int .i64 k) ∧ strNe l[k].row row = true ∧ ∀ i (hi : i < l.length), i < k → strNe l[i].row row = false) ∧ Fp [] w w' := by
  have HL := Lib.hid hl
  have HBX := Lib.hid hbx
  have HN := Lib.hid hl.len.symm
  clear hl hbx
  go_enter Tryz.func88, Tryz.ntmps88
  go_wp2_with (fail)
  go_loopg [8] n (fun g vi wr => ∃ k : Nat, g + k = n ∧ vi = .int .i64 k ∧ Fp [] w wr ∧ ∀ i (hi : i < l.length), i < k → strNe l[i].row row = false)
  case atStart => exact ⟨0, by omega, rfl, Fp.refl _ _, by intro i _ h; omega⟩
  case round =>
    obtain ⟨k, hg, rfl, hf, hall⟩ := hrel
    have HF := Lib.hid hf
    have HALL := Lib.hid hall
    clear hf hall
    by_cases hk : k < n
    · have hkl : k < l.length := by rw [HN.out]; exact hk
      obtain ⟨b1, o1, rfl, hb1, hcells⟩ := cels_get HL.out hkl
      have zk : (k : Int) < (n : Int) := by omega
      obtain ⟨c, hc⟩ : ∃ c, l[k] = c := ⟨_, rfl⟩
      have HC := Lib.hid hc
      rw [hc] at hcells
      obtain ⟨q0, q1, q2, q3, q4, q5⟩ := hcells wr HF.out
      have HQ := Lib.hid (rowq_any wr bx row c ((HF.out.block _ (heap_lt HBX.out) (by simp)).trans HBX.out))
      clear hcells hc
      obtain ⟨m, hm⟩ : ∃ m, strNe c.row row = m := ⟨_, rfl⟩
      rw [hm] at HQ
      have HM := Lib.hid hm
      clear hm
      obtain ⟨r, col, ts, seq, del, val⟩ := c
      rw [show cellV (⟨r, col, ts, seq, del, val⟩ : Cel) = .agg #[.string r, .string col, .int .u64 ts, .int .u64 seq, .bool del, .string val] from rfl] at HQ
      go_wp2_with (fail)
      (with_reducible refine HQ.out.mono ?_)
      rintro e w2 ⟨rfl, hf⟩
      have HF2 := Lib.hid (HF.out.trans hf (by simp))
      clear hf
      cases m
      · go_wp2_with (fail)
        go_roundg (gk - 1)
        case measure => omega
        case rel =>
          refine ⟨k + 1, by omega, by simp, HF2.out, fun i hi hik => ?_⟩
          by_cases e : i = k
          · subst e; rw [HC.out]; exact HM.out
          · exact HALL.out i hi (by omega)
      · go_wp2_with (fail)
        go_ret
        exact ⟨Or.inr ⟨k, hkl, rfl, by rw [HC.out]; exact HM.out, fun i hi hik => HALL.out i hi hik⟩, HF2.out⟩
    · have zk : ¬ (k : Int) < (n : Int) := by omega
      go_wp2_with (fail)
      go_ret
      exact ⟨Or.inl ⟨rfl, fun i hi => HALL.out i hi (by have := HN.out; omega)⟩, HF.out⟩
end

section
open Go.RowKit

theorem setCells_block {g : Nat} {e : TypeId} : ∀ (vs : List Value) (o : Nat) (w : World) (cur : Array Value), w.heap[g]? = some (.cells cur e (0, 0)) → ∃ cur' : Array Value, (w.setCells g o vs).heap[g]? = some (.cells cur' e (0, 0)) ∧ cur'.size = cur.size ∧
    (∀ j, j < o → cur'[j]? = cur[j]?) ∧ (∀ j, j < vs.length → o + j < cur.size → cur'[o + j]? = vs[j]?) ∧ (∀ j, o + vs.length ≤ j → cur'[j]? = cur[j]?) ∧ Fp [g] w (w.setCells g o vs)
  | [], o, w, cur, h => ⟨cur, h, rfl, fun _ _ => rfl, fun j hj => absurd hj (Nat.not_lt_zero _), fun _ _ => rfl, Fp.refl _ _⟩
  | v :: vs, o, w, cur, h => by
    have h1 : (w.setCell ⟨g, o, none⟩ v).heap[g]? = some (.cells (cur.setIfInBounds o v) e (0, 0)) := heap_setCell_same h v
    obtain ⟨cur', g1, g2, g3, g4, g5, g6⟩ := setCells_block vs (o + 1) (w.setCell ⟨g, o, none⟩ v) _ h1
    refine ⟨cur', g1, by rw [g2, Array.size_setIfInBounds], fun j hj => ?_, fun j hj hjs => ?_, fun j hj => ?_, (Fp.setCell w ⟨g, o, none⟩ v).trans g6 (by intro i hi; exact Or.inl hi)⟩
    · rw [g3 j (by omega), Array.getElem?_setIfInBounds, if_neg (by omega)]
    · cases j with
      | zero =>
        rw [Nat.add_zero, g3 o (by omega), Array.getElem?_setIfInBounds, if_pos rfl, if_pos (by omega)]
        rfl
      | succ j =>
        rw [show o + (j + 1) = o + 1 + j from by omega, g4 j (by simpa using hj) (by rw [Array.size_setIfInBounds]; omega)]
        rfl
    · rw [g5 j (by simp at hj; omega), Array.getElem?_setIfInBounds, if_neg (by simp at hj; omega)]

theorem celRow_len (c : Cel) : (celRow c).length = 6 := rfl
/-- what the first cells are, told by places -/
theorem own_of_cells {cur : Array Value} {l : List Cel} (h : ∀ i (hi : i < l.length), ∀ j, j < 6 → cur[i * 6 + j]? = (celRow l[i])[j]?) : cur.toList.take (l.length * 6) = l.flatMap celRow := by
  apply List.ext_getElem?
  intro x
  by_cases hx : x < l.length * 6
  · have e : x = x / 6 * 6 + x % 6 := by omega
    rw [List.getElem?_take, if_pos hx, Array.getElem?_toList]
    rw [e, flat_at l (x / 6) (x % 6) (by omega) (by omega)]
    exact h (x / 6) (by omega) (x % 6) (by omega)
  · rw [List.getElem?_take, if_neg hx, List.getElem?_eq_none (by rw [flat_len]; omega)]
theorem cells_of_own {cur : Array Value} {l : List Cel} (h : cur.toList.take (l.length * 6) = l.flatMap celRow) (i : Nat) (hi : i < l.length) (j : Nat) (hj : j < 6) : cur[i * 6 + j]? = (celRow l[i])[j]? := by
  rw [← flat_at l i j hj hi, ← h, List.getElem?_take, if_pos (by omega), Array.getElem?_toList]

/-- a cell is stored -/
theorem OwnC.setCel {w : World} {base g k n cap : Nat} {l : List Cel} (c : Cel) (h : OwnC w base (.slice (some ⟨g, 0, none⟩) n cap) l) (hk : k < l.length) :
    OwnC (w.setCells g (k * 6) (celRow c)) base (.slice (some ⟨g, 0, none⟩) n cap) (l.set k c) ∧ Fp [g] w (w.setCells g (k * 6) (celRow c)) := by
  obtain ⟨g2, cap2, cur, e, hg, hh, hn, hm, hs, ht⟩ := h.open (by omega)
  cases e
  obtain ⟨cur', g1, g2, g3, g4, g5, g6⟩ := setCells_block (celRow c) (k * 6) w cur hh
  refine ⟨⟨by rw [flat_len], Or.inr ⟨g, cap, cur', by rw [List.length_set], hg, g1, by rw [List.length_set]; exact hn, hm, by rw [g2]; exact hs, ?_⟩⟩, g6⟩
  refine own_of_cells fun i hi j hj => ?_
  rw [List.length_set] at hi
  by_cases e : i = k
  · subst e
    rw [List.getElem_set_self, g4 j (by rw [celRow_len]; exact hj) (by rw [hs]; omega)]
  · rw [List.getElem_set_ne (Ne.symm e), ← cells_of_own ht i hi j hj]
    rcases Nat.lt_or_ge (i * 6 + j) (k * 6) with h | h
    · exact g3 _ h
    · exact g5 _ (by rw [celRow_len]; omega)
/-- cells behind the first k ones are cleared; the first k ones stay -/
theorem OwnC.cleared {w : World} {base g n cap k m : Nat} {l : List Cel} (vs : List Value) (h : OwnC w base (.slice (some ⟨g, 0, none⟩) n cap) l) (hk : k ≤ l.length) (hl : 0 < l.length) (hm : m = k * 6) :
    OwnC (w.setCells g m vs) base (.slice (some ⟨g, 0, none⟩) k cap) (l.take k) ∧ Fp [g] w (w.setCells g m vs) := by
  subst hm
  obtain ⟨g2, cap2, cur, e, hg, hh, hn, hm, hs, ht⟩ := h.open hl
  cases e
  obtain ⟨cur', g1, g2, g3, g4, g5, g6⟩ := setCells_block vs (k * 6) w cur hh
  have hlk : (l.take k).length = k := by rw [List.length_take]; omega
  refine ⟨⟨by rw [flat_len], Or.inr ⟨g, cap, cur', by rw [hlk], hg, g1, by rw [hlk]; omega, hm, by rw [g2]; exact hs, ?_⟩⟩, g6⟩
  refine own_of_cells fun i hi j hj => ?_
  rw [hlk] at hi
  rw [List.getElem_take, ← cells_of_own ht i (by omega) j hj]
  exact g3 _ (by omega)

theorem clear_cells (w : World) (g k n m : Nat) (cur : Array Value) (hh : w.heap[g]? = some (.cells cur 34 (0, 0))) (hs : k + n * 6 ≤ cur.size) (hn : 0 < n) : ∃ vs, ∀ ty, (Builtin.clear_ #[22] ty #[.slice (some ⟨g, k, none⟩) n m]).run Tryz.prog w = .ok (.tuple #[]) (w.setCells g k vs) := by
  obtain ⟨Z, hZ⟩ : ∃ Z, (Builtin.zeroCells (Value.agg #[.string ⟨#[]⟩, .string ⟨#[]⟩, .int .u64 0, .int .u64 0, .bool false, .string ⟨#[]⟩]).cells n).toList = Z := ⟨_, rfl⟩
  have hlen : Z.length = n * 6 := by rw [← hZ]; simp [Builtin.zeroCells, Value.cells]
  have hone : ∀ v ∈ Z, v.oneCell' = true := by
    intro v hv
    rw [← hZ] at hv
    simp only [Builtin.zeroCells, Value.cells] at hv
    obtain ⟨i, hi⟩ := List.getElem?_of_mem hv
    simp only [Array.getElem?_toList] at hi
    obtain ⟨hlt, hi⟩ := Array.getElem?_eq_some_iff.1 hi
    simp at hi
    subst hi
    have h6 : i % 6 < 6 := Nat.mod_lt _ (by decide)
    have key : ∀ j, j < 6 → (([Value.string ⟨#[]⟩, .string ⟨#[]⟩, .int .u64 0, .int .u64 0, .bool false, .string ⟨#[]⟩] : List Value)[j]?.getD default).oneCell' = true := by
      intro j h
      match j, h with
      | 0, _ => rfl
      | 1, _ => rfl
      | 2, _ => rfl
      | 3, _ => rfl
      | 4, _ => rfl
      | 5, _ => rfl
    exact key _ h6
  refine ⟨Z, fun ty => ?_⟩
  have hst := run_storeCells_cells (P := Tryz.prog) g k Z 0 w (by
    intro j hj
    rw [cell_of_block hh, Array.getElem?_eq_getElem (by omega)]; rfl) (by intro j hj; exact frozen_of_block hh _) hone
  simp only [Nat.add_zero] at hst
  obtain ⟨m, rfl⟩ : ∃ m, n = m + 1 := ⟨n - 1, by omega⟩
  simp [Builtin.clear_, run_underlying Tryz.underlying22, Tryz.zeroValue34, hZ, hst]

theorem Fp.below0 {w w' : World} {base : Nat} (h : Fp [] w w') (hb : base ≤ w.heap.size) : Below base w w' := ⟨h.os, h.tape, h.output, h.size, fun k hk => h.block k (by omega) (by simp)⟩
theorem Fp.belowS {w w' : World} {base : Nat} {S : List Nat} (h : Fp S w w') (hb : base ≤ w.heap.size) (hS : ∀ i ∈ S, base ≤ i) : Below base w w' := ⟨h.os, h.tape, h.output, h.size, fun k hk => h.block k (by omega) (fun hm => by have := hS k hm; omega)⟩
theorem OwnC.cel {w : World} {base g n cap j : Nat} {l : List Cel} (h : OwnC w base (.slice (some ⟨g, 0, none⟩) n cap) l) (hj : j < l.length) : CelCells w g (j * 6) l[j] ∧ ∀ o, w.frozen? ⟨g, o, none⟩ = false := by
  obtain ⟨g2, cap2, cur, e, hg, hh, hn, hm, hs, ht⟩ := h.open (by omega)
  cases e
  have key := fun k hk => cells_of_own ht j hj k hk
  refine ⟨⟨?_, ?_, ?_, ?_, ?_, ?_⟩, fun o => frozen_of_block hh o⟩
  · rw [cell_of_block hh]; exact key 0 (by decide)
  · rw [cell_of_block hh]; exact key 1 (by decide)
  · rw [cell_of_block hh]; exact key 2 (by decide)
  · rw [cell_of_block hh]; exact key 3 (by decide)
  · rw [cell_of_block hh]; exact key 4 (by decide)
  · rw [cell_of_block hh]; exact key 5 (by decide)
/-- the cells of a row -/
def rowL (l : List Cel) (row : ByteArray) : List Cel := l.filter fun c => decide (c.row = row)
theorem strNe_false {a b : ByteArray} (h : strNe a b = false) : a = b := by unfold strNe at h; simpa using h
theorem strNe_true {a b : ByteArray} (h : strNe a b = true) : a ≠ b := by unfold strNe at h; simpa using h
theorem rowL_snoc {l : List Cel} {row : ByteArray} {k : Nat} (hk : k < l.length) : rowL (l.take (k + 1)) row = rowL (l.take k) row ++ (if strNe l[k].row row = true then [] else [l[k]]) := by
  unfold rowL
  rw [List.take_succ_eq_append_getElem hk, List.filter_append]
  congr 1
  cases h : strNe l[k].row row
  · have e := strNe_false h
    simp [e]
  · have e := strNe_true h
    simp [e]
/-- the list while it is being cut: i cells are kept, j were looked at -/
structure CutI (l L : List Cel) (row : ByteArray) (i j : Nat) : Prop where
  len : L.length = l.length
  kept : L.take i = rowL (l.take j) row
  rest : ∀ m, j ≤ m → L[m]? = l[m]?
  lt : i < j
  le : j ≤ l.length
theorem CutI.drop {l L : List Cel} {row : ByteArray} {i j : Nat} (h : CutI l L row i j) (hj : j < l.length) (hr : strNe l[j].row row = true) : CutI l L row i (j + 1) :=
  ⟨h.len, by rw [rowL_snoc hj, if_pos hr, List.append_nil]; exact h.kept, fun m hm => h.rest m (by omega), by have := h.lt; omega, hj⟩
theorem CutI.keep {l L : List Cel} {row : ByteArray} {i j : Nat} (h : CutI l L row i j) (hj : j < l.length) (hr : strNe l[j].row row = false) : CutI l (L.set i l[j]) row (i + 1) (j + 1) := by
  have hlt := h.lt
  have hi : i < L.length := by rw [h.len]; omega
  refine ⟨by rw [List.length_set]; exact h.len, ?_, fun m hm => ?_, by omega, hj⟩
  · rw [rowL_snoc hj, hr, if_neg (by decide), ← h.kept]
    rw [List.take_succ_eq_append_getElem (by rw [List.length_set]; exact hi), List.getElem_set_self, List.take_set_of_le (Nat.le_refl _)]
  · rw [List.getElem?_set_ne (by omega)]
    exact h.rest m (by omega)
theorem rowL_none {l : List Cel} {row : ByteArray} (h : ∀ i (hi : i < l.length), strNe l[i].row row = false) : rowL l row = l := by
  unfold rowL
  rw [List.filter_eq_self]
  intro c hc
  obtain ⟨i, hi, rfl⟩ := List.getElem_of_mem hc
  rw [decide_eq_true (strNe_false (h i hi))]
theorem CutI.start {l : List Cel} {row : ByteArray} {k : Nat} (hk : k < l.length) (hr : strNe l[k].row row = true) (h : ∀ i (hi : i < l.length), i < k → strNe l[i].row row = false) : CutI l l row k (k + 1) := by
  refine ⟨rfl, ?_, fun _ _ => rfl, by omega, hk⟩
  rw [rowL_snoc hk, if_pos hr, List.append_nil, rowL_none]
  intro i hi
  rw [List.length_take] at hi
  rw [List.getElem_take]
  exact h i (by omega) (by omega)

set_option maxRecDepth 100000 in
set_option maxHeartbeats 8000000 in
theorem delete_any (w : World) (bx base : Nat) (row : ByteArray) (v : Value) (l : List Cel) (hbx : w.heap[bx]? = some (.cells #[.string row] 9 (0, 0))) (hv : OwnC w base v l) (hok : ∀ c ∈ l, CelOK c) (hn : l.length ≤ 1000000) (hbb : bx < base) (hbase : base ≤ w.heap.size) :
    Calls Tryz.prog 53 #[v, .func (.func 54) #[] #[.pointer (some ⟨bx, 0, none⟩)]] w fun e w' => ∃ v', e = .returned v' ∧ OwnC w' base v' (rowL l row) ∧ Below base w w' := by
  obtain ⟨a, cap, rfl, hat⟩ := hv.at hok
  obtain ⟨n, hnl⟩ : ∃ n, l.length = n := ⟨_, rfl⟩
  rw [hnl] at hv hat hn
  rw [hnl]
  have HI := Lib.hid (rowidx_any w bx row a n cap l hbx hat hn)
  have HV := Lib.hid hv
  have HBX := Lib.hid hbx
  have HOK := Lib.hid hok
  have HAT := Lib.hid hat
  have HN := Lib.hid hnl
  clear hnl hbx hv hok hat
  go_enter Tryz.func53, Tryz.ntmps53
  go_wp2_with (fail)
  (with_reducible refine HI.out.mono ?_)
  rintro e w1 ⟨⟨rfl, hall⟩ | ⟨k, hk, rfl, hr, hbef⟩, hf1⟩
  · have HR := Lib.hid (rowL_none hall)
    have HF := Lib.hid hf1
    clear hall hf1
    go_wp2_with (fail)
    go_ret
    exact ⟨_, rfl, by rw [HR.out]; exact HV.out.fp HF.out (by simp), HF.out.below0 hbase⟩
  · have hkn : k < n := by rw [← HN.out]; exact hk
    have HC0 := Lib.hid (CutI.start hk hr hbef)
    have hfb : Below base w w1 := hf1.below0 hbase
    have HFB := Lib.hid hfb
    have HV1 := Lib.hid (HV.out.fp hf1 (by simp))
    obtain ⟨g, cap', cur, e0, hbg, hh, -⟩ := OwnC.open HV1.out (by omega)
    rw [HN.out] at e0
    cases e0
    have n1 : IntKind.i64.wrap ((k : Int) + 1) = ((k + 1 : Nat) : Int) := by rw [IntKind.wrap_i64]; omega
    obtain ⟨k1, hk1⟩ : ∃ k1, k + 1 = k1 := ⟨_, rfl⟩
    rw [hk1] at n1 HC0
    have e9 : ((k : Int) == -1) = false := by rw [beq_eq_false_iff_ne]; omega
    clear hf1 hr hbef hfb hh
    go_wp2_with (fail)
    go_loopg [5, 6] (n - k1) (fun gm vi vj wr => ∃ (i j : Nat) (L : List Cel), gm + j = n ∧ vi = .int .i64 i ∧ vj = .int .i64 j ∧ CutI l L row i j ∧ OwnC wr base (.slice (some ⟨g, 0, none⟩) n cap) L ∧ Below base w wr)
    case atStart => exact ⟨k, k1, l, by omega, rfl, rfl, HC0.out, HV1.out, HFB.out⟩
    case round =>
      obtain ⟨i, j, L, hg, rfl, rfl, hcut, ho, hb⟩ := hrel
      have HCUT := Lib.hid hcut
      have HO := Lib.hid ho
      have HB := Lib.hid hb
      clear hcut ho hb
      by_cases hj : j < n
      · have zj : (j : Int) < (n : Int) := by omega
        have hjl : j < l.length := by rw [HN.out]; exact hj
        have hjL : j < L.length := by rw [HCUT.out.len]; exact hjl
        have hiL : i < L.length := by have := HCUT.out.lt; omega
        have hin : (i : Int) < (n : Int) := by have := HCUT.out.lt; omega
        have hLj : L[j] = l[j] := by
          have h1 := HCUT.out.rest j (Nat.le_refl _)
          rw [List.getElem?_eq_getElem hjL, List.getElem?_eq_getElem hjl] at h1
          exact Option.some.inj h1
        obtain ⟨hcj, -⟩ := HO.out.cel hjL
        rw [hLj] at hcj
        have HKEEP := Lib.hid (fun h => HCUT.out.keep hjl h)
        have HDROP := Lib.hid (fun h => HCUT.out.drop hjl h)
        have hbw : base ≤ wr.heap.size := Nat.le_trans hbase HB.out.size
        obtain ⟨c, hc⟩ : ∃ c, l[j] = c := ⟨_, rfl⟩
        have HQ := Lib.hid (fun X => rowq_any (wr.alloc X) bx row c (heap_alloc_old ((HB.out.block _ hbb).trans HBX.out)))
        rw [hc] at HKEEP HDROP hcj
        obtain ⟨m, hm⟩ : ∃ m, strNe c.row row = m := ⟨_, rfl⟩
        rw [hm] at HQ HKEEP HDROP
        obtain ⟨q0, q1, q2, q3, q4, q5⟩ := hcj
        have n2 : IntKind.i64.wrap ((j : Int) + 1) = ((j + 1 : Nat) : Int) := by rw [IntKind.wrap_i64]; omega
        have n3 : IntKind.i64.wrap ((i : Int) + 1) = ((i + 1 : Nat) : Int) := by rw [IntKind.wrap_i64]; have := HCUT.out.lt; omega
        clear hc hm hLj
        obtain ⟨r, col, ts, seq, del, val⟩ := c
        rw [show cellV (⟨r, col, ts, seq, del, val⟩ : Cel) = .agg #[.string r, .string col, .int .u64 ts, .int .u64 seq, .bool del, .string val] from rfl] at HQ
        simp only at q0 q1 q2 q3 q4 q5
        have HBOX : Hid ((wr.alloc (.cells #[.string r, .string col, .int .u64 ts, .int .u64 seq, .bool del, .string val] 34)).heap[wr.heap.size]? = some (.cells #[.string r, .string col, .int .u64 ts, .int .u64 seq, .bool del, .string val] 34 (0, 0))) := heap_alloc_at rfl _
        go_wp2_with (fail)
        (with_reducible refine (HQ.out _).mono ?_)
        rintro e w2 ⟨rfl, hf2⟩
        have HO2 := Lib.hid ((HO.out.fp (Fp.alloc wr (.cells #[.string r, .string col, .int .u64 ts, .int .u64 seq, .bool del, .string val] 34)) (by simp)).fp hf2 (by simp))
        have HB2 := Lib.hid (HB.out.trans (((Fp.alloc wr (.cells #[.string r, .string col, .int .u64 ts, .int .u64 seq, .bool del, .string val] 34)).trans hf2 (by simp)).below0 hbw))
        have HBOX2 := Lib.hid ((hf2.block _ (heap_lt HBOX.out) (by simp)).trans HBOX.out)
        clear hf2 q0 q1 q2 q3 q4 q5
        cases m
        · have b0 := cell_of_block HBOX2.out 0
          have b1 := cell_of_block HBOX2.out 1
          have b2 := cell_of_block HBOX2.out 2
          have b3 := cell_of_block HBOX2.out 3
          have b4 := cell_of_block HBOX2.out 4
          have b5 := cell_of_block HBOX2.out 5
          simp only [List.getElem?_toArray, List.getElem?_cons_succ, List.getElem?_cons_zero] at b0 b1 b2 b3 b4 b5
          obtain ⟨hci, hfz⟩ := HO2.out.cel hiL
          obtain ⟨p0, p1, p2, p3, p4, p5⟩ := hci
          have z0 := hfz (i * 6)
          have z1 := hfz (i * 6 + 1)
          have z2 := hfz (i * 6 + 2)
          have z3 := hfz (i * 6 + 3)
          have z4 := hfz (i * 6 + 4)
          have z5 := hfz (i * 6 + 5)
          clear hfz
          go_wp2_with (fail)
          go_roundg (gk - 1)
          case measure => omega
          case rel =>
            obtain ⟨ho5, hf5⟩ := HO2.out.setCel ⟨r, col, ts, seq, del, val⟩ hiL
            exact ⟨i + 1, j + 1, _, by omega, by simp, by simp, HKEEP.out trivial, ho5, HB2.out.trans (hf5.belowS (Nat.le_trans hbase HB2.out.size) (by simpa using hbg))⟩
        · go_wp2_with (fail)
          go_roundg (gk - 1)
          case measure => omega
          case rel => exact ⟨i, j + 1, L, by omega, rfl, rfl, HDROP.out trivial, HO2.out, HB2.out⟩
      · have zj : ¬ (j : Int) < (n : Int) := by omega
        have hjn : j = n := by have := HCUT.out.le; have := HN.out; omega
        have hin : i < n := by have := HCUT.out.lt; omega
        have hL := HCUT.out.len
        have hkept : L.take i = rowL l row := by
          have h1 := HCUT.out.kept
          rwa [List.take_of_length_le (l := l) (i := j) (by have := HN.out; omega)] at h1
        have HK := Lib.hid hkept
        have HNN := Lib.hid HN.out
        obtain ⟨g2, cap2, cur2, e2, hg2, hh2, hn2, hm2, hs2, ht2⟩ := OwnC.open HO.out (by rw [hL, HNN.out]; omega)
        rw [hL, HNN.out] at hn2 e2
        cases e2
        have hci : ¬ cap = i := by omega
        have zc : (n : Int) ≤ (cap : Int) := by omega
        have zi : (i : Int) ≤ (n : Int) := by omega
        have zic : (i : Int) ≤ (cap : Int) := by omega
        obtain ⟨vs, hcl⟩ := clear_cells wr g (i * 6) (n - i) (cap - i) cur2 hh2 (by rw [hs2]; omega) (by omega)
        obtain ⟨ho5, hf5⟩ := OwnC.cleared (k := i) (m := i * 6) vs HO.out (by rw [hL, HNN.out]; omega) (by rw [hL, HNN.out]; omega) rfl
        rw [hkept] at ho5
        have HB5 := Lib.hid (HB.out.trans (hf5.belowS (Nat.le_trans hbase HB.out.size) (by simpa using hbg)))
        have HO5 := Lib.hid ho5
        obtain ⟨w5, hw5⟩ : ∃ w5, wr.setCells g (i * 6) vs = w5 := ⟨_, rfl⟩
        rw [hw5] at hcl HB5 HO5
        clear ho5 hf5 hw5 hh2 hs2 ht2 hkept hL hm2
        go_wp2_with (fail)
        go_ret
        exact ⟨_, rfl, HO5.out, HB5.out⟩
end
end Go.Proofs.YtjnapcfclejknaaGreatDoor
