/-
  What an opened file says: Blocks, Many, Cells. What an opened file says of a row: near, Looks, Row.
-/
import Derived.Test.YtjnapcfclejknaaGreatDoorTabL
namespace Go.Proofs.YtjnapcfclejknaaGreatDoor
section
open Go.RowKit

def piecesL (l : List Cel) : List (List Cel) := (List.range (manyP l)).map (pieceL l)
theorem piecesL_length (l : List Cel) : (piecesL l).length = manyP l := by simp [piecesL]
theorem flat_upTo (l : List Cel) : ∀ k, ((List.range k).map (pieceL l)).flatten = l.take (8 * k)
  | 0 => by simp
  | k + 1 => by
    rw [List.range_succ, List.map_append, List.flatten_append, flat_upTo l k]
    simp only [List.map_cons, List.map_nil, List.flatten_cons, List.flatten_nil, List.append_nil]
    unfold pieceL
    rw [show 8 * (k + 1) = 8 * k + 8 from by omega, List.take_add]
theorem flat_pieces (l : List Cel) : (piecesL l).flatten = l := by
  unfold piecesL
  rw [flat_upTo]
  exact List.take_of_length_le (by unfold manyP; omega)
def partsV (b o : Nat) (l : List Cel) : List Value := (partsI l.length).map (partV b o)
theorem partsV_length (b o : Nat) (l : List Cel) : (partsV b o l).length = manyP l := by unfold partsV manyP; rw [List.length_map, partsI_length]
theorem partsV_at {b o k : Nat} {l : List Cel} (h : k < (partsV b o l).length) : (partsV b o l)[k] = .slice (some ⟨b, o + 8 * k * 6, none⟩) (min 8 (l.length - 8 * k)) (min 8 (l.length - 8 * k)) := by
  have h2 : k < (partsI l.length).length := by rw [partsV_length] at h; rw [partsI_length]; exact h
  have e : (partsV b o l)[k]? = some (partV b o (partsI l.length)[k]) := by
    unfold partsV
    rw [List.getElem?_map, List.getElem?_eq_getElem h2]
    rfl
  rw [List.getElem?_eq_getElem h] at e
  rw [Option.some.inj e, partsI_at h2]
  rfl
/-- the parts of a file as a row of slices -/
theorem parts_row {w : World} {base b o : Nat} {a : Option Addr} {n cap : Nat} {l : List Cel} (hl : CelsAt w (some ⟨b, o, none⟩) l.length l) (hp : OwnP w base (.slice a n cap) (partsV b o l)) : n = manyP l ∧ PRow w a (partsV b o l) (piecesL l) := by
  have hlen := partsV_length b o l
  have hn : n = (partsV b o l).length := by
    rcases hp.2 with ⟨e, h0⟩ | ⟨g, c, cur, e, _⟩
    · injection e with _ e2 _
      omega
    · injection e with _ e2 _
  refine ⟨by omega, ?_, by rw [hlen, piecesL_length], fun i hi => ?_⟩
  · by_cases h0 : partsV b o l = []
    · exact Or.inl h0
    · obtain ⟨g, c, e, _, hg, hc⟩ := hp.get (k := 0) (by have := List.length_pos_iff.2 h0; omega)
      injection e with e1 _ _
      exact Or.inr ⟨g, e1, hg, hc⟩
  · refine ⟨_, _, _, partsV_at hi, ?_⟩
    have h8 : 8 * i < l.length := by rw [hlen] at hi; unfold manyP at hi; omega
    have e : (piecesL l).getD i [] = pieceL l i := by
      rw [List.getD_eq_getElem?_getD, List.getElem?_eq_getElem (by rw [piecesL_length]; omega)]
      simp [piecesL]
    rw [e]
    exact part_at hl h8

set_option maxRecDepth 100000 in
set_option maxHeartbeats 1000000 in
theorem tblocks_any (w : World) (bt : Nat) (F : FileP) (hf : FileAt w bt F) :
    Calls Tryz.prog 15 #[.pointer (some ⟨bt, 0, none⟩)] w fun e w' => e = .returned (.int .i64 (manyP F.l : Nat)) ∧ Fp [] w w' := by
  obtain ⟨pv, b, o, h1, h2, h3⟩ := hf.ex
  obtain ⟨pa, pn, pc, rfl⟩ := h3.slice
  obtain ⟨hpn, -⟩ := parts_row h2 h3
  have q4 : w.cell? ⟨bt, 4, none⟩ = some (.slice pa pn pc) := cell_of_block h1 4
  rw [← hpn]
  clear hf h1 h2 h3 hpn
  go_enter Tryz.func15, Tryz.ntmps15
  go_wp2_with (fail)
  go_ret
  exact ⟨rfl, Fp.refl _ _⟩

theorem OwnC.len {w : World} {base : Nat} {v : Value} {l : List Cel} (h : OwnC w base v l) : ∃ a cap, v = .slice a l.length cap := by
  rcases h.2 with ⟨rfl, h0⟩ | ⟨g, cap, cur, rfl, _⟩
  · have : l = [] := List.eq_nil_of_length_eq_zero h0
    subst this
    exact ⟨_, _, rfl⟩
  · exact ⟨_, _, rfl⟩
set_option maxRecDepth 100000 in
set_option maxHeartbeats 1000000 in
theorem tmany_any (w : World) (bt : Nat) (F : FileP) (hf : FileAt w bt F) (hn : F.l.length ≤ 1000000) :
    Calls Tryz.prog 16 #[.pointer (some ⟨bt, 0, none⟩)] w fun e w' => e = .returned (.int .i64 (F.l.length : Nat)) ∧ Fp [] w w' := by
  obtain ⟨pv, b, o, h1, h2, h3⟩ := hf.ex
  obtain ⟨pa, pn, pc, rfl⟩ := h3.slice
  obtain ⟨hpn, hpr⟩ := parts_row h2 h3
  have q4 : w.cell? ⟨bt, 4, none⟩ = some (.slice pa pn pc) := cell_of_block h1 4
  have hml : manyP F.l ≤ 1000000 := by unfold manyP; omega
  have hcc := cconcat_any w pa pc _ _ hpr (by rw [partsV_length]; exact hml) (by rw [flat_pieces]; exact hn)
  rw [partsV_length, flat_pieces, ← hpn] at hcc
  have HCC := Lib.hid hcc
  clear hf h1 h2 h3 hpn hpr hcc
  go_enter Tryz.func16, Tryz.ntmps16
  go_wp2_with (fail)
  (with_reducible refine HCC.out.mono ?_)
  rintro e w1 ⟨v1, rfl, ho1, hf1⟩
  obtain ⟨a1, c1, rfl⟩ := ho1.len
  have HF := Lib.hid hf1
  clear ho1 hf1
  go_wp2_with (fail)
  go_ret
  exact ⟨rfl, HF.out⟩

/-! cells as they are read -/
def seenL (l : List Cel) (q : Nat) : List Cel := if q = 0 then l else l.map fun c => { c with seq := q }
def seenUp (l : List Cel) (q k : Nat) : List Cel := (l.take k).map (fun c => { c with seq := q }) ++ l.drop k
theorem seenUp_succ {l : List Cel} {q k : Nat} (h : k < l.length) : seenUp l q (k + 1) = (seenUp l q k).set k { l[k] with seq := q } := by
  unfold seenUp
  rw [List.take_succ_eq_append_getElem h, List.map_append, List.set_append_right _ _ (by simp; omega)]
  simp only [List.length_map, List.length_take, List.map_cons, List.map_nil]
  rw [Nat.min_eq_left (by omega), Nat.sub_self, List.drop_eq_getElem_cons h, List.set_cons_zero, List.append_assoc]
  rfl
theorem seenUp_at {l : List Cel} {q k : Nat} (h : k < l.length) : (seenUp l q k).getD k zeroC = l[k] := by
  unfold seenUp
  rw [List.getD_eq_getElem?_getD, List.getElem?_append_right (by simp; omega)]
  simp only [List.length_map, List.length_take]
  rw [Nat.min_eq_left (by omega), Nat.sub_self, List.drop_eq_getElem_cons h]
  rfl
theorem seenUp_length (l : List Cel) (q k : Nat) : (seenUp l q k).length = l.length := by
  unfold seenUp
  simp only [List.length_append, List.length_map, List.length_take, List.length_drop]
  omega
theorem seenUp_zero (l : List Cel) (q : Nat) : seenUp l q 0 = l := by simp [seenUp]
theorem seenUp_all {l : List Cel} {q : Nat} (hq : q ≠ 0) : seenUp l q l.length = seenL l q := by
  unfold seenUp seenL
  rw [if_neg hq, List.take_length, List.drop_length, List.append_nil]
theorem flat_seq : ∀ (l : List Cel) (k : Nat) (q : Nat), k < l.length → (l.flatMap celRow).set (k * 6 + 3) (.int .u64 q) = (l.set k { l.getD k zeroC with seq := q }).flatMap celRow
  | [], k, q, h => absurd h (Nat.not_lt_zero _)
  | c :: l, 0, q, _ => by simp [celRow]
  | c :: l, k + 1, q, h => by
    rw [List.flatMap_cons, List.set_append, if_neg (by show ¬ (k + 1) * 6 + 3 < 6; omega), List.set_cons_succ, List.flatMap_cons]
    have e : (k + 1) * 6 + 3 - (celRow c).length = k * 6 + 3 := by show (k + 1) * 6 + 3 - 6 = _; omega
    rw [e, flat_seq l k q (by simpa using h)]
    rfl
theorem OwnC.setSeq {w : World} {base g k n cap : Nat} {l : List Cel} (q : Nat) (h : OwnC w base (.slice (some ⟨g, 0, none⟩) n cap) l) (hk : k < l.length) :
    OwnC (w.setCell ⟨g, k * 6 + 3, none⟩ (.int .u64 q)) base (.slice (some ⟨g, 0, none⟩) n cap) (l.set k { l.getD k zeroC with seq := q }) := by
  obtain ⟨g2, cap2, cur, e, hg, hh, hn, hm, hs, ht⟩ := h.open (by omega)
  cases e
  refine ⟨by rw [flat_len], Or.inr ⟨g, cap, cur.setIfInBounds (k * 6 + 3) (.int .u64 q), by rw [List.length_set], hg, heap_setCell_same hh _, by rw [List.length_set]; exact hn, hm, by rw [Array.size_setIfInBounds]; exact hs, ?_⟩⟩
  rw [Array.toList_setIfInBounds, List.length_set, List.take_set, ht, flat_seq l k q hk]

set_option maxRecDepth 100000 in
set_option maxHeartbeats 4000000 in
theorem tseen_any (w : World) (bt base : Nat) (F : FileP) (v : Value) (l : List Cel) (hf : FileAt w bt F) (hv : OwnC w base v l) (hok : ∀ c ∈ l, CelOK c) (hn : l.length ≤ 1000000) (hq : F.f.seq < 18446744073709551616) :
    Calls Tryz.prog 51 #[.pointer (some ⟨bt, 0, none⟩), v] w fun e w' => ∃ v', e = .returned v' ∧ OwnC w' w.heap.size v' (seenL l F.f.seq) ∧ Fp [] w w' := by
  have HC := Lib.hid (cclone_any w v base l hv hok hn)
  have HFA := Lib.hid hf
  obtain ⟨q, hqq⟩ : ∃ q, F.f.seq = q := ⟨_, rfl⟩
  have HQ := Lib.hid hqq
  rw [hqq] at hq ⊢
  clear hf hv hqq
  go_enter Tryz.func51, Tryz.ntmps51
  go_wp2_with (fail)
  (with_reducible refine HC.out.mono ?_)
  rintro e w1 ⟨v1, rfl, ho1, hf1⟩
  obtain ⟨a1, c1, rfl⟩ := ho1.len
  have HO1 := Lib.hid ho1
  have HF1 := Lib.hid hf1
  clear ho1 hf1
  obtain ⟨n, hnl⟩ : ∃ n, l.length = n := ⟨_, rfl⟩
  have HN := Lib.hid hnl
  have ho2 := HO1.out
  rw [hnl] at hn ho2 ⊢
  have HO2 := Lib.hid ho2
  clear ho2 hnl
  go_wp2_with (fail)
  by_cases hq0 : q = 0
  · subst hq0
    have HSN : Hid (seenL l 0 = l) := rfl
    go_loopg [10] n (fun g vi wr => ∃ k : Nat, g + k = n ∧ vi = .int .i64 k ∧ OwnC wr w.heap.size (.slice a1 n c1) l ∧ Fp [] w wr)
    case atStart => exact ⟨0, by omega, rfl, HO2.out, HF1.out⟩
    case round =>
      obtain ⟨k, hg, rfl, ho, hf⟩ := hrel
      have HO := Lib.hid ho
      have HF := Lib.hid hf
      clear ho hf
      by_cases hk : k < n
      · have zk : (k : Int) < (n : Int) := by omega
        obtain ⟨pv, b, o, h1, -, -⟩ := (HFA.out.fp HF.out).ex
        rw [HQ.out] at h1
        have q3 : wr.cell? ⟨bt, 3, none⟩ = some (.int .u64 (0 : Nat)) := cell_of_block h1 3
        clear h1
        go_wp2_with (fail)
        go_roundg (gk - 1)
        case measure => omega
        case rel => exact ⟨k + 1, by omega, by go_num, HO.out, HF.out⟩
      · have zk : ¬ (k : Int) < (n : Int) := by omega
        go_wp2_with (fail)
        go_ret
        exact ⟨_, rfl, by rw [HSN.out]; exact HO.out, HF.out⟩
  · go_loopg [10] n (fun g vi wr => ∃ k : Nat, g + k = n ∧ vi = .int .i64 k ∧ OwnC wr w.heap.size (.slice a1 n c1) (seenUp l q k) ∧ Fp [] w wr)
    case atStart => exact ⟨0, by omega, rfl, by rw [seenUp_zero]; exact HO2.out, HF1.out⟩
    case round =>
      obtain ⟨k, hg, rfl, ho, hf⟩ := hrel
      have HO := Lib.hid ho
      have HF := Lib.hid hf
      clear ho hf
      by_cases hk : k < n
      · have zk : (k : Int) < (n : Int) := by omega
        have hkl : k < l.length := by rw [HN.out]; exact hk
        obtain ⟨pv, b, o, h1, -, -⟩ := (HFA.out.fp HF.out).ex
        rw [HQ.out] at h1
        have q3 : wr.cell? ⟨bt, 3, none⟩ = some (.int .u64 q) := cell_of_block h1 3
        have zq : ((q : Int) != 0) = true := by rw [bne_iff_ne]; omega
        have hlen : (seenUp l q k).length = n := by rw [seenUp_length, HN.out]
        obtain ⟨g, cap, cur, e0, hgw, hh, -⟩ := OwnC.open HO.out (by omega)
        rw [hlen] at e0
        injection e0 with e1 _ e3
        subst e1 e3
        obtain ⟨hcl, hfz⟩ := HO.out.cel (j := k) (by omega)
        obtain ⟨-, -, -, p3, -, -⟩ := hcl
        have z3 := hfz (k * 6 + 3)
        have HS := Lib.hid (seenUp_succ (q := q) hkl)
        have hset := OwnC.setSeq q HO.out (k := k) (by omega)
        rw [seenUp_at hkl, ← HS.out] at hset
        have HSET := Lib.hid hset
        have HFS := Lib.hid (HF.out.setCell' (p := ⟨g, k * 6 + 3, none⟩) (Or.inr hgw) (.int .u64 q))
        clear h1 hfz hh hset
        go_wp2_with (fail)
        go_roundg (gk - 1)
        case measure => omega
        case rel => exact ⟨k + 1, by omega, by go_num, HSET.out, HFS.out⟩
      · have zk : ¬ (k : Int) < (n : Int) := by omega
        have hkn : k = l.length := by have := HN.out; omega
        have ho3 := HO.out
        rw [hkn, seenUp_all hq0] at ho3
        have HO3 := Lib.hid ho3
        clear ho3 hkn
        go_wp2_with (fail)
        go_ret
        exact ⟨_, rfl, HO3.out, HF.out⟩

set_option maxRecDepth 100000 in
set_option maxHeartbeats 1000000 in
theorem tcells_any (w : World) (bt : Nat) (F : FileP) (hf : FileAt w bt F) (hn : F.l.length ≤ 1000000) (hq : F.f.seq < 18446744073709551616) :
    Calls Tryz.prog 14 #[.pointer (some ⟨bt, 0, none⟩)] w fun e w' => ∃ v', e = .returned v' ∧ OwnC w' w.heap.size v' (seenL F.l F.f.seq) ∧ Fp [] w w' := by
  obtain ⟨pv, b, o, h1, h2, h3⟩ := hf.ex
  obtain ⟨pa, pn, pc, rfl⟩ := h3.slice
  obtain ⟨hpn, hpr⟩ := parts_row h2 h3
  have q4 : w.cell? ⟨bt, 4, none⟩ = some (.slice pa pn pc) := cell_of_block h1 4
  have hml : manyP F.l ≤ 1000000 := by unfold manyP; omega
  have hcc := cconcat_any w pa pc _ _ hpr (by rw [partsV_length]; exact hml) (by rw [flat_pieces]; exact hn)
  rw [partsV_length, flat_pieces, ← hpn] at hcc
  have HCC := Lib.hid hcc
  have HOK := Lib.hid h2.ok
  have HFA := Lib.hid hf
  clear hf h1 h2 h3 hpn hpr hcc
  go_enter Tryz.func14, Tryz.ntmps14
  go_wp2_with (fail)
  (with_reducible refine HCC.out.mono ?_)
  rintro e w1 ⟨v1, rfl, ho1, hf1⟩
  have HSN := Lib.hid (tseen_any w1 bt w.heap.size F v1 F.l (HFA.out.fp hf1) ho1 HOK.out hn hq)
  have HF := Lib.hid hf1
  clear ho1 hf1
  go_wp2_with (fail)
  (with_reducible refine HSN.out.mono ?_)
  rintro e w2 ⟨v2, rfl, ho2, hf2⟩
  have HO2 := Lib.hid ho2
  have HF2 := Lib.hid (HF.out.trans hf2 (by simp))
  have hs12 := HF.out.size
  clear ho2 hf2
  go_wp2_with (fail)
  go_ret
  exact ⟨_, rfl, HO2.out.mono hs12, HF2.out⟩

set_option maxRecDepth 100000 in
set_option maxHeartbeats 1000000 in
theorem fseq_any (w : World) (f : Foot) :
    Calls Tryz.prog 17 #[footV f] w fun e w' => e = .returned (.int .u64 f.seq) ∧ Fp [] w w' := by
  obtain ⟨b, i, t, q⟩ := f
  unfold footV
  go_enter Tryz.func17, Tryz.ntmps17
  go_wp2_with (fail)
  go_ret
  exact ⟨rfl, Fp.alloc _ _⟩
end

section
open Go.RowKit

def leS (a b : ByteArray) : Bool := Op.bytesLess a.toList b.toList || a.toList == b.toList
def geS (a b : ByteArray) : Bool := !Op.bytesLess a.toList b.toList
def firstR (l : List Cel) : ByteArray := (l.getD 0 zeroC).row
def lastR (l : List Cel) : ByteArray := (l.getD (l.length - 1) zeroC).row
/-- a row may lie in part k -/
def nearK (l : List Cel) (row : ByteArray) (k : Nat) : Bool := leS (firstR (pieceL l k)) row && geS (lastR (pieceL l k)) row
def nearUp (l : List Cel) (row : ByteArray) (k : Nat) : List Nat := (List.range k).filter (nearK l row)
def nearI (l : List Cel) (fil row : ByteArray) : List Nat := if mayP fil row = true then nearUp l row (manyP l) else []
theorem nearUp_succ (l : List Cel) (row : ByteArray) (k : Nat) : nearUp l row (k + 1) = nearUp l row k ++ (if nearK l row k = true then [k] else []) := by
  unfold nearUp
  rw [List.range_succ, List.filter_append]
  congr 1
  by_cases h : nearK l row k <;> simp [h]
theorem nearUp_lt {l : List Cel} {row : ByteArray} {k j : Nat} (h : j ∈ nearUp l row k) : j < k := List.mem_range.1 (List.mem_filter.1 h).1
theorem nearUp_length (l : List Cel) (row : ByteArray) (k : Nat) : (nearUp l row k).length ≤ k := Nat.le_trans (List.length_filter_le _ _) (by simp)
def partAt (b o n j : Nat) : Value := .slice (some ⟨b, o + 8 * j * 6, none⟩) (min 8 (n - 8 * j)) (min 8 (n - 8 * j))
/-- append of one slice that lies somewhere -/
theorem wpList_append_part {w : World} {ops : Array Oper} {rest : List Oper} {o : Oper} {a : Act} {Q : Exit → Act → World → Prop} (hgd : o.guard = none) (s x : Operand)
    (ho : o.op = .call { callee := .builtin .append, args := #[s, x], argTypes := #[46, 46] }) (base : Nat) (v : Value) (l : List Value) (hs : a.eval s = v) (hown : OwnP w base v l)
    (g : Nat) (t : Value) (ht : t.oneCell' = true) (hx : a.eval x = .slice (some ⟨g, 0, none⟩) 1 1) (hg : w.cell? ⟨g, 0, none⟩ = some t) (hlen : l.length + 1 ≤ 1000000000) (hbase : base ≤ w.heap.size)
    (h : ∀ v' w', OwnP w' base v' (l ++ [t]) → Below base w w' → wpList Tryz.prog ops Q rest (a.put o.dst v') w') : wpList Tryz.prog ops Q (o :: rest) a w := by
  obtain ⟨i0, hi, hz0, hz1, hz2⟩ := info_parts Tryz.infoP
  refine wpList_append_own w hgd s x 46 ho base 22 i0 _ 1 24 Tryz.underlying46 hi hz0 hz1 hz2 rfl (by decide) v l.length l hs hown ⟨g, 0, none⟩ 1 1 [t] hx rfl ?_ (by intro u hu; simp at hu; subst hu; exact ht) (by unfold maxLen; omega) (by omega) hbase ?_
  · intro j u hu
    have hj : j = 0 := by
      have := (List.getElem?_eq_some_iff.1 hu).1
      simpa using this
    subst hj
    simp at hu
    subst hu
    have e1 : (⟨g, 0, none⟩ : Addr).add 0 = ⟨g, 0, none⟩ := by unfold Addr.add; split <;> simp_all
    rw [e1]; exact hg
  · intro v' w' h1 h2 _
    refine h v' w' ?_ ((Below.refl base w).grown h2 hbase (fun k hk => (hown.lt k hk).1))
    unfold OwnP
    rw [List.length_append]
    exact h1

def NearR (l : List Cel) (fil row : ByteArray) (base : Nat) (e : Ending) (w' : World) : Prop := ∃ v b o, e = .returned v ∧ OwnP w' base v ((nearI l fil row).map (partAt b o l.length)) ∧ CelsAt w' (some ⟨b, o, none⟩) l.length l

set_option maxRecDepth 100000 in
set_option maxHeartbeats 4000000 in
theorem tnear_any (w : World) (bt : Nat) (F : FileP) (row : ByteArray) (hf : FileAt w bt F) (hn : F.l.length ≤ 1000000) (hfs : F.fil.size ≤ 100000) (hr : row.size ≤ 100000000) (ht : TabAt w) :
    Calls Tryz.prog 47 #[.pointer (some ⟨bt, 0, none⟩), .string row] w fun e w' => NearR F.l F.fil row w.heap.size e w' ∧ Fp [] w w' := by
  obtain ⟨pv, b, o, h1, h2, h3⟩ := hf.ex
  obtain ⟨pa, pn, pc, rfl⟩ := h3.slice
  obtain ⟨hpn, hpr⟩ := parts_row h2 h3
  have q5 : w.cell? ⟨bt, 5, none⟩ = some (.string F.fil) := cell_of_block h1 5
  have HMA := Lib.hid (tmay_any w F.fil row hfs hr ht)
  have HB := Lib.hid h1
  have HPR := Lib.hid hpr
  have HPN := Lib.hid hpn
  have HCL := Lib.hid h2
  have HP3 := Lib.hid h3
  obtain ⟨fil, hfil⟩ : ∃ x, F.fil = x := ⟨_, rfl⟩
  obtain ⟨l, hl⟩ : ∃ x, F.l = x := ⟨_, rfl⟩
  rw [hfil] at q5 HMA HB
  rw [hl] at HPN HPR HCL HP3 hn
  have hml : pn ≤ 1000000 := by rw [HPN.out]; unfold manyP; omega
  rw [hl, hfil]
  clear hf h1 h2 h3 hpn hpr hfil hl
  go_enter Tryz.func47, Tryz.ntmps47
  go_wp2_with (fail)
  (with_reducible refine HMA.out.mono ?_)
  rintro e w1 ⟨rfl, hf1⟩
  have HF1 := Lib.hid hf1
  have q4 : w1.cell? ⟨bt, 4, none⟩ = some (.slice pa pn pc) := cell_of_block ((hf1.block _ (heap_lt HB.out) (by simp)).trans HB.out) 4
  clear hf1 q5
  obtain ⟨may, hmay⟩ : ∃ m, mayP fil row = m := ⟨_, rfl⟩
  rw [hmay]
  cases may
  · have HNI : Hid (nearI l fil row = []) := by unfold Hid nearI; rw [hmay]; rfl
    clear hmay
    go_wp2_with (fail)
    go_ret
    refine ⟨⟨_, b, o, rfl, ?_, HCL.out.fp HF1.out⟩, HF1.out⟩
    rw [HNI.out]
    exact OwnP.nil _ _
  · have HNI : Hid (nearI l fil row = nearUp l row (manyP l)) := by unfold Hid nearI; rw [hmay]; rfl
    clear hmay
    go_wp2_with (fail)
    go_loopg [4, 19] pn (fun g vl vk wr => ∃ (k : Nat) (v : Value), g + k = pn ∧ v = vl ∧ vk = .int .i64 k ∧ OwnP wr w.heap.size v ((nearUp l row k).map (partAt b o l.length)) ∧ Fp [] w wr)
    case atStart => exact ⟨0, _, by omega, rfl, rfl, OwnP.nil _ _, HF1.out⟩
    case round =>
      obtain ⟨k, v, hg, rfl, rfl, ho, hf⟩ := hrel
      have HO := Lib.hid ho
      have HF := Lib.hid hf
      clear ho hf
      by_cases hk : k < pn
      · have zk : (k : Int) < (pn : Int) := by omega
        have hkp : k < (partsV b o l).length := by rw [partsV_length, ← HPN.out]; exact hk
        obtain ⟨g1, rfl, hcell⟩ := HPR.out.get hkp
        have q0 := hcell wr HF.out
        rw [partsV_at hkp] at q0
        have h8 : 8 * k < l.length := by rw [partsV_length] at hkp; unfold manyP at hkp; omega
        have HSU := Lib.hid (nearUp_succ l row k)
        have HPA : Hid (partAt b o l.length k = .slice (some ⟨b, o + 8 * k * 6, none⟩) (min 8 (l.length - 8 * k)) (min 8 (l.length - 8 * k))) := rfl
        have hnk : nearK l row k = (leS (firstR (pieceL l k)) row && geS (lastR (pieceL l k)) row) := rfl
        obtain ⟨m, hm⟩ : ∃ m, min 8 (l.length - 8 * k) = m := ⟨_, rfl⟩
        have hm1 : 1 ≤ m := by omega
        have hpc := part_at HCL.out h8
        rw [hm] at q0 hpc HPA
        have hpl : (pieceL l k).length = m := hpc.len.symm
        obtain ⟨bb0, oo0, ea, hbl0, hc0⟩ := cels_get (k := 0) hpc (by omega)
        obtain ⟨bb1, oo1, eb, hbl1, hc1⟩ := cels_get (k := m - 1) hpc (by omega)
        injection ea with ea
        injection ea with ea1 ea2
        injection eb with eb
        injection eb with eb1 eb2
        subst ea1 ea2 eb1 eb2
        have e0 : firstR (pieceL l k) = ((pieceL l k)[0]'(by omega)).row := by
          unfold firstR
          rw [List.getD_eq_getElem?_getD, List.getElem?_eq_getElem (by omega)]; rfl
        have e1 : lastR (pieceL l k) = ((pieceL l k)[m - 1]'(by omega)).row := by
          unfold lastR
          rw [show (pieceL l k).length - 1 = m - 1 from by rw [hpl], List.getD_eq_getElem?_getD, List.getElem?_eq_getElem (by omega)]; rfl
        rw [e0, e1] at hnk
        obtain ⟨c0, hcc0⟩ : ∃ c, ((pieceL l k)[0]'(by omega)).row = c := ⟨_, rfl⟩
        obtain ⟨c1, hcc1⟩ : ∃ c, ((pieceL l k)[m - 1]'(by omega)).row = c := ⟨_, rfl⟩
        have p0 := (hc0 wr HF.out).c0
        have p1 := (hc1 wr HF.out).c0
        rw [hcc0] at p0 hnk
        rw [hcc1] at p1 hnk
        rw [Nat.zero_mul, Nat.add_zero] at p0
        obtain ⟨m1, hm1e⟩ : ∃ x, m - 1 = x := ⟨_, rfl⟩
        rw [hm1e] at p1
        have n1 : IntKind.i64.wrap ((m : Int) - 1) = (m1 : Int) := by rw [IntKind.wrap_i64]; omega
        have zm1 : (m1 : Int) < (m : Int) := by omega
        have zm0 : (0 : Int) < (m : Int) := by omega
        obtain ⟨x, hx⟩ : ∃ x, leS c0 row = x := ⟨_, rfl⟩
        obtain ⟨y, hy⟩ : ∃ y, Op.bytesLess c1.toList row.toList = y := ⟨_, rfl⟩
        have hy2 : geS c1 row = !y := by unfold geS; rw [hy]
        have x1 : (Op.bytesLess c0.toList row.toList || c0.toList == row.toList) = x := hx
        have y1 := hy
        rw [hx, hy2] at hnk
        rw [hnk] at HSU
        have hbw : w.heap.size ≤ wr.heap.size := HF.out.size
        have hul : ((nearUp l row k).map (partAt b o l.length)).length ≤ 1000000 := by rw [List.length_map]; have := nearUp_length l row k; omega
        have HUL := Lib.hid hul
        clear hm hpc hpl hcc0 hcc1 hc0 hc1 hcell hm1e hx hy hy2 hnk e0 e1 hul
        cases x
        · go_wp2_with (fail)
          go_roundg (gk - 1)
          case measure => omega
          case rel => exact ⟨k + 1, _, by omega, rfl, by go_num, by rw [HSU.out, Bool.false_and, if_neg (by decide), List.append_nil]; exact HO.out, HF.out⟩
        · cases y
          · go_wp2_with (at_builtin; (refine wpList_append_part rfl _ _ rfl w.heap.size _ _ rfl (HO.out.fp (Fp.alloc _ _) (by simp)) wr.heap.size (.slice (some ⟨b, o + 8 * k * 6, none⟩) m m) rfl rfl (by rw [cell_of_block (heap_alloc_at rfl _)]; rfl) (by have := HUL.out; omega) (by simp; omega) ?_); intro v2 w2 ho2 hb2; have HO2 := Lib.hid ho2; have HB2 := Lib.hid hb2; clear ho2 hb2)
            go_roundg (gk - 1)
            case measure => omega
            case rel => exact ⟨k + 1, _, by omega, rfl, by go_num, by rw [HSU.out, show (true && !false) = true from rfl, if_pos rfl, List.map_append, List.map_cons, List.map_nil, HPA.out]; exact HO2.out, (HF.out.alloc' _).belowTrans HB2.out⟩
          · go_wp2_with (fail)
            go_roundg (gk - 1)
            case measure => omega
            case rel => exact ⟨k + 1, _, by omega, rfl, by go_num, by rw [HSU.out, show (true && !true) = false from rfl, if_neg (by decide), List.append_nil]; exact HO.out, HF.out⟩
      · have zk : ¬ (k : Int) < (pn : Int) := by omega
        have hkn : k = manyP l := by have := HPN.out; omega
        have ho2 := HO.out
        rw [hkn, ← HNI.out] at ho2
        have HO2 := Lib.hid ho2
        clear ho2 hkn
        go_wp2_with (fail)
        go_ret
        exact ⟨⟨_, b, o, rfl, HO2.out, HCL.out.fp HF.out⟩, HF.out⟩

/-- the parts that are near, as a row of slices -/
theorem near_row {w : World} {base b o : Nat} {v : Value} {l : List Cel} {js : List Nat} (hjs : ∀ j ∈ js, 8 * j < l.length) (hl : CelsAt w (some ⟨b, o, none⟩) l.length l) (hp : OwnP w base v (js.map (partAt b o l.length))) :
    ∃ a cap, v = .slice a js.length cap ∧ PRow w a (js.map (partAt b o l.length)) (js.map (pieceL l)) := by
  have hlen : (js.map (partAt b o l.length)).length = js.length := List.length_map _
  have hrow : ∀ i (h : i < (js.map (partAt b o l.length)).length), ∃ ad m c, (js.map (partAt b o l.length))[i] = .slice (some ad) m c ∧ CelsAt w (some ad) m ((js.map (pieceL l)).getD i []) := by
    intro i hi
    have hi2 : i < js.length := by rw [hlen] at hi; exact hi
    refine ⟨⟨b, o + 8 * js[i] * 6, none⟩, min 8 (l.length - 8 * js[i]), min 8 (l.length - 8 * js[i]), by rw [List.getElem_map]; rfl, ?_⟩
    have e : (js.map (pieceL l)).getD i [] = pieceL l js[i] := by
      rw [List.getD_eq_getElem?_getD, List.getElem?_map, List.getElem?_eq_getElem hi2]; rfl
    rw [e]
    exact part_at hl (hjs _ (List.getElem_mem hi2))
  by_cases h0 : js = []
  · subst h0
    obtain ⟨a, n, cap, rfl⟩ := hp.slice
    have hn : n = 0 := by
      rcases hp.2 with ⟨e, h0⟩ | ⟨g, c, cur, e, _⟩
      · injection e
      · injection e with _ e2 _
    subst hn
    exact ⟨a, cap, rfl, Or.inl rfl, rfl, hrow⟩
  · have hpos := List.length_pos_iff.2 h0
    obtain ⟨g, cap, e, _, hg, hc⟩ := hp.get (k := 0) (by rw [hlen]; exact hpos)
    rw [hlen] at e
    exact ⟨_, cap, e, Or.inr ⟨g, rfl, hg, hc⟩, by rw [List.length_map, List.length_map], hrow⟩
theorem nearI_lt {l : List Cel} {fil row : ByteArray} {j : Nat} (h : j ∈ nearI l fil row) : 8 * j < l.length := by
  unfold nearI at h
  split at h
  · have := nearUp_lt h
    unfold manyP at this
    omega
  · cases h

set_option maxRecDepth 100000 in
set_option maxHeartbeats 1000000 in
theorem tlooks_any (w : World) (bt : Nat) (F : FileP) (row : ByteArray) (hf : FileAt w bt F) (hn : F.l.length ≤ 1000000) (hfs : F.fil.size ≤ 100000) (hr : row.size ≤ 100000000) (ht : TabAt w) :
    Calls Tryz.prog 11 #[.pointer (some ⟨bt, 0, none⟩), .string row] w fun e w' => e = .returned (.int .i64 ((nearI F.l F.fil row).length : Nat)) ∧ Fp [] w w' := by
  have HN := Lib.hid (tnear_any w bt F row hf hn hfs hr ht)
  clear hf ht
  go_enter Tryz.func11, Tryz.ntmps11
  go_wp2_with (fail)
  (with_reducible refine HN.out.mono ?_)
  rintro e w1 ⟨⟨v1, b, o, rfl, ho, hc⟩, hf1⟩
  obtain ⟨a, cap, rfl, -⟩ := near_row (fun j hj => nearI_lt hj) hc ho
  have HF := Lib.hid hf1
  clear ho hc hf1
  go_wp2_with (fail)
  go_ret
  exact ⟨rfl, HF.out⟩

/-- what a file says of a row: the cells of the parts that are near, those of the row -/
def nearL (l : List Cel) (fil row : ByteArray) : List Cel := ((nearI l fil row).map (pieceL l)).flatten
def rowT (l : List Cel) (fil row : ByteArray) (q : Nat) : List Cel := seenL (rowL (nearL l fil row) row) q
theorem nearL_le (l : List Cel) (fil row : ByteArray) : (nearL l fil row).length ≤ l.length := by
  unfold nearL nearI
  split
  · unfold nearUp
    have h := flat_pieces l
    have key : ∀ js : List Nat, (((js.filter (nearK l row)).map (pieceL l)).flatten).length ≤ ((js.map (pieceL l)).flatten).length := by
      intro js
      induction js with
      | nil => exact Nat.le_refl _
      | cons j js ih =>
        rw [List.filter_cons]
        split
        · simp only [List.map_cons, List.flatten_cons, List.length_append]; omega
        · simp only [List.map_cons, List.flatten_cons, List.length_append]; omega
    have h2 := key (List.range (manyP l))
    unfold piecesL at h
    rw [h] at h2
    exact h2
  · exact Nat.zero_le _
theorem nearL_mem {l : List Cel} {fil row : ByteArray} {c : Cel} (h : c ∈ nearL l fil row) : c ∈ l := by
  unfold nearL at h
  obtain ⟨p, hp, hc⟩ := List.mem_flatten.1 h
  obtain ⟨j, _, rfl⟩ := List.mem_map.1 hp
  unfold pieceL at hc
  exact List.mem_of_mem_drop (List.mem_of_mem_take hc)
theorem rowL_mem {l : List Cel} {row : ByteArray} {c : Cel} (h : c ∈ rowL l row) : c ∈ l := (List.mem_filter.1 h).1

set_option maxRecDepth 100000 in
set_option maxHeartbeats 4000000 in
theorem trow_any (w : World) (bt : Nat) (F : FileP) (row : ByteArray) (hf : FileAt w bt F) (hn : F.l.length ≤ 1000000) (hq : F.f.seq < 18446744073709551616) (hfs : F.fil.size ≤ 100000) (hr : row.size ≤ 100000000) (ht : TabAt w) :
    Calls Tryz.prog 18 #[.pointer (some ⟨bt, 0, none⟩), .string row] w fun e w' => ∃ v', e = .returned v' ∧ OwnC w' w.heap.size v' (rowT F.l F.fil row F.f.seq) ∧ Fp [] w w' := by
  have HFA := Lib.hid hf
  have hf0 := Fp.alloc w (.cells #[.string row] 9)
  have HNR := Lib.hid (tnear_any (w.alloc (.cells #[.string row] 9)) bt F row (hf.fp hf0) hn hfs hr (ht.fp hf0 (by simp)))
  have hok : ∀ c ∈ F.l, CelOK c := by
    obtain ⟨pv, b, o, _, h2, _⟩ := hf.ex
    exact h2.ok
  have HOK := Lib.hid hok
  have q0 : (w.alloc (.cells #[.string row] 9)).cell? ⟨w.heap.size, 0, none⟩ = some (.string row) := cell_of_block (heap_alloc_at rfl _) 0
  clear hf hf0 ht hok
  go_enter Tryz.func18, Tryz.ntmps18
  go_wp2_with (fail)
  (with_reducible refine HNR.out.mono ?_)
  rintro e w1 ⟨⟨v1, b, o, rfl, ho, hc⟩, hf1⟩
  obtain ⟨a, cap, rfl, hpr⟩ := near_row (fun j hj => nearI_lt hj) hc ho
  have hnl := nearL_le F.l F.fil row
  have hni : (nearI F.l F.fil row).length ≤ 1000000 := by
    unfold nearI
    split
    · have := nearUp_length F.l row (manyP F.l); unfold manyP at this ⊢; omega
    · exact Nat.zero_le _
  have hcc := cconcat_any w1 a cap _ _ hpr (by rw [List.length_map]; exact hni) (by show (nearL F.l F.fil row).length ≤ _; omega)
  rw [List.length_map] at hcc
  rw [show ((nearI F.l F.fil row).map (pieceL F.l)).flatten = nearL F.l F.fil row from rfl] at hcc
  have HCC := Lib.hid hcc
  have hbx : w1.heap[w.heap.size]? = some (.cells #[.string row] 9 (0, 0)) := (hf1.block _ (by simp) (by simp)).trans (heap_alloc_at rfl _)
  have HBX := Lib.hid hbx
  have HF1 := Lib.hid ((Fp.alloc w (.cells #[.string row] 9)).trans hf1 (by simp))
  obtain ⟨nn, hnn⟩ : ∃ n, (nearI F.l F.fil row).length = n := ⟨_, rfl⟩
  rw [hnn] at HCC ⊢
  have hw01 : w.heap.size < w1.heap.size := heap_lt hbx
  clear hcc hpr hc ho hf1 hbx hnn hni q0
  go_wp2_with (fail)
  (with_reducible refine HCC.out.mono ?_)
  rintro e w2 ⟨v2, rfl, ho2, hf2⟩
  have HF2 := Lib.hid (HF1.out.trans hf2 (by simp))
  have hw12 := hf2.size
  have HDE := Lib.hid (delete_any w2 w.heap.size w1.heap.size row v2 (nearL F.l F.fil row) ((hf2.block _ (heap_lt HBX.out) (by simp)).trans HBX.out) ho2 (fun c hc => HOK.out c (nearL_mem hc)) (by omega) hw01 hw12)
  clear ho2 hf2
  go_wp2_with (fail)
  (with_reducible refine HDE.out.mono ?_)
  rintro e w3 ⟨v3, rfl, ho3, hb3⟩
  have hrl : (rowL (nearL F.l F.fil row) row).length ≤ 1000000 := by
    have := List.length_filter_le (fun c => decide (c.row = row)) (nearL F.l F.fil row)
    unfold rowL
    omega
  have HF3 := Lib.hid (HF2.out.belowTrans (hb3.mono (Nat.le_of_lt hw01)))
  have HSN := Lib.hid (tseen_any w3 bt w1.heap.size F v3 (rowL (nearL F.l F.fil row) row) (HFA.out.fp HF3.out) ho3 (fun c hc => HOK.out c (nearL_mem (rowL_mem hc))) hrl hq)
  have hw23 := HF3.out.size
  clear ho3 hb3
  go_wp2_with (fail)
  (with_reducible refine HSN.out.mono ?_)
  rintro e w4 ⟨v4, rfl, ho4, hf4⟩
  have HO4 := Lib.hid ho4
  have HF4 := Lib.hid (HF3.out.trans hf4 (by simp))
  clear ho4 hf4
  go_wp2_with (fail)
  go_ret
  exact ⟨_, rfl, HO4.out.mono hw23, HF4.out⟩
end
end Go.Proofs.YtjnapcfclejknaaGreatDoor
