/-
  Files: what is built is opened to what it was built of. The law's own helpers: bounded, cells. A row's cells lie in the parts that are near; a filter has all its names. The law's own helper: shown.
-/
import Derived.Test.YtjnapcfclejknaaGreatDoorTabN
namespace Go.Proofs.YtjnapcfclejknaaGreatDoor
section
open Go.RowKit

/-! texts with their sums, one behind the other -/
def recL (x : ByteArray) : List UInt8 := two x.size ++ (quad (crcN (bl (two x.size)) x) ++ x.data.toList)
theorem recB_bl (x : ByteArray) : recB x = bl (recL x) := by
  unfold recB recL
  conv => lhs; rw [← bl_data x]
  simp only [bl_data, bl_append]
  rw [show (x : ByteArray) = bl x.data.toList from (bl_data x).symm]
  simp only [bl_append, bl_toList, List.append_assoc, bl_size]
theorem recL_length (x : ByteArray) : (recL x).length = 6 + x.size := by
  unfold recL two quad
  simp only [List.length_append, List.length_cons, List.length_nil]
  show 0 + 1 + 1 + (0 + 1 + 1 + 1 + 1 + x.size) = _
  omega
theorem recP_ok {x : ByteArray} (h : x.size ≤ 65535) : recP x = recB x := by
  unfold recP putP
  rw [if_neg (by omega)]
theorem get_rec (x : ByteArray) (y : List UInt8) (h : x.size ≤ 65535) : getP (bl (recL x ++ y)) = (x, 6 + x.size, 0) := by
  obtain ⟨c, hc⟩ : ∃ c, crcN (bl (two x.size)) x = c := ⟨_, rfl⟩
  have hcl : c < 4294967296 := by rw [← hc]; exact crcN_lt _ _
  have hl : recL x ++ y = two x.size ++ (quad c ++ (x.data.toList ++ y)) := by unfold recL; rw [hc]; simp only [List.append_assoc]
  have hsz : (bl (recL x ++ y)).size = 6 + x.size + y.length := by rw [bl_size, List.length_append, recL_length]
  have hx : x.data.toList.length = x.size := rfl
  have a0 : atB (bl (recL x ++ y)) 0 = UInt8.ofNat x.size := by rw [bl_at, hl]; rfl
  have a1 : atB (bl (recL x ++ y)) 1 = UInt8.ofNat (x.size / 256) := by rw [bl_at, hl]; rfl
  have a2 : atB (bl (recL x ++ y)) 2 = UInt8.ofNat c := by rw [bl_at, hl]; rfl
  have a3 : atB (bl (recL x ++ y)) 3 = UInt8.ofNat (c / 256) := by rw [bl_at, hl]; rfl
  have a4 : atB (bl (recL x ++ y)) 4 = UInt8.ofNat (c / 65536) := by rw [bl_at, hl]; rfl
  have a5 : atB (bl (recL x ++ y)) 5 = UInt8.ofNat (c / 16777216) := by rw [bl_at, hl]; rfl
  have he : endN (bl (recL x ++ y)) = 6 + x.size := by
    unfold endN
    rw [a0, a1, UInt8.toNat_ofNat', UInt8.toNat_ofNat']
    omega
  have e1 : (bl (recL x ++ y)).extract 0 2 = bl (two x.size) := by
    rw [hl]; exact bl_pre _ _ _ rfl
  have e2 : (bl (recL x ++ y)).extract 6 (6 + x.size) = x := by
    rw [hl, ← List.append_assoc]
    rw [bl_mid (two x.size ++ quad c) x.data.toList y 6 (6 + x.size) rfl (by rw [hx]; rfl), bl_data]
  have hg := getP_ok (s := bl (recL x ++ y)) (by rw [hsz]; omega) (by rw [hsz]; omega) (by rw [he, hsz]; omega) (by
    rw [he, e1, e2, hc, a2, a3, a4, a5, quadN_quad c hcl])
  rw [hg, he, e2]
theorem texts_recs : ∀ (xs : List ByteArray) (P : List UInt8) (n : Nat), (∀ x ∈ xs, x.size ≤ 65535) → (xs.flatMap recL).length < n → (textsF n P.length (bl (P ++ xs.flatMap recL))).map (·.2) = xs
  | [], P, 0, _, h => absurd h (Nat.not_lt_zero _)
  | _ :: _, _, 0, _, h => absurd h (Nat.not_lt_zero _)
  | [], P, n + 1, _, _ => by
    have h0 : getP ((bl (P ++ [])).extract P.length (bl (P ++ [])).size) = (⟨#[]⟩, 0, 3) := by
      rw [bl_post P [] P.length rfl]
      exact getP_none rfl
    rw [List.flatMap_nil, textsF_no h0 (by decide)]
    rfl
  | x :: xs, P, n + 1, hs, hn => by
    have hx := hs x (by simp)
    have h0 : getP ((bl (P ++ (recL x ++ xs.flatMap recL))).extract P.length (bl (P ++ (recL x ++ xs.flatMap recL))).size) = (x, 6 + x.size, 0) := by
      rw [bl_post P _ P.length rfl]
      exact get_rec x _ hx
    rw [List.flatMap_cons] at hn ⊢
    rw [List.length_append, recL_length] at hn
    rw [textsF_yes h0, List.map_cons]
    have ih := texts_recs xs (P ++ recL x) n (fun y hy => hs y (List.mem_cons_of_mem _ hy)) (by omega)
    rw [List.length_append, recL_length, List.append_assoc] at ih
    rw [ih]
theorem textsP_recs (xs : List ByteArray) (h : ∀ x ∈ xs, x.size ≤ 65535) : (textsP (bl (xs.flatMap recL))).map (·.2) = xs := by
  have h1 := texts_recs xs [] ((bl (xs.flatMap recL)).size + 1) h (by rw [bl_size]; omega)
  exact h1

/-! the foot -/
theorem leN_le (n m : Nat) : ∀ k, k ≤ m → leN (bl (leL n m)) k = n % 256 ^ k
  | 0, _ => by rw [Nat.pow_zero, Nat.mod_one]; rfl
  | k + 1, h => by
    have ih := leN_le n m k (by omega)
    show leN (bl (leL n m)) k + (atB (bl (leL n m)) k).toNat * 256 ^ k = _
    have ha : (atB (bl (leL n m)) k).toNat = n / 256 ^ k % 256 := by
      rw [bl_at]
      unfold leL
      rw [List.getD_eq_getElem?_getD, List.getElem?_map, List.getElem?_range (by omega)]
      show (byteN n k).toNat = _
      unfold byteN
      rw [UInt8.toNat_ofNat']
    rw [ih, ha, Nat.mod_pow_succ, Nat.mul_comm]
theorem foot_back {f : Foot} (h1 : f.blocks < 4294967296) (h2 : f.index < 4294967296) (h3 : f.filter < 4294967296) (h4 : f.seq < 18446744073709551616) : footP f.text = f := by
  obtain ⟨b, i, t, q⟩ := f
  simp only at h1 h2 h3 h4
  have e : Foot.text ⟨b, i, t, q⟩ = bl (leL b 4 ++ (leL i 4 ++ (leL t 4 ++ leL q 8))) := by
    unfold Foot.text leB
    simp only [bl_append, List.append_assoc]
  unfold footP
  rw [e]
  have x1 : (bl (leL b 4 ++ (leL i 4 ++ (leL t 4 ++ leL q 8)))).extract 0 4 = bl (leL b 4) := bl_pre _ _ _ (leL_length b 4).symm
  have x2 : (bl (leL b 4 ++ (leL i 4 ++ (leL t 4 ++ leL q 8)))).extract 4 8 = bl (leL i 4) := bl_mid _ _ _ _ _ (by rw [leL_length]) (by rw [leL_length, leL_length])
  have x3 : (bl (leL b 4 ++ (leL i 4 ++ (leL t 4 ++ leL q 8)))).extract 8 12 = bl (leL t 4) := by
    rw [← List.append_assoc]
    exact bl_mid _ _ _ _ _ (by rw [List.length_append, leL_length, leL_length]) (by rw [List.length_append, leL_length, leL_length, leL_length])
  have x4 : (bl (leL b 4 ++ (leL i 4 ++ (leL t 4 ++ leL q 8)))).extract 12 20 = bl (leL q 8) := by
    have h := bl_post (leL b 4 ++ (leL i 4 ++ leL t 4)) (leL q 8) 12 (by simp only [List.length_append, leL_length])
    simp only [List.append_assoc] at h
    rw [show (bl (leL b 4 ++ (leL i 4 ++ (leL t 4 ++ leL q 8)))).size = 20 from by rw [bl_size]; simp only [List.length_append, leL_length]] at h
    exact h
  rw [x1, x2, x3, x4, leN_le b 4 4 (Nat.le_refl _), leN_le i 4 4 (Nat.le_refl _), leN_le t 4 4 (Nat.le_refl _), leN_le q 8 8 (Nat.le_refl _)]
  rw [Nat.mod_eq_of_lt (by simpa using h1), Nat.mod_eq_of_lt (by simpa using h2), Nat.mod_eq_of_lt (by simpa using h3), Nat.mod_eq_of_lt (by simpa using h4)]

/-! a file -/
structure GoodT (l : List Cel) : Prop where
  len : l.length ≤ 2000
  pos : 0 < l.length
  err : errK l (manyP l) = 0
  ris : risC l = true
theorem build_good {l : List Cel} (seq : Nat) (h : GoodT l) : buildT l seq = (fileB l seq, 0) := by
  have h1 := h.len
  have h2 := h.pos
  unfold buildT
  rw [if_neg (by omega), if_neg (by omega), if_neg (by simp [h.err]), if_neg (by simp [h.ris])]
theorem good_build {l : List Cel} {seq : Nat} (h : (buildT l seq).2 = 0) : GoodT l := by
  unfold buildT at h
  split at h
  · cases h
  · split at h
    · cases h
    · split at h
      · rename_i h3
        exact absurd h h3
      · split at h
        · cases h
        · rename_i h1 h2 h3 h4
          exact ⟨by omega, by omega, by simpa using h3, by simpa using h4⟩
def pieceB (l : List Cel) (k : Nat) : ByteArray := (buildP (pieceL l k)).1
theorem piece_size {l : List Cel} (h : errK l (manyP l) = 0) {k : Nat} (hk : k < manyP l) : (pieceB l k).size ≤ 2300 := by
  have h1 := build_ok (errK_all h k hk)
  unfold pieceB
  rw [h1.2.2.2, bl_size, List.length_cons]
  have h2 := body_len (pieceL l k) 0 [] h1.2.1
  have h3 := pieceL_len l k
  omega
def pieces (l : List Cel) : List ByteArray := (List.range (manyP l)).map (pieceB l)
theorem pieces_small {l : List Cel} (h : errK l (manyP l) = 0) : ∀ x ∈ pieces l, x.size ≤ 65535 := by
  intro x hx
  obtain ⟨k, hk, rfl⟩ := List.mem_map.1 hx
  have := piece_size h (List.mem_range.1 hk)
  omega
theorem blk_recs {l : List Cel} (h : errK l (manyP l) = 0) : blkL l (manyP l) = (pieces l).flatMap recL := by
  unfold blkL pieces
  rw [List.flatMap_map]
  have key : ∀ ks : List Nat, (∀ k ∈ ks, k < manyP l) → ks.flatMap (fun j => (recK l j).data.toList) = ks.flatMap (fun j => recL (pieceB l j)) := by
    intro ks
    induction ks with
    | nil => intro _; rfl
    | cons k ks ih =>
      intro hk
      rw [List.flatMap_cons, List.flatMap_cons, ih fun j hj => hk j (List.mem_cons_of_mem _ hj)]
      congr 1
      have hs := piece_size h (hk k (by simp))
      show (recP (pieceB l k)).data.toList = _
      rw [recP_ok (by omega), recB_bl, bl_toList]
  exact key _ fun k hk => List.mem_range.1 hk
theorem rows_len (l : List Cel) : (rowsP l).length ≤ l.length := rowsUpTo_length l l.length
theorem bloom_small {l : List Cel} (h : l.length ≤ 2000) : (bloomP (rowsP l)).size ≤ 2501 := by
  rw [bloomP_size]
  have := rows_len l
  unfold bloomN
  omega
theorem idx_small {l : List Cel} (h : l.length ≤ 2000) : (idxB l (manyP l)).size ≤ 1002 := by
  rw [idxB_size]
  unfold manyP
  omega
theorem foot_size (f : Foot) : f.text.size = 20 := by
  unfold Foot.text
  simp only [ByteArray.size_append, leB_size]
def fileL (l : List Cel) (seq : Nat) : List UInt8 := blkL l (manyP l) ++ (recL (idxB l (manyP l)) ++ (recL (bloomP (rowsP l)) ++ recL (footOf l seq).text))
theorem file_bl {l : List Cel} (seq : Nat) (h : l.length ≤ 2000) : fileB l seq = bl (fileL l seq) := by
  have h1 := idx_small h
  have h2 := bloom_small h
  have h3 := foot_size (footOf l seq)
  unfold fileB fBlocks fIndex fFilter fileL
  rw [recP_ok (by omega), recP_ok (by omega), recP_ok (by omega), recB_bl, recB_bl, recB_bl]
  simp only [bl_append, List.append_assoc]
theorem foot_of {l : List Cel} (seq : Nat) (h : l.length ≤ 2000) : footOf l seq = ⟨(blkL l (manyP l)).length, 6 + (idxB l (manyP l)).size, 6 + (bloomP (rowsP l)).size, seq⟩ := by
  have h1 := idx_small h
  have h2 := bloom_small h
  unfold footOf fIndex fFilter
  rw [recP_ok (by omega), recP_ok (by omega), recB_size, recB_size]
theorem file_length {l : List Cel} (seq : Nat) : (fileL l seq).length = (blkL l (manyP l)).length + (6 + (idxB l (manyP l)).size) + (6 + (bloomP (rowsP l)).size) + 26 := by
  unfold fileL
  simp only [List.length_append, recL_length, foot_size]
  omega
def openedP (l : List Cel) (seq : Nat) : FileP := ⟨l, footOf l seq, bloomP (rowsP l)⟩
theorem cells_of_pieces {l : List Cel} (hok : ∀ c ∈ l, CelOK c) (h : errK l (manyP l) = 0) : cellsUp (pieces l) (pieces l).length = l ∧ allUp (pieces l) (pieces l).length = true := by
  have hp : ∀ k, k < manyP l → parseP (pieceB l k) = some (pieceL l k) := fun k hk => parse_built (fun c hc => hok c (by
    unfold pieceL at hc
    exact List.mem_of_mem_drop (List.mem_of_mem_take hc))) (errK_all h k hk)
  constructor
  · unfold cellsUp
    rw [List.take_length]
    conv => rhs; rw [← flat_pieces l]
    unfold pieces piecesL
    rw [List.map_map]
    congr 1
    apply List.map_congr_left
    intro k hk
    simp only [Function.comp]
    rw [hp k (List.mem_range.1 hk)]
    rfl
  · unfold allUp
    rw [List.take_length, List.all_eq_true]
    intro x hx
    obtain ⟨k, hk, rfl⟩ := List.mem_map.1 hx
    rw [hp k (List.mem_range.1 hk)]
    rfl
theorem blk_len {l : List Cel} (h : GoodT l) : (blkL l (manyP l)).length ≤ 80006 * 250 := by
  have h1 := blkL_len l (manyP l)
  have h2 := h.len
  have h3 : manyP l ≤ 250 := by unfold manyP; omega
  exact Nat.le_trans h1 (Nat.mul_le_mul_left _ h3)
/-- a file that was built is opened to its cells -/
theorem open_built {l : List Cel} {seq : Nat} (hok : ∀ c ∈ l, CelOK c) (h : GoodT l) (hq : seq < 18446744073709551616) : openP (fileB l seq) = (some (openedP l seq), 0) := by
  have hl := h.len
  have hi := idx_small hl
  have hb := bloom_small hl
  have hbl := blk_len h
  have ht := foot_size (footOf l seq)
  have hfl := file_length (l := l) seq
  have hfo := foot_of seq hl
  have hsz : (fileB l seq).size = (blkL l (manyP l)).length + (6 + (idxB l (manyP l)).size) + (6 + (bloomP (rowsP l)).size) + 26 := by rw [file_bl seq hl, bl_size, hfl]
  obtain ⟨ft, hft⟩ : ∃ f, (footOf l seq).text = f := ⟨_, rfl⟩
  rw [hft] at ht
  have hlast : (fileB l seq).extract ((fileB l seq).size - 26) (fileB l seq).size = bl (recL ft) := by
    rw [file_bl seq hl]
    have e : fileL l seq = (blkL l (manyP l) ++ (recL (idxB l (manyP l)) ++ recL (bloomP (rowsP l)))) ++ recL ft := by unfold fileL; rw [hft]; simp only [List.append_assoc]
    rw [e]
    refine bl_post _ _ _ ?_
    rw [bl_size, List.length_append, recL_length, ht]
    omega
  have hget : getP ((fileB l seq).extract ((fileB l seq).size - 26) (fileB l seq).size) = (ft, 26, 0) := by
    rw [hlast]
    have := get_rec ft [] (by omega)
    rw [List.append_nil, ht] at this
    exact this
  have hfoot : footP ft = footOf l seq := by
    rw [← hft]
    exact foot_back (by rw [hfo]; show (blkL l (manyP l)).length < _; omega) (by rw [hfo]; show 6 + (idxB l (manyP l)).size < _; omega) (by rw [hfo]; show 6 + (bloomP (rowsP l)).size < _; omega) hq
  have hblk : (footOf l seq).blocks = (blkL l (manyP l)).length := rfl
  have hto : textsOf (fileB l seq) (footOf l seq).blocks = pieces l := by
    unfold textsOf
    rw [hblk, file_bl seq hl]
    have e : (bl (fileL l seq)).extract 0 (blkL l (manyP l)).length = bl (blkL l (manyP l)) := bl_pre _ _ _ rfl
    rw [e, blk_recs h.err]
    exact textsP_recs _ (pieces_small h.err)
  obtain ⟨hc1, hc2⟩ := cells_of_pieces hok h.err
  have hfil : (getP ((fileB l seq).extract ((footOf l seq).blocks + (footOf l seq).index) (fileB l seq).size)).1 = bloomP (rowsP l) := by
    rw [hfo]
    show (getP ((fileB l seq).extract ((blkL l (manyP l)).length + (6 + (idxB l (manyP l)).size)) (fileB l seq).size)).1 = _
    rw [file_bl seq hl]
    have e : fileL l seq = (blkL l (manyP l) ++ recL (idxB l (manyP l))) ++ (recL (bloomP (rowsP l)) ++ recL (footOf l seq).text) := by unfold fileL; simp only [List.append_assoc]
    rw [e, bl_post _ _ _ (by rw [List.length_append, recL_length]), get_rec _ _ (by omega)]
  have hof : openF (fileB l seq) (footOf l seq) = some (openedP l seq) := by
    unfold openF
    rw [if_neg (by rw [hfo, hsz]; show ¬ ((blkL l (manyP l)).length + (6 + (idxB l (manyP l)).size) + (6 + (bloomP (rowsP l)).size) ≠ _); omega)]
    rw [hto, hc2, if_neg (by decide), hc1, show (footOf l seq).seq = seq from rfl, if_pos (build_good _ h), hfil]
    rfl
  unfold openP
  rw [hget]
  simp only
  rw [if_neg (by simp; rw [hsz]; omega), if_neg (by simp [ht]), hfoot, hof]
  rfl
end

section
open Go.RowKit

def BoundB (l : List Cel) (e : Ending) : Prop := ∃ b, e = .returned (.bool b) ∧ (b = true → l.length ≤ 60)
set_option maxRecDepth 100000 in
set_option maxHeartbeats 4000000 in
theorem bounded5_any (w : World) (a : Option Addr) (len cap : Nat) (l : List Cel) (hl : CelsAt w a len l) (hn : len ≤ 9223372036854775807) :
    Calls Tryz.prog 5 #[.slice a len cap] w fun e w' => BoundB l e ∧ Fp [] w w' := by
  have HL := Lib.hid hl
  have HLEN := Lib.hid hl.len
  clear hl
  go_enter Tryz.func5, Tryz.ntmps5
  go_wp2_with (fail)
  go_loopg [3] len (fun g vi wr => ∃ k : Nat, g + k = len ∧ vi = .int .i64 k ∧ Fp [] w wr)
  case atStart => exact ⟨0, by omega, rfl, Fp.refl _ _⟩
  case round =>
    obtain ⟨k, hg, rfl, hf⟩ := hrel
    have HF := Lib.hid hf
    clear hf
    by_cases hk : k < len
    · have hkl : k < l.length := by rw [← HLEN.out]; exact hk
      have zk : (k : Int) < (len : Int) := by omega
      obtain ⟨b1, o1, rfl, hb1, hcells⟩ := cels_get HL.out hkl
      obtain ⟨c, hc⟩ : ∃ c, l[k] = c := ⟨_, rfl⟩
      rw [hc] at hcells
      obtain ⟨q0, q1, q2, q3, q4, q5⟩ := hcells wr HF.out
      clear hcells hc
      obtain ⟨row, col, ts, seq, del, val⟩ := c
      simp only at q0 q1 q2 q3 q4 q5
      by_cases h1 : row.size > 100
      · have y1 : (row.size : Int) > 100 := by omega
        go_wp2_with (fail)
        go_ret
        exact ⟨⟨_, rfl, fun h => by cases h⟩, HF.out⟩
      · have y1 : ¬ (row.size : Int) > 100 := by omega
        by_cases h2 : col.size > 100
        · have y2 : (col.size : Int) > 100 := by omega
          go_wp2_with (fail)
          go_ret
          exact ⟨⟨_, rfl, fun h => by cases h⟩, HF.out⟩
        · have y2 : ¬ (col.size : Int) > 100 := by omega
          by_cases h3 : val.size > 200
          · have y3 : (val.size : Int) > 200 := by omega
            go_wp2_with (fail)
            go_ret
            exact ⟨⟨_, rfl, fun h => by cases h⟩, HF.out⟩
          · have y3 : ¬ (val.size : Int) > 200 := by omega
            go_wp2_with (fail)
            go_roundg (gk - 1)
            case measure => omega
            case rel => exact ⟨k + 1, by omega, by go_num, HF.out⟩
    · obtain rfl : k = len := by omega
      have zk : ¬ (k : Int) < (k : Int) := by omega
      go_wp2_with (fail)
      go_ret
      refine ⟨⟨_, rfl, fun h => ?_⟩, HF.out⟩
      have := of_decide_eq_true h
      have := HLEN.out
      omega

/-! the nine cells -/
def cellT (k : Nat) : Cel := ⟨bl [UInt8.ofNat (97 + k / 3)], ⟨#[99]⟩, 100 - k, 1, false, ⟨#[]⟩⟩
def shT (n : Nat) : List Cel := (List.range n).map cellT
theorem shT_succ (n : Nat) : shT (n + 1) = shT n ++ [cellT n] := by unfold shT; rw [List.range_succ, List.map_append]; rfl
theorem cellT_ok (k : Nat) : CelOK (cellT k) := ⟨by show 100 - k < _; omega, by show 1 < _; decide, by show (bl [_]).size ≤ _; rw [bl_size]; show 1 ≤ _; decide, by show 1 ≤ _; decide, by show 0 ≤ _; decide⟩
theorem shT_ok (n : Nat) : ∀ c ∈ shT n, CelOK c := by
  intro c hc
  obtain ⟨k, _, rfl⟩ := List.mem_map.1 hc
  exact cellT_ok k
set_option maxRecDepth 100000 in
set_option maxHeartbeats 4000000 in
theorem cells5_any (w : World) : Calls Tryz.prog 13 #[.int .i64 9] w fun e w' => ∃ v, e = .returned v ∧ OwnC w' w.heap.size v (shT 9) ∧ Fp [] w w' := by
  go_enter Tryz.func13, Tryz.ntmps13
  go_wp2_with (fail)
  go_loopg [3, 4] 9 (fun g vl vi wr => ∃ (k : Nat) (v : Value), g + k = 9 ∧ v = vl ∧ vi = .int .i64 k ∧ OwnC wr w.heap.size v (shT k) ∧ Fp [] w wr)
  case atStart => exact ⟨0, _, by omega, rfl, rfl, OwnC.made w _ (Nat.le_refl _), Fp.alloc _ _⟩
  case round =>
    obtain ⟨k, v, hg, rfl, rfl, ho, hf⟩ := hrel
    have HO := Lib.hid ho
    have HF := Lib.hid hf
    clear ho hf
    by_cases hk : k < 9
    · have zk : (k : Int) < 9 := by omega
      have HS := Lib.hid (shT_succ k)
      obtain ⟨q, hq⟩ : ∃ q, k / 3 = q := ⟨_, rfl⟩
      have e1 : (k : Int) / 3 = (q : Int) := by omega
      have w1 : IntKind.i64.wrap (q : Int) = (q : Int) := by rw [IntKind.wrap_i64]; omega
      have w2 : IntKind.u8.wrap (q : Int) = (q : Int) := by rw [IntKind.wrap_u8]; omega
      obtain ⟨r, hr⟩ : ∃ r, 97 + q = r := ⟨_, rfl⟩
      have w3 : IntKind.u8.wrap (97 + (q : Int)) = (r : Int) := by rw [IntKind.wrap_u8]; omega
      obtain ⟨t, ht⟩ : ∃ t, 100 - k = t := ⟨_, rfl⟩
      have w4 : IntKind.i64.wrap (100 - (k : Int)) = (t : Int) := by rw [IntKind.wrap_i64]; omega
      have w5 : IntKind.u64.wrap (t : Int) = (t : Int) := by rw [IntKind.wrap_u64]; omega
      have hcell : cellT k = ⟨bl [UInt8.ofNat r], ⟨#[99]⟩, t, 1, false, ⟨#[]⟩⟩ := by unfold cellT; rw [hq, hr, ht]
      rw [hcell] at HS
      have hcok := cellT_ok k
      rw [hcell] at hcok
      have HCO := Lib.hid hcok
      have hcv := conv1 (w := wr.alloc (.cells #[.int .u8 r] 5)) (g := wr.heap.size) (n := r) (heap_alloc_at rfl _) (by omega)
      obtain ⟨rs, hrs⟩ : ∃ x, bl [UInt8.ofNat r] = x := ⟨_, rfl⟩
      rw [hrs] at hcv HS HCO
      have hlen : (shT k).length = k := by simp [shT]
      have hbw : w.heap.size ≤ wr.heap.size := HF.out.size
      clear hq hr ht hcell hcok hrs
      go_wp2_with (at_builtin; (refine wpList_append_cels rfl _ _ rfl w.heap.size _ (shT k) rfl ((HO.out.fp (Fp.alloc _ _) (by simp)).fp (Fp.alloc _ _) (by simp)) _ _ _ [⟨rs, ⟨#[99]⟩, t, 1, false, ⟨#[]⟩⟩] rfl (CelIn.one (heap_alloc_at (by simp) _) HCO.out) (by intro h; cases h) (by rw [hlen]; simp only [List.length_cons, List.length_nil]; omega) (by simp; omega) ?_); intro v2 w2 ho2 hb2; have HO2 := Lib.hid ho2; have HB2 := Lib.hid hb2; clear ho2 hb2)
      go_roundg (gk - 1)
      case measure => omega
      case rel => exact ⟨k + 1, _, by omega, rfl, by go_num, by rw [HS.out]; exact HO2.out, ((HF.out.alloc' _).alloc' _).belowTrans HB2.out⟩
    · obtain rfl : k = 9 := by omega
      go_wp2_with (fail)
      go_ret
      exact ⟨_, rfl, HO.out, HF.out⟩
theorem shT_good : GoodT (shT 9) := ⟨by decide, by decide, by decide +kernel, by decide +kernel⟩
end

section
open Go.RowKit

/-! the filter has all its names -/
def bitL (d : List UInt8) (i : Nat) : Bool := (d.getD (i / 8) 0).toNat.testBit (i % 8)
theorem bitAt_bitL (d : List UInt8) (i : Nat) : bitAt (bl d) i = bitL d i := by
  unfold bitAt bitL
  rw [bl_at, Nat.testBit_eq_decide_div_mod_eq]
theorem bit_set {d : List UInt8} {i : Nat} (j : Nat) (h : i < 8 * d.length) : bitL (setBit d i) j = (bitL d j || decide (i = j)) := by
  unfold bitL setBit
  rw [List.getD_eq_getElem?_getD, List.getElem?_set]
  by_cases e : i / 8 = j / 8
  · rw [if_pos e, if_pos (by omega)]
    show (orB (d.getD (i / 8) 0) (i % 8)).toNat.testBit (j % 8) = _
    rw [orB_toNat _ (Nat.mod_lt _ (by decide)), Nat.testBit_or, Nat.testBit_two_pow, e]
    congr 1
    apply decide_eq_decide.2
    omega
  · rw [if_neg e, decide_eq_false (by intro h; subst h; exact e rfl), Bool.or_false, List.getD_eq_getElem?_getD]
theorem setPlaces_keep (s : ByteArray) (d : List UInt8) (hd : 0 < d.length) (j : Nat) (h : bitL d j = true) : ∀ k, bitL (setPlaces s d k) j = true
  | 0 => h
  | k + 1 => by
    rw [setPlaces_succ, bit_set j (placeN_lt _ _ (by rw [setPlaces_length]; omega)), setPlaces_keep s d hd j h k]
    rfl
theorem setPlaces_has (s : ByteArray) (d : List UInt8) (hd : 0 < d.length) : ∀ k i, i < k → bitL (setPlaces s d k) (placeN s (8 * d.length) i) = true
  | 0, i, h => absurd h (Nat.not_lt_zero _)
  | k + 1, i, h => by
    rw [setPlaces_succ, bit_set _ (placeN_lt _ _ (by rw [setPlaces_length]; omega)), setPlaces_length]
    by_cases e : i = k
    · subst e; rw [decide_eq_true rfl, Bool.or_true]
    · rw [setPlaces_has s d hd k i (by omega)]; rfl
theorem fold_keep (names : List ByteArray) (j : Nat) : ∀ d : List UInt8, 0 < d.length → bitL d j = true → bitL (names.foldl (fun d s => setPlaces s d 4) d) j = true := by
  induction names with
  | nil => intro d _ h; exact h
  | cons s l ih =>
    intro d hd h
    rw [List.foldl_cons]
    exact ih _ (by rw [setPlaces_length]; exact hd) (setPlaces_keep s d hd j h 4)
theorem fold_has (names : List ByteArray) (s : ByteArray) (i : Nat) (hi : i < 4) : ∀ d : List UInt8, 0 < d.length → s ∈ names → bitL (names.foldl (fun d s => setPlaces s d 4) d) (placeN s (8 * d.length) i) = true := by
  induction names with
  | nil => intro d _ h; cases h
  | cons t l ih =>
    intro d hd h
    rw [List.foldl_cons]
    rcases List.mem_cons.1 h with rfl | h
    · exact fold_keep l _ _ (by rw [setPlaces_length]; exact hd) (setPlaces_has s d hd 4 i hi)
    · have := ih (setPlaces t d 4) (by rw [setPlaces_length]; exact hd) h
      rw [setPlaces_length] at this
      exact this
theorem bloom_has {names : List ByteArray} {s : ByteArray} (h : s ∈ names) : mayP (bloomP names) s = true := by
  unfold mayP
  rw [Bool.or_eq_true]
  right
  rw [List.all_eq_true]
  intro k hk
  have hk4 := List.mem_range.1 hk
  rw [bloomP_size]
  have hn : 0 < bloomN names.length := by unfold bloomN; omega
  unfold bloomP
  rw [bitAt_bitL]
  have h2 := fold_has names s k hk4 (List.replicate (bloomN names.length) 0) (by rw [List.length_replicate]; exact hn) h
  rw [List.length_replicate] at h2
  unfold bloomL
  rw [List.take_length]
  exact h2

/-! rows of a rising list -/
theorem cmp_row {a b : Cel} (h : cmpC a b < 0) : cmpS a.row b.row ≤ 0 := by
  unfold cmpC firstN at h
  split at h
  · omega
  · rename_i h1
    have : cmpS a.row b.row = 0 := by simpa using h1
    omega
theorem ris_step {l : List Cel} (h : risC l = true) {k : Nat} (hk : k + 1 < l.length) : cmpC (l.getD k zeroC) (l.getD (k + 1) zeroC) < 0 := by
  have h1 : (List.range l.length).any (badAt l) = false := by unfold risC at h; simpa using h
  rw [List.any_eq_false] at h1
  have h2 := h1 (k + 1) (List.mem_range.2 hk)
  unfold badAt at h2
  rw [Nat.add_sub_cancel, decide_eq_true (Nat.succ_pos k), Bool.true_and] at h2
  simpa using h2
def rowAt (l : List Cel) (k : Nat) : ByteArray := (l.getD k zeroC).row
theorem rows_rise {l : List Cel} (h : risC l = true) : ∀ (j i : Nat), i ≤ j → j < l.length → cmpS (rowAt l i) (rowAt l j) ≤ 0
  | 0, i, hi, _ => by
    obtain rfl : i = 0 := by omega
    unfold cmpS; rw [cb_refl]; exact Int.le_refl _
  | j + 1, i, hi, hj => by
    by_cases e : i = j + 1
    · subst e; unfold cmpS; rw [cb_refl]; exact Int.le_refl _
    · have h1 := rows_rise h j i (by omega) (by omega)
      have h2 := cmp_row (ris_step h hj)
      exact cb_trans h1 h2
theorem leS_of {a b : ByteArray} (h : cmpS a b ≤ 0) : leS a b = true := by
  unfold leS
  rw [less_cb, ByteArray.toList_eq, ByteArray.toList_eq]
  unfold cmpS at h
  rcases cb_range a.data.toList b.data.toList with e | e | e
  · rw [decide_eq_true e]; rfl
  · rw [cb_eq e]; simp
  · omega
theorem geS_of {a b : ByteArray} (h : cmpS b a ≤ 0) : geS a b = true := by
  unfold geS
  rw [less_cb, ByteArray.toList_eq, ByteArray.toList_eq]
  unfold cmpS at h
  rw [cb_neg] at h
  rw [decide_eq_false (by omega)]
  rfl
theorem piece_get {l : List Cel} {k i : Nat} (hi : i < (pieceL l k).length) : (pieceL l k).getD i zeroC = l.getD (8 * k + i) zeroC := by
  have h := pieceL_len l k
  unfold pieceL
  rw [List.getD_eq_getElem?_getD, List.getD_eq_getElem?_getD, List.getElem?_take, if_pos (by omega), List.getElem?_drop]
theorem near_of {l : List Cel} (h : risC l = true) {k : Nat} {c : Cel} (hc : c ∈ pieceL l k) : nearK l c.row k = true := by
  obtain ⟨i, hi, rfl⟩ := List.getElem_of_mem hc
  have hlen := pieceL_len l k
  have hci : ((pieceL l k)[i]).row = rowAt l (8 * k + i) := by
    unfold rowAt
    rw [← piece_get hi, List.getD_eq_getElem?_getD, List.getElem?_eq_getElem hi]
    rfl
  have hf : firstR (pieceL l k) = rowAt l (8 * k) := by
    unfold firstR rowAt
    rw [piece_get (by omega)]
    rfl
  have hla : lastR (pieceL l k) = rowAt l (8 * k + ((pieceL l k).length - 1)) := by
    unfold lastR rowAt
    rw [piece_get (by omega)]
  unfold nearK
  rw [hci, hf, hla, leS_of (rows_rise h _ _ (by omega) (by omega)), geS_of (rows_rise h _ _ (by omega) (by omega))]
  rfl
theorem rowL_append (a b : List Cel) (row : ByteArray) : rowL (a ++ b) row = rowL a row ++ rowL b row := List.filter_append ..
theorem rowL_far {l : List Cel} (h : risC l = true) {k : Nat} {row : ByteArray} (hn : nearK l row k = false) : rowL (pieceL l k) row = [] := by
  unfold rowL
  rw [List.filter_eq_nil_iff]
  intro c hc e
  have := of_decide_eq_true e
  subst this
  rw [near_of h hc] at hn
  cases hn
theorem rowL_near {l : List Cel} (h : risC l = true) (row : ByteArray) : ∀ k, rowL ((nearUp l row k).map (pieceL l)).flatten row = rowL ((List.range k).map (pieceL l)).flatten row
  | 0 => rfl
  | k + 1 => by
    have ih := rowL_near h row k
    rw [nearUp_succ, List.range_succ, List.map_append, List.flatten_append, List.map_append, List.flatten_append, rowL_append, rowL_append, ih]
    congr 1
    cases hn : nearK l row k
    · rw [if_neg (by decide)]
      simp only [List.map_nil, List.flatten_nil, List.map_cons, List.flatten_cons, List.append_nil]
      rw [rowL_far h hn]
      rfl
    · rw [if_pos rfl]
/-- each cell's row is among the rows -/
theorem rows_has {l : List Cel} : ∀ (m : Nat), m ≤ l.length → ∀ i, i < m → rowAt l i ∈ rowsUpTo l m
  | 0, _, i, h => absurd h (Nat.not_lt_zero _)
  | m + 1, hm, i, h => by
    rw [rowsUpTo_succ]
    by_cases e : i = m
    · subst e
      cases hk : rowKeep l i
      · have h0 : i ≠ 0 ∧ rowAt l i = rowAt l (i - 1) := by
          unfold rowKeep at hk
          have := of_decide_eq_false hk
          simp only [not_or, Classical.not_not] at this
          exact this
        rw [h0.2]
        exact List.mem_append_left _ (rows_has i (by omega) (i - 1) (by omega))
      · rw [if_pos rfl]
        exact List.mem_append_right _ (by simp [rowAt])
    · exact List.mem_append_left _ (rows_has m (by omega) i (by omega))
theorem rows_all {l : List Cel} {c : Cel} (h : c ∈ l) : c.row ∈ rowsP l := by
  obtain ⟨i, hi, rfl⟩ := List.getElem_of_mem h
  have := rows_has l.length (Nat.le_refl _) i hi
  unfold rowAt at this
  rw [List.getD_eq_getElem?_getD, List.getElem?_eq_getElem hi] at this
  exact this
/-- what a file says of a row: its cells -/
theorem row_file {l : List Cel} (h : risC l = true) (row : ByteArray) : rowL (nearL l (bloomP (rowsP l)) row) row = rowL l row := by
  unfold nearL nearI
  cases hm : mayP (bloomP (rowsP l)) row
  · rw [if_neg (by decide)]
    symm
    show rowL l row = []
    unfold rowL
    rw [List.filter_eq_nil_iff]
    intro c hc e
    have := of_decide_eq_true e
    subst this
    rw [bloom_has (rows_all hc)] at hm
    cases hm
  · rw [if_pos rfl, rowL_near h row (manyP l)]
    have := flat_pieces l
    unfold piecesL at this
    rw [this]
end

section
open Go.RowKit

theorem file_size {l : List Cel} (seq : Nat) (h : GoodT l) : (fileB l seq).size ≤ 100000000 := by
  have h1 := blk_len h
  have h2 := idx_small h.len
  have h3 := bloom_small h.len
  rw [file_bl seq h.len, bl_size, file_length]
  omega
/-- a built file, opened: what Open says -/
theorem open_any {l : List Cel} {seq : Nat} (w : World) (hok : ∀ c ∈ l, CelOK c) (h : GoodT l) (hq : seq < 18446744073709551616) (hm : MaxAt w) (ht : TabAt w) :
    Calls Tryz.prog 9 #[.string (fileB l seq)] w fun e w' => (∃ bt, e = .returned (.tuple #[.pointer (some ⟨bt, 0, none⟩), .int .i64 0]) ∧ FileAt w' bt (openedP l seq)) ∧ Fp [] w w' := by
  have h2 := topen_any w (fileB l seq) (file_size seq h) hm ht
  rw [open_built hok h hq] at h2
  refine h2.mono ?_
  rintro e w' ⟨v, rfl, ⟨bt, rfl, hfa⟩, hf⟩
  exact ⟨⟨bt, rfl, hfa⟩, hf⟩
theorem tbuild_good {l : List Cel} {seq : Nat} (w : World) (a : Option Addr) (len cap : Nat) (hl : CelsAt w a len l) (hlc : len ≤ cap) (h : GoodT l) (hq : seq < 18446744073709551616) (hm : MaxAt w) (ht : TabAt w) :
    Calls Tryz.prog 7 #[.slice a len cap, .int .u64 seq] w fun e w' => e = .returned (.tuple #[.string (fileB l seq), .int .i64 0]) ∧ Fp [] w w' := by
  have h1 := h.len
  have h2 := tbuild_any w a len cap l seq hl hlc (by have := hl.len; omega) hq hm ht
  rw [build_good seq h] at h2
  exact h2
theorem OwnC.at3 {w : World} {base : Nat} {v : Value} {l : List Cel} (h : OwnC w base v l) (hok : ∀ c ∈ l, CelOK c) : ∃ a cap, v = .slice a l.length cap ∧ l.length ≤ cap ∧ CelsAt w a l.length l := by
  obtain ⟨a, cap, e, hc⟩ := h.at hok
  refine ⟨a, cap, e, ?_, hc⟩
  by_cases h0 : l.length = 0
  · omega
  · obtain ⟨g, c2, cur, e0, _, _, hn, _⟩ := OwnC.open h (by omega)
    rw [e] at e0
    injection e0 with _ _ e3
    omega
theorem seenL_length (l : List Cel) (q : Nat) : (seenL l q).length = l.length := by
  unfold seenL
  split
  · rfl
  · exact List.length_map _
theorem seenL_ok {l : List Cel} {q : Nat} (hq : q < 18446744073709551616) (h : ∀ c ∈ l, CelOK c) : ∀ c ∈ seenL l q, CelOK c := by
  unfold seenL
  split
  · exact h
  · intro c hc
    obtain ⟨d, hd, rfl⟩ := List.mem_map.1 hc
    have h0 := h d hd
    exact ⟨h0.ts, hq, h0.row, h0.col, h0.val⟩
theorem row_good {l : List Cel} (h : GoodT l) (row : ByteArray) (q : Nat) : rowT l (bloomP (rowsP l)) row q = seenL (rowL l row) q := by
  unfold rowT
  rw [row_file h.ris]

set_option maxRecDepth 100000 in
set_option maxHeartbeats 8000000 in
theorem shown5_any (w : World) (hm : MaxAt w) (ht : TabAt w) : Calls Tryz.prog 6 #[] w fun e w' => e = .returned (.bool true) ∧ Fp [] w w' := by
  have HM := Lib.hid hm
  have HT := Lib.hid ht
  have HOK := Lib.hid (shT_ok 9)
  have HG := Lib.hid shT_good
  have hl9 : (shT 9).length = 9 := by simp [shT]
  have HL9 := Lib.hid hl9
  have hs8 : ((seenL (shT 9) 7).getD 8 zeroC).seq = 7 := rfl
  have hrow : (rowL (shT 9) ⟨#[98]⟩).length = 3 := by decide +kernel
  have HRW : Hid ((rowT (shT 9) (bloomP (rowsP (shT 9))) ⟨#[98]⟩ 7).length = 3) := by unfold Hid; rw [row_good shT_good, seenL_length]; exact hrow
  have HS8 := Lib.hid hs8
  have hbs := bloom_small (l := shT 9) (by rw [hl9]; decide)
  have HBS := Lib.hid hbs
  have HCE := Lib.hid (cells5_any w)
  obtain ⟨l, hl⟩ : ∃ l, shT 9 = l := ⟨_, rfl⟩
  rw [hl] at HOK HG HL9 HRW HS8 HCE HBS
  clear hm ht hl9 hs8 hrow hl hbs
  go_enter Tryz.func6, Tryz.ntmps6
  go_wp2_with (fail)
  (with_reducible refine HCE.out.mono ?_)
  rintro e w1 ⟨v1, rfl, ho1, hf1⟩
  obtain ⟨a1, c1, rfl, hlc1, hat1⟩ := ho1.at3 HOK.out
  rw [HL9.out] at hlc1 hat1 ⊢
  have HF1 := Lib.hid hf1
  have HB : Hid (Calls Tryz.prog 7 #[.slice a1 9 c1, .int .u64 7] w1 fun e w' => e = .returned (.tuple #[.string (fileB l 7), .int .i64 0]) ∧ Fp [] w1 w') := tbuild_good (seq := 7) w1 a1 9 c1 hat1 hlc1 HG.out (by decide) (HM.out.fp hf1 (by simp)) (HT.out.fp hf1 (by simp))
  have HOP := Lib.hid (fun w hm ht => open_any (l := l) (seq := 7) w HOK.out HG.out (by decide) hm ht)
  obtain ⟨fb, hfb⟩ : ∃ f, fileB l 7 = f := ⟨_, rfl⟩
  rw [hfb] at HB HOP
  clear ho1 hf1 hat1 hlc1 hfb
  go_wp2_with (fail)
  (with_reducible refine HB.out.mono ?_)
  rintro e w2 ⟨rfl, hf2⟩
  have HF2 := Lib.hid (HF1.out.trans hf2 (by simp))
  clear hf2
  go_wp2_with (fail)
  (with_reducible refine (HOP.out _ (HM.out.fp HF2.out (by simp)) (HT.out.fp HF2.out (by simp))).mono ?_)
  rintro e w3 ⟨⟨bt, rfl, hfa3⟩, hf3⟩
  have HF3 := Lib.hid (HF2.out.trans hf3 (by simp))
  have HFA := Lib.hid hfa3
  clear hf3 hfa3
  have HTC := Lib.hid (tcells_any w3 bt (openedP l 7) HFA.out (by show l.length ≤ _; rw [HL9.out]; decide) (by show 7 < _; decide))
  rw [show (openedP l 7).l = l from rfl, show (openedP l 7).f.seq = 7 from rfl] at HTC
  go_wp2_with (fail)
  (with_reducible refine HTC.out.mono ?_)
  rintro e w4 ⟨v4, rfl, ho4, hf4⟩
  have hsl : (seenL l 7).length = 9 := by rw [seenL_length, HL9.out]
  obtain ⟨a4, c4, rfl, hlc4, hat4⟩ := ho4.at3 (seenL_ok (by decide) HOK.out)
  rw [hsl] at hlc4 hat4 ⊢
  obtain ⟨b4, o4, rfl, hb4, hc4⟩ := cels_get (k := 8) hat4 (by rw [hsl]; decide)
  have p3 := (hc4 w4 (Fp.refl _ _)).c3
  have hs8 : (seenL l 7)[8].seq = 7 := by
    have := HS8.out
    rw [List.getD_eq_getElem?_getD, List.getElem?_eq_getElem (by rw [hsl]; decide)] at this
    exact this
  rw [hs8] at p3
  have HF4 := Lib.hid (HF3.out.trans hf4 (by simp))
  have HFA4 := Lib.hid (HFA.out.fp hf4)
  clear ho4 hf4 hsl hlc4 hat4 hc4 hs8 HTC
  have HBL : Hid (Calls Tryz.prog 15 #[.pointer (some ⟨bt, 0, none⟩)] w4 fun e w' => e = .returned (.int .i64 2) ∧ Fp [] w4 w') := by
    have h := tblocks_any w4 bt (openedP l 7) HFA4.out
    rw [show manyP (openedP l 7).l = 2 from by show (l.length + 7) / 8 = 2; rw [HL9.out]] at h
    exact h
  go_wp2_with (fail)
  (with_reducible refine HBL.out.mono ?_)
  rintro e w5 ⟨rfl, hf5⟩
  have HF5 := Lib.hid (HF4.out.trans hf5 (by simp))
  have HFA5 := Lib.hid (HFA4.out.fp hf5)
  clear hf5 HBL
  have HMN : Hid (Calls Tryz.prog 16 #[.pointer (some ⟨bt, 0, none⟩)] w5 fun e w' => e = .returned (.int .i64 9) ∧ Fp [] w5 w') := by
    have h := tmany_any w5 bt (openedP l 7) HFA5.out (by show l.length ≤ _; rw [HL9.out]; decide)
    rw [show (openedP l 7).l.length = 9 from HL9.out] at h
    exact h
  go_wp2_with (fail)
  (with_reducible refine HMN.out.mono ?_)
  rintro e w6 ⟨rfl, hf6⟩
  have HF6 := Lib.hid (HF5.out.trans hf6 (by simp))
  have HFA6 := Lib.hid (HFA5.out.fp hf6)
  clear hf6 HMN
  obtain ⟨pv, bb, oo, h1, -, -⟩ := HFA6.out.ex
  have HSQ : Hid (∀ w, Calls Tryz.prog 17 #[.agg #[.int .i64 (openedP l 7).f.blocks, .int .i64 (openedP l 7).f.index, .int .i64 (openedP l 7).f.filter, .int .u64 (openedP l 7).f.seq]] w fun e w' => e = .returned (.int .u64 7) ∧ Fp [] w w') := fun w => fseq_any w (openedP l 7).f
  have q0 : w6.cell? ⟨bt, 0, none⟩ = some (.int .i64 (openedP l 7).f.blocks) := cell_of_block h1 0
  have q1 : w6.cell? ⟨bt, 1, none⟩ = some (.int .i64 (openedP l 7).f.index) := cell_of_block h1 1
  have q2 : w6.cell? ⟨bt, 2, none⟩ = some (.int .i64 (openedP l 7).f.filter) := cell_of_block h1 2
  have q3 : w6.cell? ⟨bt, 3, none⟩ = some (.int .u64 (openedP l 7).f.seq) := cell_of_block h1 3
  obtain ⟨y0, hy0⟩ : ∃ y, (openedP l 7).f.blocks = y := ⟨_, rfl⟩
  obtain ⟨y1, hy1⟩ : ∃ y, (openedP l 7).f.index = y := ⟨_, rfl⟩
  obtain ⟨y2, hy2⟩ : ∃ y, (openedP l 7).f.filter = y := ⟨_, rfl⟩
  obtain ⟨y3, hy3⟩ : ∃ y, (openedP l 7).f.seq = y := ⟨_, rfl⟩
  rw [hy0, hy1, hy2, hy3] at HSQ
  rw [hy0] at q0
  rw [hy1] at q1
  rw [hy2] at q2
  rw [hy3] at q3
  clear h1 hy0 hy1 hy2 hy3
  go_wp2_with (fail)
  (with_reducible refine (HSQ.out _).mono ?_)
  rintro e w7 ⟨rfl, hf7⟩
  have HF7 := Lib.hid (HF6.out.trans hf7 (by simp))
  have HFA7 := Lib.hid (HFA6.out.fp hf7)
  clear hf7 q0 q1 q2 q3 HSQ
  have HRO : Hid (Calls Tryz.prog 18 #[.pointer (some ⟨bt, 0, none⟩), .string ⟨#[98]⟩] w7 fun e w' => ∃ v', e = .returned v' ∧ OwnC w' w7.heap.size v' (rowT l (bloomP (rowsP l)) ⟨#[98]⟩ 7) ∧ Fp [] w7 w') :=
    trow_any w7 bt (openedP l 7) ⟨#[98]⟩ HFA7.out (by show l.length ≤ _; rw [HL9.out]; decide) (by show 7 < _; decide) (by show (bloomP (rowsP l)).size ≤ _; have := HBS.out; omega) (by show 1 ≤ _; decide) (HT.out.fp HF7.out (by simp))
  go_wp2_with (fail)
  (with_reducible refine HRO.out.mono ?_)
  rintro e w8 ⟨v8, rfl, ho8, hf8⟩
  obtain ⟨a8, c8, rfl⟩ := ho8.len
  rw [HRW.out]
  have HF8 := Lib.hid (HF7.out.trans hf8 (by simp))
  clear ho8 hf8 HRO
  go_wp2_with (fail)
  go_ret
  exact ⟨rfl, HF8.out⟩
end
end Go.Proofs.YtjnapcfclejknaaGreatDoor
