/-
  Which file any bytes are: the document's definition says the same as the program's.
-/
import Derived.Test.YtjnapcfclejknaaGreatDoorTabRef
namespace Go.Proofs.YtjnapcfclejknaaGreatDoor
open Go.RowKit Go.Lib

/-! the ends of texts -/
def sumT (l : List ByteArray) : Nat := (l.map fun t => 6 + t.size).sum
theorem sumT_cons (t : ByteArray) (l : List ByteArray) : sumT (t :: l) = (6 + t.size) + sumT l := by unfold sumT; rw [List.map_cons, List.sum_cons]
def endAt (l : List (Nat × ByteArray)) (d : Nat) : Nat := (l.getLast?.map (·.1)).getD d
theorem endAt_cons (x : Nat × ByteArray) (l : List (Nat × ByteArray)) (d : Nat) : endAt (x :: l) d = endAt l x.1 := by
  unfold endAt
  cases l with
  | nil => rfl
  | cons y r => rw [List.getLast?_cons_cons, List.getLast?_eq_some_getLast (by simp : y :: r ≠ [])]; rfl
theorem texts_end (s : ByteArray) : ∀ (n at_ : Nat), at_ ≤ s.size → endAt (textsF n at_ s) at_ = at_ + sumT ((textsF n at_ s).map (·.2))
  | 0, at_, _ => by unfold textsF; unfold endAt sumT; rfl
  | n + 1, at_, h => by
    obtain ⟨⟨t, k, e⟩, ht⟩ : ∃ x, getP (s.extract at_ s.size) = x := ⟨_, rfl⟩
    by_cases he : e = 0
    · subst he
      obtain ⟨h1, h2, h3, _⟩ := get_bound ht
      have hts : t.size = k - 6 := by
        rw [h3, ByteArray.size_extract, ByteArray.size_extract]
        omega
      rw [textsF_yes ht, endAt_cons, texts_end s n (at_ + k) h2, List.map_cons, sumT_cons]
      show at_ + k + _ = at_ + (6 + t.size + _)
      omega
    · rw [textsF_no ht he]
      unfold endAt sumT
      rfl
theorem sumT_recs (l : List ByteArray) : sumT l = (l.flatMap recL).length := by
  induction l with
  | nil => rfl
  | cons t r ih => rw [sumT_cons, ih, List.flatMap_cons, List.length_append, recL_length]

theorem sumT_map (l : List (Nat × ByteArray)) : sumT (l.map (·.2)) = (l.map fun x => x.2.size + 6).sum := by
  induction l with
  | nil => rfl
  | cons x r ih => rw [List.map_cons, sumT_cons, ih, List.map_cons, List.sum_cons, Nat.add_comm 6]
theorem textsN_end (s : ByteArray) (n : Nat) : endAt (textsF n 0 s) 0 ≤ s.size := by
  rw [texts_end s n 0 (Nat.zero_le _), sumT_map]
  have h3 := textsF_sum n 0 s (Nat.zero_le _)
  omega
theorem textsP_end (s : ByteArray) : endOf (textsP s) ≤ s.size := textsN_end s (s.size + 1)

/-! an opened file -/
theorem build_file {l : List Cel} {q : Nat} {s : ByteArray} (h : buildT l q = (s, 0)) : GoodT l ∧ s = fileB l q := by
  have g : GoodT l := good_build (seq := q) (by rw [h])
  have := build_good q g
  rw [h] at this
  exact ⟨g, congrArg Prod.fst this⟩
/-- the foot that a text ends by -/
def tailOf (s : ByteArray) : ByteArray := (getP (s.extract (s.size - 26) s.size)).1
def footE (s : ByteArray) : Foot := footP (tailOf s)
def cellsE (s : ByteArray) : List Cel := cellsUp (textsOf s (footE s).blocks) (textsOf s (footE s).blocks).length
theorem cellsE_ok (s : ByteArray) : ∀ c ∈ cellsE s, CelOK c := cellsUp_ok (textsOf_small s _) _
theorem footE_seq (s : ByteArray) : (footE s).seq < 18446744073709551616 := leN_lt _ 8
theorem openF_built {s : ByteArray} (hb : buildT (cellsE s) (footE s).seq = (s, 0)) : openP s = (some (openedP (cellsE s) (footE s).seq), 0) := by
  obtain ⟨g, hs⟩ := build_file hb
  have h := open_built (cellsE_ok s) g (footE_seq s)
  rw [← hs] at h
  exact h
theorem openF_f {s : ByteArray} {f : Foot} {F : FileP} (h : openF s f = some F) : F.f = f := by
  unfold openF at h
  split at h
  · cases h
  · split at h
    · cases h
    · split at h
      · exact (congrArg FileP.f (Option.some.inj h)).symm
      · cases h
theorem openC_some {x : Option FileP} {F : FileP} (h : openC x = (some F, 0)) : x = some F := by
  cases x with
  | none => exact absurd (congrArg Prod.snd h) (by show ¬ (50 : Nat) = 0; decide)
  | some G => exact congrArg Prod.fst h
theorem openP_parts {s : ByteArray} {F : FileP} (h : openP s = (some F, 0)) : openF s (footE s) = some F := by
  unfold openP at h
  split at h
  · exact absurd (congrArg Prod.snd h) (by show ¬ (20 : Nat) = 0; decide)
  · split at h
    · exact absurd (congrArg Prod.snd h) (by show ¬ (50 : Nat) = 0; decide)
    · exact openC_some h
theorem open_facts {s : ByteArray} (hb : buildT (cellsE s) (footE s).seq = (s, 0)) : (footE s).blocks ≤ s.size ∧ endOf (textsP (s.extract 0 (footE s).blocks)) = (footE s).blocks := by
  obtain ⟨g, hs⟩ := build_file hb
  have ho := openP_parts (openF_built hb)
  have hfoot : footE s = footOf (cellsE s) (footE s).seq := (openF_f ho).symm
  have hfo := foot_of (footE s).seq g.len
  have hbk : (footE s).blocks = (blkL (cellsE s) (manyP (cellsE s))).length := by rw [hfoot]; rfl
  have hsz : s.size = (fileL (cellsE s) (footE s).seq).length := by
    conv => lhs; rw [hs]
    rw [file_bl _ g.len, bl_size]
  rw [file_length] at hsz
  refine ⟨by omega, ?_⟩
  have hex : s.extract 0 (footE s).blocks = bl ((pieces (cellsE s)).flatMap recL) := by
    rw [← blk_recs g.err]
    have hd : s.data.toList = fileL (cellsE s) (footE s).seq := by
      have h := congrArg ByteArray.data hs
      rw [file_bl _ g.len] at h
      exact congrArg Array.toList h
    apply ByteArray.ext
    apply Array.ext'
    have h2 : (s.extract 0 (footE s).blocks).data.toList = s.data.toList.take (footE s).blocks := by simp [ByteArray.data_extract, List.extract]
    rw [h2, hd, hbk]
    unfold fileL
    rw [List.take_left]
    rfl
  have h1 := texts_end (s.extract 0 (footE s).blocks) ((s.extract 0 (footE s).blocks).size + 1) 0 (Nat.zero_le _)
  have h2 : endOf (textsP (s.extract 0 (footE s).blocks)) = endAt (textsF ((s.extract 0 (footE s).blocks).size + 1) 0 (s.extract 0 (footE s).blocks)) 0 := rfl
  rw [h2, h1, Nat.zero_add]
  have h3 : (textsF ((s.extract 0 (footE s).blocks).size + 1) 0 (s.extract 0 (footE s).blocks)).map (·.2) = pieces (cellsE s) := by
    have := textsP_recs (pieces (cellsE s)) (pieces_small g.err)
    rw [← hex] at this
    exact this
  rw [h3, sumT_recs, ← blk_recs g.err, hbk]
/-- what the document's Open answers, by its tests -/
theorem openP_short {s : ByteArray} (h : s.size < 26) : openP s = (none, 20) := by unfold openP; rw [if_pos (Or.inr h)]
theorem openP_sum {s : ByteArray} (h : (getP (s.extract (s.size - 26) s.size)).2.2 ≠ 0) : openP s = (none, 20) := by unfold openP; rw [if_pos (Or.inl h)]
theorem openP_eq (s : ByteArray) : openP s = if (getP (s.extract (s.size - 26) s.size)).2.2 ≠ 0 ∨ s.size < 26 then (none, 20) else if (tailOf s).size ≠ 20 then (none, 50) else openC (openF s (footE s)) := rfl
theorem openP_form {s : ByteArray} (h1 : ¬ s.size < 26) (h2 : (getP (s.extract (s.size - 26) s.size)).2.2 = 0) (h : (tailOf s).size ≠ 20) : openP s = (none, 50) := by
  rw [openP_eq, if_neg (by rintro (h | h); exact h h2; exact h1 h), if_pos h]
theorem openP_body {s : ByteArray} (h1 : ¬ s.size < 26) (h2 : (getP (s.extract (s.size - 26) s.size)).2.2 = 0) (h : (tailOf s).size = 20) : openP s = openC (openF s (footE s)) := by
  rw [openP_eq, if_neg (by rintro (h | h); exact h h2; exact h1 h), if_neg (by rw [h]; decide)]
theorem openF_none {s : ByteArray} (h : ¬ buildT (cellsE s) (footE s).seq = (s, 0)) : openF s (footE s) = none := by
  unfold openF
  split
  · rfl
  · split
    · rfl
    · split
      · rename_i hb
        exact absurd hb h
      · rfl
theorem openF_all {s : ByteArray} (h : allUp (textsOf s (footE s).blocks) (textsOf s (footE s).blocks).length = false) : openF s (footE s) = none := by
  unfold openF
  split
  · rfl
  · first | rfl | rw [if_pos h]
theorem openF_some {s : ByteArray} (h : buildT (cellsE s) (footE s).seq = (s, 0)) : openF s (footE s) = some (openedP (cellsE s) (footE s).seq) := openP_parts (openF_built h)
theorem openF_blocks {s : ByteArray} (h : s.size < (footE s).blocks) : openF s (footE s) = none := openF_none fun hb => by have := (open_facts hb).1; omega
theorem openF_end {s : ByteArray} (h : endOf (textsP (s.extract 0 (footE s).blocks)) ≠ (footE s).blocks) : openF s (footE s) = none := openF_none fun hb => h (open_facts hb).2

theorem openP_cases (s : ByteArray) : (∃ e, e ≠ 0 ∧ openP s = (none, e)) ∨ ∃ l q, openP s = (some (openedP l q), 0) ∧ GoodT l ∧ q < 18446744073709551616 ∧ ∀ c ∈ l, CelOK c := by
  by_cases h1 : s.size < 26
  · exact Or.inl ⟨20, by decide, openP_short h1⟩
  · by_cases h2 : (getP (s.extract (s.size - 26) s.size)).2.2 = 0
    · by_cases h3 : (tailOf s).size = 20
      · have hb := openP_body h1 h2 h3
        by_cases h4 : buildT (cellsE s) (footE s).seq = (s, 0)
        · exact Or.inr ⟨_, _, openF_built h4, (build_file h4).1, footE_seq s, cellsE_ok s⟩
        · rw [openF_none h4] at hb
          exact Or.inl ⟨50, by decide, hb⟩
      · exact Or.inl ⟨50, by decide, openP_form h1 h2 h3⟩
    · exact Or.inl ⟨20, by decide, openP_sum h2⟩

/-! numbers of a foot, from the highest byte down -/
def hiF (t : ByteArray) : Nat → Nat
  | 0 => 0
  | c + 1 => hiF t c * 256 + (atB t (12 + (7 - c))).toNat
theorem hiF_lt (t : ByteArray) : ∀ c, hiF t c < 256 ^ c
  | 0 => by show 0 < 256 ^ 0; decide
  | c + 1 => by
    have h1 := hiF_lt t c
    have h2 := (atB t (12 + (7 - c))).toNat_lt
    show hiF t c * 256 + _ < 256 ^ (c + 1)
    rw [Nat.pow_succ]
    omega
theorem hiF_small (t : ByteArray) {c : Nat} (h : c < 8) : hiF t c < 72057594037927936 :=
  Nat.lt_of_lt_of_le (hiF_lt t c) (Nat.pow_le_pow_right (n := 256) (by decide) (show c ≤ 7 by omega))
theorem hiF_all {t : ByteArray} (h : t.size = 20) : hiF t 8 = leN (t.extract 12 20) 8 := by
  have e := fun j (hj : j < 8) => atB_extract t 12 20 j (by omega) (by omega)
  simp only [hiF, leN]
  rw [e 0 (by decide), e 1 (by decide), e 2 (by decide), e 3 (by decide), e 4 (by decide), e 5 (by decide), e 6 (by decide), e 7 (by decide)]
  simp only [Nat.reducePow, Nat.reduceAdd, Nat.reduceSub, Nat.sub_self, Nat.sub_zero, Nat.zero_mul, Nat.zero_add]
  omega
theorem le4_all {t : ByteArray} (h : t.size = 20) : leN (t.extract 0 4) 4 = (atB t 0).toNat + 256 * (atB t 1).toNat + 65536 * (atB t 2).toNat + 16777216 * (atB t 3).toNat := by
  have e := fun j (hj : j < 4) => atB_extract t 0 4 j (by omega) (by omega)
  simp only [leN]
  rw [e 0 (by decide), e 1 (by decide), e 2 (by decide), e 3 (by decide)]
  simp only [Nat.reducePow, Nat.zero_add]
  omega

/-! append to a slice of cells, beside a slice of strings -/
theorem wpList_append_celsG {w : World} {ops : Array Oper} {rest : List Oper} {o : Oper} {a : Act} {Q : Exit → Act → World → Prop} (hgd : o.guard = none) (s x : Operand)
    (ho : o.op = .call { callee := .builtin .append, args := #[s, x], argTypes := #[22, 22] }) (base : Nat) (v : Value) (l : List Cel) (hs : a.eval s = v) (hown : OwnC w base v l)
    (ad : Option Addr) (m c : Nat) (ls : List Cel) (hx : a.eval x = .slice ad m c) (hl : CelsAt w ad m ls) (hnone : ad = none → c = 0) (hlen : l.length + ls.length ≤ 1000000000) (hbase : base ≤ w.heap.size)
    (h : ∀ v' w', OwnC w' base v' (l ++ ls) → Below base w w' → w.grownBy w' v.ownBlock → wpList Tryz.prog ops Q rest (a.put o.dst v') w') : wpList Tryz.prog ops Q (o :: rest) a w := by
  obtain ⟨i0, hi, hz0, hz1, hz2⟩ := info_parts Tryz.infoCel
  have hm := hl.len
  cases ad with
  | none =>
    have : ls = [] := by
      rcases hl.cells with h0 | ⟨b, o, h0, _⟩
      · exact h0
      · cases h0
    subst this
    obtain rfl := hnone rfl
    have hm0 : m = 0 := hm
    subst hm0
    refine wpList_append_own_none hgd s x 22 ho base 34 i0 6 Tryz.underlying22 hi v l.length (l.flatMap celRow) hs hown hx ?_
    exact h v w (by rw [List.append_nil]; exact hown) (Below.refl _ _) ⟨rfl, rfl, rfl, Nat.le_refl _, fun _ _ _ => rfl⟩
  | some ad =>
    refine wpList_append_own w hgd s x 22 ho base 34 i0 _ 6 72 Tryz.underlying22 hi hz0 hz1 hz2 rfl (by decide) v l.length (l.flatMap celRow) hs hown ad m c (ls.flatMap celRow) hx (by rw [flat_len, hm]) ?_ (cels_oneCell ls) (by unfold maxLen; omega) (by omega) hbase ?_
    · intro j u hu
      rcases hl.cells with h0 | ⟨b, o, h0, _, hc⟩
      · subst h0; simp at hu
      · obtain rfl := Option.some.inj h0
        have e1 : (⟨b, o, none⟩ : Addr).add j = ⟨b, o + j, none⟩ := by unfold Addr.add; split <;> simp_all
        rw [e1]
        exact flat_all hc j u hu
    · intro v' w' h1 h2 _
      refine h v' w' ?_ (grown_belowC hown h2 hbase) h2
      unfold OwnC
      rw [List.length_append, List.flatMap_append, ← hm]
      exact h1
theorem ownS_grown {w w' : World} {base : Nat} {v vl : Value} {l : List ByteArray} {lc : List Cel} (hs : OwnS w base v l) (hc : OwnC w base vl lc) (hg : w.grownBy w' vl.ownBlock) : OwnS w' base v l := by
  refine World.ownsRow.kept hs hg ?_
  rcases hs.2 with ⟨rfl, _⟩ | ⟨g, cap, cur, rfl, _, hh, _⟩
  · exact Or.inl rfl
  · rcases hc.2 with ⟨rfl, _⟩ | ⟨g2, cap2, cur2, rfl, _, hh2, _⟩
    · exact Or.inr (by simp [Value.ownBlock])
    · refine Or.inr fun e => ?_
      have e2 : g = g2 := by simpa [Value.ownBlock] using e
      subst e2
      rw [hh] at hh2
      injection hh2 with hh2
      injection hh2 with _ h3
      exact absurd h3 (by decide)
end Go.Proofs.YtjnapcfclejknaaGreatDoor
