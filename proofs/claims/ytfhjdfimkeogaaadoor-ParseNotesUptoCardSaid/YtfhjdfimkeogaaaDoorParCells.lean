/-
  Cells: the cells of an input.
-/
import Derived.Test.YtfhjdfimkeogaaaDoorParLine
namespace Go.Proofs.YtfhjdfimkeogaaaDoor
open Go.RowKit Go.Lib

/-- a line that says nothing -/
def skipB (t : ByteArray) : Bool := t.size == 0 || t.data.toList.head? == some 35
def cellsGo (i : Nat) (acc : List Cel) : List ByteArray → List Cel × Nat × Nat
  | [] => (acc, 0, 0)
  | t :: r => if skipB t = true then cellsGo (i + 1) acc r else match lineP t with
    | none => ([], i + 1, 70)
    | some c => cellsGo (i + 1) (acc ++ [c]) r
def cellsP (s : ByteArray) : List Cel × Nat × Nat := if s.size > 4000 then ([], 0, 71) else cellsGo 0 [] (pieces 10 s)

theorem restB_size (s : ByteArray) : (restB s).size ≤ s.size := by
  unfold restB
  show (Lib.trimPrefix s.data.toList [61]).toArray.size ≤ _
  rw [size_eq]
  simp only [List.size_toArray]
  unfold Lib.trimPrefix
  split <;> simp
theorem numB_lt {s : ByteArray} {u : Nat} (h : numB s = some u) : u < 18446744073709551616 := by
  unfold numB at h
  split at h
  · rename_i u' hu
    have := parseUintB_le hu
    split at h
    · obtain rfl := Option.some.inj h; omega
    · cases h
  · cases h
theorem lineP_ok {s : ByteArray} (hs : s.size ≤ 100000000) {c : Cel} (h : lineP s = some c) : CelOK c := by
  unfold lineP at h
  split at h
  · rename_i a b n d he
    have ha := pieces_small (c := 32) (s := s) (x := a) (by rw [he]; simp)
    have hb := pieces_small (c := 32) (s := s) (x := b) (by rw [he]; simp)
    have hd := pieces_small (c := 32) (s := s) (x := d) (by rw [he]; simp)
    have hr := restB_size d
    unfold fourB at h
    split at h
    · obtain ⟨u, hu, rfl⟩ := Option.map_eq_some_iff.1 h
      refine ⟨numB_lt hu, by show 0 < _; decide, ?_, ?_, ?_⟩
      · show a.size ≤ _; omega
      · show b.size ≤ _; omega
      · show ByteArray.size (if goneB d = true then ⟨#[]⟩ else restB d) ≤ _
        split
        · exact Nat.zero_le _
        · omega
    · cases h
  · cases h

theorem skip_step {i : Nat} {acc : List Cel} {t : ByteArray} {r : List ByteArray} (h : skipB t = true) : cellsGo i acc (t :: r) = cellsGo (i + 1) acc r := by
  conv => lhs; unfold cellsGo
  rw [if_pos h]
theorem bad_step {i : Nat} {acc : List Cel} {t : ByteArray} {r : List ByteArray} (h : skipB t = false) (hl : lineP t = none) : cellsGo i acc (t :: r) = ([], i + 1, 70) := by
  conv => lhs; unfold cellsGo
  rw [if_neg (by simp [h]), hl]
theorem good_step {i : Nat} {acc : List Cel} {t : ByteArray} {r : List ByteArray} {c : Cel} (h : skipB t = false) (hl : lineP t = some c) : cellsGo i acc (t :: r) = cellsGo (i + 1) (acc ++ [c]) r := by
  conv => lhs; unfold cellsGo
  rw [if_neg (by simp [h]), hl]
theorem skip_zero {t : ByteArray} (h : t.size = 0) : skipB t = true := by unfold skipB; rw [h]; rfl
theorem head_at {t : ByteArray} (h : 0 < t.size) : t.data.toList.head? = some t[0] := by
  rw [List.head?_eq_getElem?]
  exact Lib.data_getElem? t 0 h
theorem skip_at {t : ByteArray} (h : 0 < t.size) : skipB t = (t[0] == 35) := by
  unfold skipB
  rw [head_at h, (beq_eq_false_iff_ne.2 (by omega) : (t.size == 0) = false), Bool.false_or]
  rfl
theorem skip_at' {t : ByteArray} (h : 0 < t.size) : skipB t = ((t[0].toNat : Int) == 35) := by
  rw [skip_at h, Bool.eq_iff_iff, beq_iff_eq, beq_iff_eq]
  constructor
  · intro e; rw [e]; rfl
  · intro e; exact UInt8.toNat_inj.1 (by have : (t[0].toNat : Int) = 35 := e; show t[0].toNat = 35; omega)

/-- what Cells hands back, as it lies -/
def CellsOut (w w' : World) (e : Ending) (r : List Cel × Nat × Nat) : Prop := ∃ v, e = .returned (.tuple #[v, .int .i64 r.2.1, .int .i64 r.2.2]) ∧ OwnC w' w.heap.size v r.1

set_option maxRecDepth 100000 in
set_option maxHeartbeats 4000000 in
theorem cells_any (s : ByteArray) (w : World) (hs : s.size ≤ 100000000) (hp : ParAt w) :
    Calls Tryd.prog 9 #[.string s] w fun e w' => CellsOut w w' e (cellsP s) ∧ Fp [] w w' := by
  have HP := Lib.hid hp
  have hS := Lib.hid (fun w => split_any 10 s w hs)
  clear hp
  by_cases h4 : s.size > 4000
  · have HR : Hid (cellsP s = ([], 0, 71)) := if_pos h4
    go_enter Tryd.func9, Tryd.ntmps9
    go_wp2_with (fail)
    rw [HR.out]
    refine bodyPost_ret (v := .tuple #[.slice none 0 0, .int .i64 0, .int .i64 71]) (by simp [results, Tryd.results9, go_sem, *]) rfl ⟨⟨_, rfl, OwnC.nil _ _⟩, ?_⟩
    exact Fp.refl _ _
  · have HR : Hid (cellsP s = cellsGo 0 [] (pieces 10 s)) := if_neg h4
    have h4' : ¬ ((s.size : Nat) : Int) > 4000 := by omega
    have HSM := Lib.hid (fun x => pieces_small (c := 10) (s := s) (x := x))
    obtain ⟨P, hP⟩ : ∃ P, pieces 10 s = P := ⟨_, rfl⟩
    have hPL : P.length ≤ 100000001 := by rw [← hP]; have := pieces_le 10 s; omega
    rw [hP] at hS HR HSM
    go_enter Tryd.func9, Tryd.ntmps9
    go_wp2_with (fail)
    (with_reducible refine (hS.out _ HP.out.mx).mono ?_)
    rintro e w1 ⟨B, rfl, hB, hrow, hf⟩
    have HF1 := Lib.hid hf
    have HRW := Lib.hid hrow
    have HP1 : Hid (ParAt w1) := ⟨HP.out.mx.fp hf List.not_mem_nil, HP.out.er.fp hf List.not_mem_nil List.not_mem_nil⟩
    clear hf hrow hB hP
    go_wp2_with (fail)
    go_loopg [2, 15] P.length (fun g va vi wr => ∃ k : Nat, g + k = P.length ∧ vi = .int .i64 k ∧ Fp [] w1 wr ∧ ∃ acc : List Cel, OwnC wr w1.heap.size va acc ∧ acc.length ≤ k ∧ cellsGo 0 [] P = cellsGo k acc (P.drop k))
    case atStart => exact ⟨0, rfl, rfl, Fp.refl _ _, [], OwnC.nil _ _, Nat.zero_le _, rfl⟩
    case round =>
      obtain ⟨k, hg, rfl, hf, acc, ho, hlen, hgo⟩ := hrel
      have HF := Lib.hid hf
      have HO := Lib.hid ho
      have HGO := Lib.hid hgo
      have HRK := Lib.hid (HRW.out.fp hf List.not_mem_nil)
      clear hf ho hgo
      by_cases hk : k < P.length
      · obtain ⟨t, ht⟩ : ∃ t, P[k] = t := ⟨_, rfl⟩
        have q := HRK.out.at k hk
        rw [ht] at q
        have HD : Hid (P.drop k = t :: P.drop (k + 1)) := by unfold Hid; rw [← ht]; exact List.drop_eq_getElem_cons hk
        have hts : t.size ≤ 100000000 := by have := HSM.out t (by rw [← ht]; exact List.getElem_mem hk); omega
        clear ht
        by_cases h0 : t.size = 0
        · have hem := str_empty h0
          have HSK : Hid (skipB t = true) := skip_zero h0
          go_wp2_with (fail)
          go_roundg (gk - 1)
          case measure => omega
          case rel => exact ⟨k + 1, by omega, by simp, HF.out, acc, HO.out, by omega, by rw [HGO.out, HD.out, skip_step HSK.out]⟩
        · have hem := str_full (s := t) (by omega)
          have ht0 : 0 < t.size := by omega
          obtain ⟨sk, hsk⟩ : ∃ sk, ((t[0].toNat : Int) == 35) = sk := ⟨_, rfl⟩
          have HSK : Hid (skipB t = sk) := (skip_at' ht0).trans hsk
          cases sk
          · go_wp2_with (fail)
            (with_reducible refine (line_any t _ hts (ParAt.mk (HP1.out.mx.fp HF.out List.not_mem_nil) (HP1.out.er.fp HF.out List.not_mem_nil List.not_mem_nil))).mono ?_)
            rintro e w2 ⟨rfl, hf⟩
            have HF2 := Lib.hid (HF.out.trans hf (by simp))
            have HO2 := Lib.hid (HO.out.fp hf (by simp))
            clear hf
            cases hl : lineP t with
            | none =>
              have HL := Lib.hid hl
              clear hl
              rw [show cellV ((Option.none : Option Cel).getD zeroC) = .agg #[.string ⟨#[]⟩, .string ⟨#[]⟩, .int .u64 0, .int .u64 0, .bool false, .string ⟨#[]⟩] from rfl, show (Option.none : Option Cel).isSome = false from rfl]
              go_wp2_with (fail)
              rw [HR.out, HGO.out, HD.out, bad_step HSK.out HL.out]
              refine bodyPost_ret (v := .tuple #[.slice none 0 0, .int .i64 ((k : Nat) + 1 : Nat), .int .i64 70]) (by simp [results, Tryd.results9, go_sem, *]) rfl ⟨⟨_, rfl, OwnC.nil _ _⟩, ?_⟩
              exact HF1.out.trans (HF2.out.alloc' _) (by simp)
            | some c =>
              have HL := Lib.hid hl
              clear hl
              have HCO := Lib.hid (lineP_ok hts HL.out)
              obtain ⟨cr, cc, ct, cq, cd, cv⟩ := c
              rw [show cellV ((Option.some (⟨cr, cc, ct, cq, cd, cv⟩ : Cel)).getD zeroC) = .agg #[.string cr, .string cc, .int .u64 ct, .int .u64 cq, .bool cd, .string cv] from rfl, show (Option.some (⟨cr, cc, ct, cq, cd, cv⟩ : Cel)).isSome = true from rfl]
              go_wp2_with (at_builtin; (refine wpList_append_cels rfl _ _ rfl w1.heap.size _ acc rfl ((HO2.out.fp (Fp.alloc _ _) (by simp)).fp (Fp.alloc _ _) (by simp)) _ _ _ [⟨cr, cc, ct, cq, cd, cv⟩] rfl (CelIn.one (heap_alloc_at (by simp) _) HCO.out) (fun h => by cases h) (by simp; omega) (by have := HF2.out.size; simp; omega) ?_); intro v3 w3 ho3 hb3)
              go_roundg (gk - 1)
              case measure => omega
              case rel => exact ⟨k + 1, by omega, by simp, ((HF2.out.alloc' _).alloc' _).belowTrans hb3, acc ++ [⟨cr, cc, ct, cq, cd, cv⟩], ho3, by simp; omega, by rw [HGO.out, HD.out, good_step HSK.out HL.out]⟩
          · go_wp2_with (fail)
            go_roundg (gk - 1)
            case measure => omega
            case rel => exact ⟨k + 1, by omega, by simp, HF.out, acc, HO.out, by omega, by rw [HGO.out, HD.out, skip_step HSK.out]⟩
      · have HD : Hid (P.drop k = []) := List.drop_eq_nil_of_le (by omega)
        go_wp2_with (fail)
        rw [HR.out, HGO.out, HD.out]
        refine bodyPost_ret (v := .tuple #[_, .int .i64 0, .int .i64 0]) (by simp [results, Tryd.results9, go_sem, *]) rfl ⟨⟨_, rfl, HO.out.mono HF1.out.size⟩, ?_⟩
        exact HF1.out.trans HF.out (by simp)
end Go.Proofs.YtfhjdfimkeogaaaDoor
