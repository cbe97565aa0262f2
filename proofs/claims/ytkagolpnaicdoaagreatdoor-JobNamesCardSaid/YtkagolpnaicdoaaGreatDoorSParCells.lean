/-
 Cells: the cells of an input. The reference of layer 7: Word, digits. The reference of layer 7: digits. The reference of layer 7: words. The reference of layer 7: line. The reference of layer 7: Cells. shown: that a line is a cell. ParseCells: the cells of any input are the document's. job.Make: what it computes; the walk of what it tries.
-/
import Derived.Test.YtkagolpnaicdoaaGreatDoorSParPure
import Derived.IntWalk
import Derived.Test.YtkagolpnaicdoaaGreatDoorSStrsOwn
import Derived.Laws.DeepStrings4
import Derived.Test.YtkagolpnaicdoaaGreatDoorSTabG
import Derived.Test.YtkagolpnaicdoaaGreatDoorSCrc
import Derived.Lib.LaidTab
import Derived.Test.YtkagolpnaicdoaaGreatDoorSDrvA
import Derived.Test.YtkagolpnaicdoaaGreatDoorSCutG
import Derived.Test.YtkagolpnaicdoaaGreatDoorSMrgK
import Derived.Test.YtkagolpnaicdoaaGreatDoorSTabL
set_option maxRecDepth 100000
set_option maxHeartbeats 8000000
namespace Go.Proofs.YtkagolpnaicdoaaGreatDoor
section
open Go.RowKit Go.Lib
def skipB (t : ByteArray) : Bool := t.size == 0 || t.data.toList.head? == some 35
def cellsGo (i : Nat) (acc : List Cel) : List ByteArray → List Cel × Nat × Nat
 |[] => (acc, 0, 0)
 |t :: r => if skipB t = true then cellsGo (i + 1) acc r else match lineP t with
  |none => ([], i + 1, 70)
  |some c => cellsGo (i + 1) (acc ++ [c]) r
def cellsP (s : ByteArray) : List Cel × Nat × Nat := if s.size > 4000 then ([], 0, 71) else cellsGo 0 [] (pieces 10 s)
theorem restB_size (s : ByteArray) : (restB s).size ≤ s.size := by
 unfold restB
 show (Lib.trimPrefix s.data.toList [61]).toArray.size ≤ _
 rw [size_eq]
 simp only [List.size_toArray]
 unfold Lib.trimPrefix
 split <;> simp
theorem numB_lt {s : ByteArray} {u : Nat} (h : numB s = some u) : u < 18446744073709551616 := by
 unfold numB at h
 split at h
 ·rename_i u' hu
  have := parseUintB_le hu
  split at h
  ·obtain rfl := Option.some.inj h; omega
  ·cases h
 ·cases h
theorem lineP_ok {s : ByteArray} (hs : s.size ≤ 100000000) {c : Cel} (h : lineP s = some c) : CelOK c := by
 unfold lineP at h
 split at h
 ·rename_i a b n d he
  have ha := pieces_small (c := 32) (s := s) (x := a) (by rw [he]; simp)
  have hb := pieces_small (c := 32) (s := s) (x := b) (by rw [he]; simp)
  have hd := pieces_small (c := 32) (s := s) (x := d) (by rw [he]; simp)
  have hr := restB_size d
  unfold fourB at h
  split at h
  ·obtain ⟨u, hu, rfl⟩ := Option.map_eq_some_iff.1 h
   refine ⟨numB_lt hu, by show 0 < _; decide, ?_, ?_, ?_⟩
   ·show a.size ≤ _; omega
   ·show b.size ≤ _; omega
   ·show ByteArray.size (if goneB d = true then ⟨#[]⟩ else restB d) ≤ _
    split
    ·exact Nat.zero_le _
    ·omega
  ·cases h
 ·cases h
theorem skip_step {i : Nat} {acc : List Cel} {t : ByteArray} {r : List ByteArray} (h : skipB t = true) : cellsGo i acc (t :: r) = cellsGo (i + 1) acc r := by
 conv => lhs; unfold cellsGo
 rw [if_pos h]
theorem bad_step {i : Nat} {acc : List Cel} {t : ByteArray} {r : List ByteArray} (h : skipB t = false) (hl : lineP t = none) : cellsGo i acc (t :: r) = ([], i + 1, 70) := by
 conv => lhs; unfold cellsGo
 rw [if_neg (by simp [h]), hl]
theorem good_step {i : Nat} {acc : List Cel} {t : ByteArray} {r : List ByteArray} {c : Cel} (h : skipB t = false) (hl : lineP t = some c) : cellsGo i acc (t :: r) = cellsGo (i + 1) (acc ++ [c]) r := by
 conv => lhs; unfold cellsGo
 rw [if_neg (by simp [h]), hl]
theorem skip_zero {t : ByteArray} (h : t.size = 0) : skipB t = true := by unfold skipB; rw [h]; rfl
theorem head_at {t : ByteArray} (h : 0 < t.size) : t.data.toList.head? = some t[0] := by
 rw [List.head?_eq_getElem?]
 exact Lib.data_getElem? t 0 h
theorem skip_at {t : ByteArray} (h : 0 < t.size) : skipB t = (t[0] == 35) := by
 unfold skipB
 rw [head_at h, (beq_eq_false_iff_ne.2 (by omega) : (t.size == 0) = false), Bool.false_or]
 rfl
theorem skip_at' {t : ByteArray} (h : 0 < t.size) : skipB t = ((t[0].toNat : Int) == 35) := by
 rw [skip_at h, Bool.eq_iff_iff, beq_iff_eq, beq_iff_eq]
 constructor
 ·intro e; rw [e]; rfl
 ·intro e; exact UInt8.toNat_inj.1 (by have : (t[0].toNat : Int) = 35 := e; show t[0].toNat = 35; omega)
def CellsOut (w w' : World) (e : Ending) (r : List Cel × Nat × Nat) : Prop := ∃ v, e = .returned (.tuple #[v, .int .i64 r.2.1, .int .i64 r.2.2]) ∧ OwnC w' w.heap.size v r.1
theorem cells_any (s : ByteArray) (w : World) (hs : s.size ≤ 100000000) (hp : ParAt w) :
  Calls Tryz.prog 47 #[.string s] w fun e w' => CellsOut w w' e (cellsP s) ∧ Fp [] w w' := by
 have HP := Lib.hid hp
 have hS := Lib.hid (fun w => split_anyP 10 s w hs)
 clear hp
 by_cases h4 : s.size > 4000
 ·have HR : Hid (cellsP s = ([], 0, 71)) := if_pos h4
  go_enter Tryz.func47, Tryz.ntmps47
  go_wp2_with (fail)
  rw [HR.out]
  refine bodyPost_ret (v := .tuple #[.slice none 0 0, .int .i64 0, .int .i64 71]) (by simp [results, Tryz.results47, go_sem, *]) rfl ⟨⟨_, rfl, OwnC.nil _ _⟩, ?_⟩
  exact Fp.refl _ _
 ·have HR : Hid (cellsP s = cellsGo 0 [] (pieces 10 s)) := if_neg h4
  have h4' : ¬ ((s.size : Nat) : Int) > 4000 := by omega
  have HSM := Lib.hid (fun x => pieces_small (c := 10) (s := s) (x := x))
  obtain ⟨P, hP⟩ : ∃ P, pieces 10 s = P := ⟨_, rfl⟩
  have hPL : P.length ≤ 100000001 := by rw [← hP]; have := pieces_le 10 s; omega
  rw [hP] at hS HR HSM
  go_enter Tryz.func47, Tryz.ntmps47
  go_wp2_with (fail)
  (with_reducible refine (hS.out _ HP.out.mx).mono ?_)
  rintro e w1 ⟨B, rfl, hB, hrow, hf⟩
  have HF1 := Lib.hid hf
  have HRW := Lib.hid hrow
  have HP1 : Hid (ParAt w1) := ⟨HP.out.mx.fp hf List.not_mem_nil, HP.out.er.fp hf List.not_mem_nil List.not_mem_nil⟩
  clear hf hrow hB hP
  go_wp2_with (fail)
  go_loopg [2, 15] P.length (fun g va vi wr => ∃ k : Nat, g + k = P.length ∧ vi = .int .i64 k ∧ Fp [] w1 wr ∧ ∃ acc : List Cel, OwnC wr w1.heap.size va acc ∧ acc.length ≤ k ∧ cellsGo 0 [] P = cellsGo k acc (P.drop k))
  case atStart => exact ⟨0, rfl, rfl, Fp.refl _ _, [], OwnC.nil _ _, Nat.zero_le _, rfl⟩
  case round =>
   obtain ⟨k, hg, rfl, hf, acc, ho, hlen, hgo⟩ := hrel
   have HF := Lib.hid hf
   have HO := Lib.hid ho
   have HGO := Lib.hid hgo
   have HRK := Lib.hid (HRW.out.fp hf List.not_mem_nil)
   clear hf ho hgo
   by_cases hk : k < P.length
   ·obtain ⟨t, ht⟩ : ∃ t, P[k] = t := ⟨_, rfl⟩
    have q := HRK.out.at k hk
    rw [ht] at q
    have HD : Hid (P.drop k = t :: P.drop (k + 1)) := by unfold Hid; rw [← ht]; exact List.drop_eq_getElem_cons hk
    have hts : t.size ≤ 100000000 := by have := HSM.out t (by rw [← ht]; exact List.getElem_mem hk); omega
    clear ht
    by_cases h0 : t.size = 0
    ·have hem := str_empty h0
     have HSK : Hid (skipB t = true) := skip_zero h0
     go_wp2_with (fail)
     go_roundg (gk - 1)
     case measure => omega
     case rel => exact ⟨k + 1, by omega, by simp, HF.out, acc, HO.out, by omega, by rw [HGO.out, HD.out, skip_step HSK.out]⟩
    ·have hem := str_full (s := t) (by omega)
     have ht0 : 0 < t.size := by omega
     obtain ⟨sk, hsk⟩ : ∃ sk, ((t[0].toNat : Int) == 35) = sk := ⟨_, rfl⟩
     have HSK : Hid (skipB t = sk) := (skip_at' ht0).trans hsk
     cases sk
     ·go_wp2_with (fail)
      (with_reducible refine (line_any t _ hts (ParAt.mk (HP1.out.mx.fp HF.out List.not_mem_nil) (HP1.out.er.fp HF.out List.not_mem_nil List.not_mem_nil))).mono ?_)
      rintro e w2 ⟨rfl, hf⟩
      have HF2 := Lib.hid (HF.out.trans hf (by simp))
      have HO2 := Lib.hid (HO.out.fp hf (by simp))
      clear hf
      cases hl : lineP t with
      |none =>
       have HL := Lib.hid hl
       clear hl
       rw [show cellV ((Option.none : Option Cel).getD zeroC) = .agg #[.string ⟨#[]⟩, .string ⟨#[]⟩, .int .u64 0, .int .u64 0, .bool false, .string ⟨#[]⟩] from rfl, show (Option.none : Option Cel).isSome = false from rfl]
       go_wp2_with (fail)
       rw [HR.out, HGO.out, HD.out, bad_step HSK.out HL.out]
       refine bodyPost_ret (v := .tuple #[.slice none 0 0, .int .i64 ((k : Nat) + 1 : Nat), .int .i64 70]) (by simp [results, Tryz.results47, go_sem, *]) rfl ⟨⟨_, rfl, OwnC.nil _ _⟩, ?_⟩
       exact HF1.out.trans (HF2.out.alloc' _) (by simp)
      |some c =>
       have HL := Lib.hid hl
       clear hl
       have HCO := Lib.hid (lineP_ok hts HL.out)
       obtain ⟨cr, cc, ct, cq, cd, cv⟩ := c
       rw [show cellV ((Option.some (⟨cr, cc, ct, cq, cd, cv⟩ : Cel)).getD zeroC) = .agg #[.string cr, .string cc, .int .u64 ct, .int .u64 cq, .bool cd, .string cv] from rfl, show (Option.some (⟨cr, cc, ct, cq, cd, cv⟩ : Cel)).isSome = true from rfl]
       go_wp2_with (at_builtin; (refine wpList_append_cels rfl _ _ rfl w1.heap.size _ acc rfl ((HO2.out.fp (Fp.alloc _ _) (by simp)).fp (Fp.alloc _ _) (by simp)) _ _ _ [⟨cr, cc, ct, cq, cd, cv⟩] rfl (CelIn.one (heap_alloc_at (by simp) _) HCO.out) (fun h => by cases h) (by simp; omega) (by have := HF2.out.size; simp; omega) ?_); intro v3 w3 ho3 hb3)
       go_roundg (gk - 1)
       case measure => omega
       case rel => exact ⟨k + 1, by omega, by simp, ((HF2.out.alloc' _).alloc' _).belowTrans hb3, acc ++ [⟨cr, cc, ct, cq, cd, cv⟩], ho3, by simp; omega, by rw [HGO.out, HD.out, good_step HSK.out HL.out]⟩
     ·go_wp2_with (fail)
      go_roundg (gk - 1)
      case measure => omega
      case rel => exact ⟨k + 1, by omega, by simp, HF.out, acc, HO.out, by omega, by rw [HGO.out, HD.out, skip_step HSK.out]⟩
   ·have HD : Hid (P.drop k = []) := List.drop_eq_nil_of_le (by omega)
    go_wp2_with (fail)
    rw [HR.out, HGO.out, HD.out]
    refine bodyPost_ret (v := .tuple #[_, .int .i64 0, .int .i64 0]) (by simp [results, Tryz.results47, go_sem, *]) rfl ⟨⟨_, rfl, HO.out.mono HF1.out.size⟩, ?_⟩
    exact HF1.out.trans HF.out (by simp)
end
section
open Go.RowKit Go.Lib
end
section
open Go.RowKit Go.Lib
end
section
open Go.RowKit Go.Lib
end
section
open Go.RowKit Go.Lib
end
section
open Go.RowKit Go.Lib
end
section
open Go.RowKit Go.Lib
end
section
open Go.RowKit Go.Lib
theorem cellsGo_ok : ∀ (l : List ByteArray) (i : Nat) (acc : List Cel), (∀ t ∈ l, t.size ≤ 100000000) → (∀ c ∈ acc, CelOK c) → (∀ c ∈ (cellsGo i acc l).1, CelOK c) ∧ (cellsGo i acc l).1.length ≤ acc.length + l.length ∧ (cellsGo i acc l).2.1 ≤ i + l.length ∧ (cellsGo i acc l).2.2 ≤ 70
 |[], i, acc, _, h => ⟨h, Nat.le_refl _, Nat.zero_le _, Nat.zero_le _⟩
 |t :: r, i, acc, hl, h => by
  have hr : ∀ t ∈ r, t.size ≤ 100000000 := fun x hx => hl x (by simp [hx])
  cases hs : skipB t
  ·cases hp : lineP t with
   |none =>
    rw [bad_step hs hp]
    exact ⟨by simp, Nat.zero_le _, by show i + 1 ≤ i + (r.length + 1); omega, Nat.le_refl _⟩
   |some c =>
    rw [good_step hs hp]
    have hc := lineP_ok (hl t (by simp)) hp
    obtain ⟨h1, h2, h3, h4⟩ := cellsGo_ok r (i + 1) (acc ++ [c]) hr (by
     intro x hx
     rcases List.mem_append.1 hx with hx | hx
     ·exact h x hx
     ·rw [List.mem_singleton.1 hx]; exact hc)
    exact ⟨h1, by rw [List.length_append] at h2; simp only [List.length_cons, List.length_nil] at h2 ⊢; omega, by rw [List.length_cons]; omega, h4⟩
  ·rw [skip_step hs]
   obtain ⟨h1, h2, h3, h4⟩ := cellsGo_ok r (i + 1) acc hr h
   exact ⟨h1, by rw [List.length_cons]; omega, by rw [List.length_cons]; omega, h4⟩
theorem cellsP_ok (s : ByteArray) (hs : s.size ≤ 100000000) : (∀ c ∈ (cellsP s).1, CelOK c) ∧ (cellsP s).1.length ≤ 100000001 ∧ (cellsP s).2.1 ≤ 100000001 ∧ (cellsP s).2.2 ≤ 71 := by
 unfold cellsP
 split
 ·exact ⟨by simp, Nat.zero_le _, Nat.zero_le _, Nat.le_refl _⟩
 ·have hl := pieces_le 10 s
  obtain ⟨h1, h2, h3, h4⟩ := cellsGo_ok (pieces 10 s) 0 [] (fun t ht => by have := pieces_small ht; omega) (by simp)
  refine ⟨h1, ?_, by omega, by omega⟩
  have : ([] : List Cel).length = 0 := rfl
  omega
theorem psum_any (s : ByteArray) (w : World) (hs : s.size ≤ 100000000) (ht : TabAt w) :
  Calls Tryz.prog 44 #[.string s] w fun e w' => e = .returned (.int .u32 (moreN 0 s)) ∧ Fp [] w w' := by
 have H := Lib.hid (fun w ht => sum_any s w hs ht)
 have HT := Lib.hid ht
 clear ht
 go_enter Tryz.func44, Tryz.ntmps44
 go_wp2_with (fail)
 (with_reducible refine (H.out _ HT.out).mono ?_)
 rintro e w1 ⟨rfl, hf⟩
 have HF := Lib.hid hf
 clear hf
 go_wp2_with (fail)
 go_ret
 exact ⟨rfl, HF.out⟩
theorem tab_of {w : World} (h : TabIs Tryz.prog w "rickyard/crc.four" .u32 (fourL.map fun (n : Nat) => (n : Int))) : TabAt w := by
 intro i hi
 have := h.cell (g := 0) (by kernel_rfl) i (by rw [List.length_map]; exact hi)
 rw [this]
 have key : ∀ r, r < 16 → (fourL.map fun (n : Nat) => (n : Int)).getD r 0 = ((fourL.getD r 0 : Nat) : Int) := by decide
 rw [key i hi]
theorem tab_met {W : World} {r : List (String × DataW Unit)} (h : laidMet Tryz.prog (("rickyard/crc.four", tabData .u32 (fourL.map fun (n : Nat) => (n : Int))) :: r) W.memory) : TabAt W :=
 tab_of (show TabIs Tryz.prog W.memory "rickyard/crc.four" .u32 (fourL.map fun (n : Nat) => (n : Int)) from tabIs_of_head (show Tryz.prog.globalNamed "rickyard/crc.four" = some 0 by kernel_rfl) (show (Tryz.prog.globals[0]?).map (·.type) = some 237 by kernel_rfl) Tryz.underlying237 Tryz.underlying26 (by kernel_rfl) (by kernel_rfl) h)
end
section
open Go.RowKit Go.Lib
def firstErr : List Nat → Nat
 |[] => 0
 |e :: r => if e = 0 then firstErr r else e
theorem firstErr_at : ∀ (l : List Nat) (i : Nat) (hi : i < l.length), (∀ j (_ : j < i), l[j]'(by omega) = 0) → l[i] ≠ 0 → firstErr l = l[i]
 |[], i, hi, _, _ => absurd hi (Nat.not_lt_zero _)
 |x :: l, 0, _, _, hx => by rw [firstErr, if_neg (by simpa using hx)]; rfl
 |x :: l, i + 1, hi, h, hx => by
  rw [firstErr, if_pos (show x = 0 from h 0 (Nat.zero_lt_succ _))]
  exact firstErr_at l i (by simpa using hi) (fun j hj => h (j + 1) (Nat.succ_lt_succ hj)) (by simpa using hx)
def errsOf (ps : List (Nat × List Cel)) : List Nat := ps.map fun x => (buildT x.2 0).2
def filesOf (ps : List (Nat × List Cel)) : List ByteArray := ps.map fun x => (buildT x.2 0).1
inductive MakeR (s : ByteArray) (borders : List ByteArray) (m wid mo : Int) : Nat → List ByteArray → Prop
 |parse : (cellsP s).2.2 ≠ 0 → MakeR s borders m wid mo (cellsP s).2.2 []
 |none : (cellsP s).2.2 = 0 → (cellsP s).1 = [] → MakeR s borders m wid mo 1 []
 |sort : (cellsP s).2.2 = 0 → (cellsP s).1 ≠ [] → (m < 1 ∨ wid < 2) → MakeR s borders m wid mo 1 []
 |cut : (cellsP s).2.2 = 0 → (cellsP s).1 ≠ [] → 1 ≤ m → 2 ≤ wid → (bordersB borders = false ∨ mo < 1) → MakeR s borders m wid mo 1 []
 |build (r : List Itm) (out : List (List Cel)) (most : Nat) : (cellsP s).2.2 = 0 → (cellsP s).1 ≠ [] → 1 ≤ m → 2 ≤ wid → bordersB borders = true → 1 ≤ most → mo = (most : Int) → IsRes (itemsP (cellsP s).1) r → SplitR (r.map (·.c)) borders out → firstErr (errsOf (allP most out)) ≠ 0 → MakeR s borders m wid mo (firstErr (errsOf (allP most out))) []
 |ok (r : List Itm) (out : List (List Cel)) (most : Nat) : (cellsP s).2.2 = 0 → (cellsP s).1 ≠ [] → 1 ≤ m → 2 ≤ wid → bordersB borders = true → 1 ≤ most → mo = (most : Int) → IsRes (itemsP (cellsP s).1) r → SplitR (r.map (·.c)) borders out → (∀ e ∈ errsOf (allP most out), e = 0) → MakeR s borders m wid mo 0 (filesOf (allP most out))
theorem cmpK_cell {x y : Itm} (h : cmpK x y < 0) : cmpC x.c y.c < 0 := by
 unfold cmpK cmpC crdI at h
 simp only at h
 rw [firstN4, cmpN_self 0] at h
 unfold cmpC
 rw [firstN4]
 by_cases h1 : cmpS x.c.row y.c.row = 0
 ·by_cases h2 : cmpS x.c.col y.c.col = 0
  ·by_cases h3 : cmpN y.c.ts x.c.ts = 0
   ·simp [h1, h2, h3] at h
   ·simp [h1, h2, h3] at h ⊢; exact h
  ·simp [h1, h2] at h ⊢; exact h
 ·simp [h1] at h ⊢; exact h
theorem RisK.risC {r : List Itm} (h : RisK r) : risC (r.map (·.c)) = true := by
 refine risC_yes fun j hj => ?_
 rcases Nat.eq_zero_or_pos j with rfl | h0
 ·rfl
 rw [List.length_map] at hj
 rw [badAt_at (k := j) (m := j - 1) (by rw [List.length_map]; exact hj) (by omega) (r[j - 1]'(by omega)).c (r[j]'hj).c (by rw [List.getElem_map]) (by rw [List.getElem_map])]
 have := cmpK_cell (List.pairwise_iff_getElem.1 h (j - 1) j (by omega) hj (by omega))
 exact decide_eq_false (by omega)
theorem cellsP_few (s : ByteArray) : (cellsP s).1.length ≤ 4001 := by
 unfold cellsP
 split
 ·exact Nat.zero_le _
 ·rename_i h
  have hl := pieces_le 10 s
  obtain ⟨_, h2, _, _⟩ := cellsGo_ok (pieces 10 s) 0 [] (fun t ht => by have := pieces_small ht; omega) (by simp)
  have : ([] : List Cel).length = 0 := rfl
  omega
theorem OwnC.at4 {w : World} {base : Nat} {v : Value} {l : List Cel} (h : OwnC w base v l) (hok : ∀ c ∈ l, CelOK c) : ∃ a cap, v = .slice a l.length cap ∧ l.length ≤ cap ∧ (a = Option.none ∧ cap = 0 ∨ ∃ b o, a = some ⟨b, o, Option.none⟩) ∧ CelsAt w a l.length l := by
 obtain ⟨a, cap, e, h0, h1, h2⟩ := h.at5 hok
 refine ⟨a, cap, e, h0, ?_, h2⟩
 rcases h.2 with ⟨h3, _⟩ | ⟨g, c2, cur, h3, _⟩
 ·rw [e] at h3
  injection h3 with h4 h5 h6
  exact Or.inl ⟨h4, h6⟩
 ·rw [e] at h3
  cases h3
  exact Or.inr ⟨g, 0, rfl⟩
theorem item_cell {l : List Cel} {x : Itm} (h : x ∈ itemsP l) : x.c ∈ l := by
 obtain ⟨i, hi, e⟩ := List.mem_iff_getElem.1 h
 have hl : (itemsP l).length = l.length := itemsUp_length l _
 rw [← e, show (itemsP l)[i] = ⟨l.getD i zeroC, i⟩ from itemsUp_get l l.length i hi]
 show l.getD i zeroC ∈ l
 rw [List.getD_eq_getElem?_getD, List.getElem?_eq_getElem (by omega)]
 exact List.getElem_mem _
theorem rollP_flat (l : List Cel) (most : Nat) : (rollP l most).flatten = l := by
 unfold rollP
 rw [rollF_flat, crowP_flat l 0 0 (Nat.le_refl _) (Or.inr rfl), List.drop_zero]
theorem allTo_mem {most : Nat} {out : List (List Cel)} {k : Nat} {x : Nat × List Cel} (hx : x ∈ allTo most out k) {c : Cel} (hc : c ∈ x.2) : c ∈ out.flatten := by
 unfold allTo at hx
 obtain ⟨i, -, hi⟩ := List.mem_flatMap.1 hx
 obtain ⟨r, hr, rfl⟩ := List.mem_map.1 hi
 have h1 : c ∈ out.getD i [] := by
  rw [← rollP_flat (out.getD i []) most]
  exact List.mem_flatten.2 ⟨r, hr, hc⟩
 rw [List.getD_eq_getElem?_getD] at h1
 cases h2 : out[i]? with
 |none => rw [h2] at h1; simp at h1
 |some y =>
  rw [h2] at h1
  exact List.mem_flatten.2 ⟨y, List.mem_of_getElem? h2, h1⟩
theorem allTo_small {most : Nat} {out : List (List Cel)} {k : Nat} {x : Nat × List Cel} (hx : x ∈ allTo most out k) : x.2.length ≤ out.flatten.length := by
 unfold allTo at hx
 obtain ⟨i, -, hi⟩ := List.mem_flatMap.1 hx
 obtain ⟨r, hr, rfl⟩ := List.mem_map.1 hi
 have h1 : r.length ≤ (out.getD i []).length := by
  have := flatten_mem_len hr
  rw [rollP_flat] at this
  exact this
 rw [List.getD_eq_getElem?_getD] at h1
 cases h2 : out[i]? with
 |none => rw [h2] at h1; simp at h1; simp [h1]
 |some y =>
  rw [h2] at h1
  exact Nat.le_trans h1 (flatten_mem_len (List.mem_of_getElem? h2))
theorem OwnPc.low {W W' : World} {base : Nat} {v : Value} {ps : List (Nat × List Cel)} (h : OwnPc W base v ps) (hl : ∀ k, base ≤ k → k < W.heap.size → W'.heap[k]? = W.heap[k]?) : OwnPc W' base v ps := by
 obtain ⟨hs, h1, h2⟩ := h
 exact ⟨hs, h1.kept fun k hk => hl k (h1.lt k hk).1 (h1.lt k hk).2, forall2_mono (fun _ _ h => ⟨h.1, h.2.kept fun k hk => hl k (h.2.lt k hk).1 (h.2.lt k hk).2⟩) h2⟩
theorem OwnPc.get {W : World} {base i : Nat} {v : Value} {ps : List (Nat × List Cel)} (h : OwnPc W base v ps) (hi : i < ps.length) : ∃ g cap a n c, v = .slice (some ⟨g, 0, Option.none⟩) ps.length cap ∧ W.cell? ⟨g, i * 2, Option.none⟩ = some (.int .i64 (ps[i].1 : Nat)) ∧ W.cell? ⟨g, i * 2 + 1, Option.none⟩ = some (.slice a n c) ∧ OwnC W base (.slice a n c) ps[i].2 := by
 obtain ⟨hs, h1, h2⟩ := h
 have hl := h2.length_eq
 obtain ⟨g, cap, cur, rfl, -, -, -, -, -, -⟩ := h1.open (by omega)
 obtain ⟨hq, -⟩ := h1.elem (i := i) (by omega)
 obtain ⟨e1, e2⟩ := h2.nth i (by omega) hi
 have c0 := hq 0 (.int .i64 (hs[i]'(by omega)).1) rfl
 have c1 := hq 1 (hdV (hs[i]'(by omega))) rfl
 rw [e1] at c0
 exact ⟨g, cap, _, _, _, by rw [hl], c0, c1, e2⟩
end
end Go.Proofs.YtkagolpnaicdoaaGreatDoor
