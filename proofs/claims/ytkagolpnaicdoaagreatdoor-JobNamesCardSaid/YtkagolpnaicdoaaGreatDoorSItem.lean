/-
 Items: a cell, and where it stands; how they stand; the last one of each coordinate, in order: there is just one such list. Lists of items, sorted on a stretch; an exchange of two; insertion: plain. Heaps of lists of items, by their first ones; merging: plain.
-/
import Derived.Test.YtkagolpnaicdoaaGreatDoorSCellShown
import Derived.Test.YtkagolpnaicdoaaGreatDoorSBuild
set_option maxRecDepth 100000
set_option maxHeartbeats 8000000
namespace Go.Proofs.YtkagolpnaicdoaaGreatDoor
section
open Go.Lib
structure Itm where
 c : Cel
 pos : Nat
structure ItmOK (x : Itm) : Prop where
 c : CelOK x.c
 pos : x.pos < 9223372036854775808
def keyI (x : Itm) : Cel := { x.c with seq := x.pos }
def crdI (x : Itm) : Cel := { x.c with seq := 0 }
def cmpI (x y : Itm) : Int := cmpC (keyI x) (keyI y)
def cmpK (x y : Itm) : Int := cmpC (crdI x) (crdI y)
def sameI (x y : Itm) : Bool := sameC x.c y.c
theorem keyI_ok {x : Itm} (h : ItmOK x) : CelOK (keyI x) := ⟨h.c.ts, by have := h.pos; show x.pos < _; omega, h.c.row, h.c.col, h.c.val⟩
theorem crdI_ok {x : Itm} (h : ItmOK x) : CelOK (crdI x) := ⟨h.c.ts, by show 0 < _; decide, h.c.row, h.c.col, h.c.val⟩
theorem cmpI_self {x : Itm} (h : ItmOK x) : cmpI x x = 0 := cmpC_self _ (keyI_ok h)
theorem cmpI_neg {x y : Itm} (hx : ItmOK x) (hy : ItmOK y) : cmpI y x = - cmpI x y := cmpC_neg _ _ (keyI_ok hx) (keyI_ok hy)
theorem cmpI_trans {x y z : Itm} (hx : ItmOK x) (hy : ItmOK y) (hz : ItmOK z) (h1 : cmpI x y ≤ 0) (h2 : cmpI y z ≤ 0) : cmpI x z ≤ 0 := cmpC_trans _ _ _ (keyI_ok hx) (keyI_ok hy) (keyI_ok hz) h1 h2
theorem cmpI_range {x y : Itm} (hx : ItmOK x) (hy : ItmOK y) : cmpI x y = -1 ∨ cmpI x y = 0 ∨ cmpI x y = 1 := cmpC_range _ _ (keyI_ok hx) (keyI_ok hy)
theorem cmpK_self {x : Itm} (h : ItmOK x) : cmpK x x = 0 := cmpC_self _ (crdI_ok h)
theorem cmpK_neg {x y : Itm} (hx : ItmOK x) (hy : ItmOK y) : cmpK y x = - cmpK x y := cmpC_neg _ _ (crdI_ok hx) (crdI_ok hy)
theorem cmpK_trans {x y z : Itm} (hx : ItmOK x) (hy : ItmOK y) (hz : ItmOK z) (h1 : cmpK x y ≤ 0) (h2 : cmpK y z ≤ 0) : cmpK x z ≤ 0 := cmpC_trans _ _ _ (crdI_ok hx) (crdI_ok hy) (crdI_ok hz) h1 h2
theorem firstN4 (a b c d : Int) : firstN [a, b, c, d] = if a ≠ 0 then a else if b ≠ 0 then b else if c ≠ 0 then c else d := by
 unfold firstN
 split
 ·rfl
 ·unfold firstN
  split
  ·rfl
  ·unfold firstN
   split
   ·rfl
   ·unfold firstN
    split
    ·rfl
    ·unfold firstN; omega
theorem cmpI_cases (x y : Itm) : (cmpK x y ≠ 0 ∧ cmpI x y = cmpK x y) ∨ (cmpK x y = 0 ∧ cmpI x y = cmpN y.pos x.pos) := by
 unfold cmpI cmpK cmpC keyI crdI
 simp only
 rw [firstN4, firstN4, cmpN_self 0]
 by_cases h1 : cmpS x.c.row y.c.row = 0
 ·by_cases h2 : cmpS x.c.col y.c.col = 0
  ·by_cases h3 : cmpN y.c.ts x.c.ts = 0
   ·right; simp [h1, h2, h3]
   ·left; simp [h1, h2, h3]
  ·left; simp [h1, h2]
 ·left; simp [h1]
theorem cmpS_zero {a b : ByteArray} (h : cmpS a b = 0) : a = b := by
 have := cb_eq h
 obtain ⟨⟨a⟩⟩ := a
 obtain ⟨⟨b⟩⟩ := b
 simpa using this
theorem cmpS_self (a : ByteArray) : cmpS a a = 0 := cb_refl _
theorem toList_injI {a b : ByteArray} (h : a.toList = b.toList) : a = b := by
 rw [ByteArray.toList_eq, ByteArray.toList_eq] at h
 obtain ⟨⟨a⟩⟩ := a
 obtain ⟨⟨b⟩⟩ := b
 simpa using h
theorem sameC_iff (a b : Cel) : sameC a b = true ↔ a.row = b.row ∧ a.col = b.col ∧ a.ts = b.ts := by
 unfold sameC
 simp only [Bool.and_eq_true, beq_iff_eq]
 exact ⟨fun ⟨h1, h2, h3⟩ => ⟨toList_injI h1, toList_injI h2, by exact_mod_cast h3⟩, fun ⟨h1, h2, h3⟩ => ⟨by rw [h1], by rw [h2], by rw [h3]⟩⟩
theorem sameI_iff (x y : Itm) : sameI x y = true ↔ cmpK x y = 0 := by
 unfold sameI
 rw [sameC_iff]
 unfold cmpK cmpC crdI
 simp only
 rw [firstN4, cmpN_self 0]
 constructor
 ·rintro ⟨h1, h2, h3⟩
  rw [h1, h2, h3, cmpS_self, cmpS_self, cmpN_self]
  decide
 ·intro h
  by_cases h1 : cmpS x.c.row y.c.row = 0
  ·by_cases h2 : cmpS x.c.col y.c.col = 0
   ·by_cases h3 : cmpN y.c.ts x.c.ts = 0
    ·exact ⟨cmpS_zero h1, cmpS_zero h2, (cmpN_zero h3).symm⟩
    ·rw [if_neg (by simp [h1]), if_neg (by simp [h2]), if_pos h3] at h; exact absurd h h3
   ·rw [if_neg (by simp [h1]), if_pos h2] at h; exact absurd h h2
  ·rw [if_pos h1] at h; exact absurd h h1
theorem sameI_false (x y : Itm) : sameI x y = false ↔ cmpK x y ≠ 0 := by
 rw [← Bool.not_eq_true, sameI_iff]
theorem sameI_comm (x y : Itm) : sameI x y = sameI y x := by
 rw [Bool.eq_iff_iff]
 unfold sameI
 rw [sameC_iff, sameC_iff]
 exact ⟨fun ⟨h1, h2, h3⟩ => ⟨h1.symm, h2.symm, h3.symm⟩, fun ⟨h1, h2, h3⟩ => ⟨h1.symm, h2.symm, h3.symm⟩⟩
theorem sameI_self (x : Itm) : sameI x x = true := by unfold sameI; rw [sameC_iff]; exact ⟨rfl, rfl, rfl⟩
theorem sameI_trans {x y z : Itm} (h1 : sameI x y = true) (h2 : sameI y z = true) : sameI x z = true := by
 unfold sameI at *
 rw [sameC_iff] at *
 exact ⟨h1.1.trans h2.1, h1.2.1.trans h2.2.1, h1.2.2.trans h2.2.2⟩
theorem cmpK_same {x y : Itm} (z : Itm) (h : sameI x y = true) : cmpK x z = cmpK y z := by
 unfold sameI at h
 rw [sameC_iff] at h
 unfold cmpK cmpC crdI
 simp only
 rw [h.1, h.2.1, h.2.2]
theorem cmpI_zero {x y : Itm} (h : cmpI x y = 0) : sameI x y = true ∧ x.pos = y.pos := by
 rcases cmpI_cases x y with ⟨h1, h2⟩ | ⟨h1, h2⟩
 ·exact absurd (h2.symm.trans h) h1
 ·exact ⟨(sameI_iff x y).2 h1, (cmpN_zero (h2.symm.trans h)).symm⟩
theorem cmpI_le {x y : Itm} (h : cmpI x y ≤ 0) : cmpK x y ≤ 0 := by
 rcases cmpI_cases x y with ⟨_, h2⟩ | ⟨h1, _⟩ <;> omega
theorem cmpI_pos {x y : Itm} (h : cmpI x y < 0) (hs : sameI x y = true) : y.pos < x.pos := by
 rcases cmpI_cases x y with ⟨h1, _⟩ | ⟨_, h2⟩
 ·exact absurd ((sameI_iff x y).1 hs) h1
 ·rw [h2] at h
  unfold cmpN at h
  split at h
  ·assumption
  ·split at h <;> omega
theorem cmpK_lt_trans {x y z : Itm} (hx : ItmOK x) (hy : ItmOK y) (hz : ItmOK z) (h1 : cmpK x y < 0) (h2 : cmpK y z ≤ 0) : cmpK x z < 0 := by
 have h3 := cmpK_trans hx hy hz (by omega) h2
 by_cases h : cmpK x z = 0
 ·have hs := (sameI_iff x z).2 h
  have := cmpK_same y hs
  have := cmpK_neg hy hz
  omega
 ·omega
def RisK (l : List Itm) : Prop := l.Pairwise fun x y => cmpK x y < 0
def RisI (l : List Itm) : Prop := l.Pairwise fun x y => cmpI x y < 0
def OneI (l : List Itm) : Prop := ∀ x ∈ l, ∀ y ∈ l, sameI x y = true → x.pos = y.pos → x = y
structure IsRes (all r : List Itm) : Prop where
 ris : RisK r
 sub : ∀ x ∈ r, x ∈ all
 last : ∀ x ∈ r, ∀ y ∈ all, sameI x y = true → y.pos ≤ x.pos
 cov : ∀ y ∈ all, ∃ x ∈ r, sameI x y = true
theorem IsRes.mem {all r r' : List Itm} (h : IsRes all r) (h' : IsRes all r') (ho : OneI all) {x : Itm} (hx : x ∈ r) : x ∈ r' := by
 obtain ⟨z, hz, hs⟩ := h'.cov x (h.sub x hx)
 have h1 := h'.last z hz x (h.sub x hx) hs
 have h2 := h.last x hx z (h'.sub z hz) (by rw [sameI_comm]; exact hs)
 have := ho z (h'.sub z hz) x (h.sub x hx) hs (by omega)
 rw [← this]; exact hz
theorem RisK.irr {l : List Itm} {x : Itm} (h : RisK (x :: l)) (hx : ItmOK x) : x ∉ l := fun hm => by
 have := (List.pairwise_cons.1 h).1 x hm
 rw [cmpK_self hx] at this
 omega
theorem RisK.unique : ∀ {l m : List Itm}, (∀ x ∈ l, ItmOK x) → (∀ x ∈ m, ItmOK x) → RisK l → RisK m → (∀ x, x ∈ l ↔ x ∈ m) → l = m
 |[], [], _, _, _, _, _ => rfl
 |[], y :: m, _, _, _, _, h => absurd ((h y).2 List.mem_cons_self) List.not_mem_nil
 |x :: l, [], _, _, _, _, h => absurd ((h x).1 List.mem_cons_self) List.not_mem_nil
 |x :: l, y :: m, ol, om, hl, hm, h => by
  have ox := ol x List.mem_cons_self
  have oy := om y List.mem_cons_self
  have hxy : x = y := by
   rcases List.mem_cons.1 ((h x).1 List.mem_cons_self) with e | e
   ·exact e
   ·rcases List.mem_cons.1 ((h y).2 List.mem_cons_self) with e2 | e2
    ·exact e2.symm
    ·have h1 := (List.pairwise_cons.1 hm).1 x e
     have h2 := (List.pairwise_cons.1 hl).1 y e2
     rw [cmpK_neg oy ox] at h2
     omega
  subst hxy
  congr 1
  refine RisK.unique (fun z hz => ol z (List.mem_cons_of_mem _ hz)) (fun z hz => om z (List.mem_cons_of_mem _ hz)) (List.pairwise_cons.1 hl).2 (List.pairwise_cons.1 hm).2 fun z => ?_
  constructor
  ·intro hz
   rcases List.mem_cons.1 ((h z).1 (List.mem_cons_of_mem _ hz)) with e | e
   ·rw [e] at hz; exact absurd hz (RisK.irr hl ox)
   ·exact e
  ·intro hz
   rcases List.mem_cons.1 ((h z).2 (List.mem_cons_of_mem _ hz)) with e | e
   ·rw [e] at hz; exact absurd hz (RisK.irr hm ox)
   ·exact e
theorem IsRes.unique {all r r' : List Itm} (hok : ∀ x ∈ all, ItmOK x) (ho : OneI all) (h : IsRes all r) (h' : IsRes all r') : r = r' :=
 RisK.unique (fun x hx => hok x (h.sub x hx)) (fun x hx => hok x (h'.sub x hx)) h.ris h'.ris fun _ => ⟨fun hx => h.mem h' ho hx, fun hx => h'.mem h ho hx⟩
theorem IsRes.nil : IsRes [] [] := ⟨List.Pairwise.nil, fun _ h => absurd h List.not_mem_nil, fun _ h => absurd h List.not_mem_nil, fun _ h => absurd h List.not_mem_nil⟩
theorem IsRes.cover {all r : List Itm} (h : IsRes all r) : ∀ y ∈ all, ∃ x ∈ r, sameI x y = true ∧ y.pos ≤ x.pos := fun y hy => by
 obtain ⟨x, hx, hs⟩ := h.cov y hy
 exact ⟨x, hx, hs, h.last x hx y hy hs⟩
def zeroI : Itm := ⟨zeroC, 0⟩
def keepI (l : List Itm) (j : Nat) : Bool := decide (j = 0 ∨ sameI (l.getD j zeroI) (l.getD (j - 1) zeroI) = false)
def compI (l : List Itm) (m : Nat) : List Itm := ((List.range m).filter (keepI l)).map fun j => l.getD j zeroI
theorem compI_succ (l : List Itm) (m : Nat) : compI l (m + 1) = compI l m ++ (if keepI l m = true then [l.getD m zeroI] else []) := by
 unfold compI
 rw [List.range_succ, List.filter_append, List.map_append]
 congr 1
 by_cases h : keepI l m = true <;> simp [h]
theorem getI (l : List Itm) {k : Nat} (h : k < l.length) : l.getD k zeroI = l[k] := by
 rw [List.getD_eq_getElem?_getD, List.getElem?_eq_getElem h]; rfl
theorem RisI.before {l : List Itm} (h : RisI l) {i j : Nat} (hij : i < j) (hj : j < l.length) : cmpI (l[i]'(by omega)) l[j] < 0 := by
 have := List.pairwise_iff_getElem.1 h i j (by omega) hj hij
 exact this
theorem mem_takeI {l : List Itm} {m : Nat} {x : Itm} (h : x ∈ l.take m) (hm : m ≤ l.length) : ∃ i, ∃ (hi : i < l.length), i < m ∧ l[i] = x := by
 obtain ⟨i, hi, e⟩ := List.mem_iff_getElem.1 h
 rw [List.length_take] at hi
 exact ⟨i, by omega, by omega, by rw [← e, List.getElem_take]⟩
theorem comp_res {l : List Itm} (hok : ∀ x ∈ l, ItmOK x) (h : RisI l) : ∀ m, m ≤ l.length → IsRes (l.take m) (compI l m)
 |0, _ => by
  rw [List.take_zero]
  exact IsRes.nil
 |m + 1, hm => by
  have ih := comp_res hok h m (by omega)
  have hml : m < l.length := by omega
  rw [compI_succ, getI l hml]
  have ox := hok l[m] (List.getElem_mem hml)
  have before : ∀ y ∈ l.take m, cmpI y l[m] < 0 := fun y hy => by
   obtain ⟨i, hi, him, e⟩ := mem_takeI hy (by omega)
   rw [← e]
   exact h.before him hml
  have oky : ∀ y ∈ l.take m, ItmOK y := fun y hy => hok y (List.mem_of_mem_take hy)
  have htk : l.take (m + 1) = l.take m ++ [l[m]] := by rw [List.take_add_one, List.getElem?_eq_getElem hml]; rfl
  by_cases hk : keepI l m = true
  ·rw [if_pos hk]
   have hno : ∀ y ∈ l.take m, cmpK y l[m] < 0 := fun y hy => by
    obtain ⟨i, hi, him, e⟩ := mem_takeI hy (by omega)
    have hpl : m - 1 < l.length := by omega
    have op := hok l[m - 1] (List.getElem_mem hpl)
    have h1 := cmpI_le (Int.le_of_lt (before y hy))
    rcases Int.lt_or_eq_of_le h1 with h2 | h2
    ·exact h2
    ·exfalso
     have hk2 := of_decide_eq_true hk
     rcases hk2 with hk2 | hk2
     ·omega
     ·rw [getI l hml, getI l hpl, sameI_false] at hk2
      have hyp : cmpK y l[m - 1] ≤ 0 := by
       by_cases e2 : i = m - 1
       ·subst e2; rw [← e, cmpK_self op]; omega
       ·have := h.before (i := i) (j := m - 1) (by omega) hpl
        rw [e] at this
        exact cmpI_le (Int.le_of_lt this)
      have hpx : cmpK l[m - 1] l[m] ≤ 0 := cmpI_le (Int.le_of_lt (h.before (by omega) hml))
      have hs := (sameI_iff y l[m]).2 h2
      have h3 := cmpK_same l[m - 1] hs
      have h4 := cmpK_neg ox op
      omega
   rw [htk]
   refine ⟨?_, fun x hx => ?_, fun x hx y hy hs => ?_, fun y hy => ?_⟩
   ·refine List.pairwise_append.2 ⟨ih.ris, List.pairwise_singleton _ _, fun x hx y hy => ?_⟩
    rw [List.mem_singleton.1 hy]
    exact hno x (ih.sub x hx)
   ·rcases List.mem_append.1 hx with hx | hx
    ·exact List.mem_append_left _ (ih.sub x hx)
    ·exact List.mem_append_right _ hx
   ·rcases List.mem_append.1 hx with hx | hx
    ·rcases List.mem_append.1 hy with hy | hy
     ·exact ih.last x hx y hy hs
     ·rw [List.mem_singleton.1 hy] at hs
      have := hno x (ih.sub x hx)
      have := (sameI_iff _ _).1 hs
      omega
    ·rw [List.mem_singleton.1 hx] at hs ⊢
     rcases List.mem_append.1 hy with hy | hy
     ·have := hno y hy
      have := (sameI_iff _ _).1 ((sameI_comm _ _).trans hs)
      omega
     ·rw [List.mem_singleton.1 hy]; exact Nat.le_refl _
   ·rcases List.mem_append.1 hy with hy | hy
    ·obtain ⟨x, hx, hs⟩ := ih.cov y hy
     exact ⟨x, List.mem_append_left _ hx, hs⟩
    ·rw [List.mem_singleton.1 hy]
     exact ⟨l[m], List.mem_append_right _ (List.mem_singleton.2 rfl), sameI_self _⟩
  ·rw [if_neg hk, List.append_nil, htk]
   have hk1 : ¬ (m = 0 ∨ sameI (l.getD m zeroI) (l.getD (m - 1) zeroI) = false) := fun e => hk (decide_eq_true e)
   have hm0 : m ≠ 0 := fun e => hk1 (Or.inl e)
   have hpl : m - 1 < l.length := by omega
   have hs : sameI l[m] l[m - 1] = true := by
    have : ¬ sameI (l.getD m zeroI) (l.getD (m - 1) zeroI) = false := fun e => hk1 (Or.inr e)
    rw [getI l hml, getI l hpl] at this
    simpa using this
   have hpm : l[m - 1] ∈ l.take m := by
    refine List.mem_iff_getElem.2 ⟨m - 1, by rw [List.length_take]; omega, by rw [List.getElem_take]⟩
   refine ⟨ih.ris, fun x hx => List.mem_append_left _ (ih.sub x hx), fun x hx y hy hs2 => ?_, fun y hy => ?_⟩
   ·rcases List.mem_append.1 hy with hy | hy
    ·exact ih.last x hx y hy hs2
    ·rw [List.mem_singleton.1 hy] at hs2 ⊢
     exact Nat.le_of_lt (cmpI_pos (before x (ih.sub x hx)) hs2)
   ·rcases List.mem_append.1 hy with hy | hy
    ·exact ih.cov y hy
    ·obtain ⟨x, hx, hs3⟩ := ih.cov l[m - 1] hpm
     rw [List.mem_singleton.1 hy]
     exact ⟨x, hx, sameI_trans hs3 (by rw [sameI_comm]; exact hs)⟩
theorem comp_all {l : List Itm} (hok : ∀ x ∈ l, ItmOK x) (h : RisI l) : IsRes l (compI l l.length) := by
 have := comp_res hok h l.length (Nat.le_refl _)
 rw [List.take_length] at this
 exact this
end
section
def atI (l : List Itm) (k : Nat) : Itm := l.getD k zeroI
theorem atI_get {l : List Itm} {k : Nat} (h : k < l.length) : atI l k = l[k] := getI l h
def LeI (x y : Itm) : Prop := cmpI x y ≤ 0
def SortOn (l : List Itm) (a b : Nat) : Prop := ∀ p q, a ≤ p → p < q → q < b → LeI (atI l p) (atI l q)
def AllOK (l : List Itm) : Prop := ∀ x ∈ l, ItmOK x
theorem zeroI_ok : ItmOK zeroI := ⟨⟨by decide, by decide, by decide, by decide, by decide⟩, by decide⟩
theorem AllOK.at {l : List Itm} (h : AllOK l) (k : Nat) : ItmOK (atI l k) := by
 unfold atI
 rw [List.getD_eq_getElem?_getD]
 cases e : l[k]? with
 |none => exact zeroI_ok
 |some x => exact h x (List.mem_of_getElem? e)
theorem LeI.trans {x y z : Itm} (hx : ItmOK x) (hy : ItmOK y) (hz : ItmOK z) (h1 : LeI x y) (h2 : LeI y z) : LeI x z := cmpI_trans hx hy hz h1 h2
theorem LeI.not {x y : Itm} (hx : ItmOK x) (hy : ItmOK y) (h : ¬ cmpI x y < 0) : LeI y x := by
 unfold LeI
 have := cmpI_neg hx hy
 omega
theorem LeI.lt {x y : Itm} (h : cmpI x y < 0) : LeI x y := by unfold LeI; omega
def swapL (l : List Itm) (i j : Nat) : List Itm := (l.set i (atI l j)).set j (atI l i)
theorem atI_set (l : List Itm) (i k : Nat) (x : Itm) (h : i < l.length) : atI (l.set i x) k = if k = i then x else atI l k := by
 unfold atI
 rw [List.getD_eq_getElem?_getD, List.getElem?_set, List.getD_eq_getElem?_getD]
 by_cases e : i = k
 ·subst e; rw [if_pos rfl, if_pos h, if_pos rfl]; rfl
 ·rw [if_neg e, if_neg (Ne.symm e)]
theorem atI_swap {l : List Itm} {i j : Nat} (k : Nat) (hi : i < l.length) (hj : j < l.length) : atI (swapL l i j) k = if k = j then atI l i else if k = i then atI l j else atI l k := by
 unfold swapL
 rw [atI_set _ _ _ _ (by rw [List.length_set]; exact hj), atI_set _ _ _ _ hi]
theorem swapL_perm {l : List Itm} {i j : Nat} (hi : i < l.length) (hj : j < l.length) : (swapL l i j).Perm l := by
 have h := Array.swap_perm (xs := l.toArray) (i := i) (j := j) (by simpa using hi) (by simpa using hj)
 have h2 := Array.perm_iff_toList_perm.1 h
 have e : (l.toArray.swap i j (by simpa using hi) (by simpa using hj)).toList = swapL l i j := by
  unfold swapL
  rw [atI_get hi, atI_get hj]
  simp [Array.swap]
 rw [e] at h2
 exact h2
structure Turned (a b : Nat) (l l' : List Itm) : Prop where
 perm : l'.Perm l
 out : ∀ p, p < a ∨ b ≤ p → atI l' p = atI l p
 inn : ∀ p, a ≤ p → p < b → ∃ q, a ≤ q ∧ q < b ∧ atI l' p = atI l q
theorem Turned.refl (a b : Nat) (l : List Itm) : Turned a b l l := ⟨List.Perm.refl _, fun _ _ => rfl, fun p h1 h2 => ⟨p, h1, h2, rfl⟩⟩
theorem Turned.len {a b : Nat} {l l' : List Itm} (h : Turned a b l l') : l'.length = l.length := h.perm.length_eq
theorem Turned.ok {a b : Nat} {l l' : List Itm} (h : Turned a b l l') (ho : AllOK l) : AllOK l' := fun x hx => ho x (h.perm.mem_iff.1 hx)
theorem Turned.trans {a b : Nat} {l m r : List Itm} (h1 : Turned a b l m) (h2 : Turned a b m r) : Turned a b l r := by
 refine ⟨h2.perm.trans h1.perm, fun p hp => (h2.out p hp).trans (h1.out p hp), fun p ha hb => ?_⟩
 obtain ⟨q, q1, q2, e⟩ := h2.inn p ha hb
 obtain ⟨r, r1, r2, e2⟩ := h1.inn q q1 q2
 exact ⟨r, r1, r2, e.trans e2⟩
theorem Turned.wide {a b a' b' : Nat} {l m : List Itm} (h : Turned a b l m) (ha : a' ≤ a) (hb : b ≤ b') : Turned a' b' l m := by
 refine ⟨h.perm, fun p hp => h.out p (by omega), fun p hp1 hp2 => ?_⟩
 by_cases hp : a ≤ p ∧ p < b
 ·obtain ⟨q, q1, q2, e⟩ := h.inn p hp.1 hp.2
  exact ⟨q, by omega, by omega, e⟩
 ·exact ⟨p, hp1, hp2, h.out p (by omega)⟩
theorem Turned.swap {a b i j : Nat} {l : List Itm} (hi : i < l.length) (hj : j < l.length) (h1 : a ≤ i) (h2 : i < b) (h3 : a ≤ j) (h4 : j < b) : Turned a b l (swapL l i j) := by
 refine ⟨swapL_perm hi hj, fun p hp => ?_, fun p ha hb => ?_⟩
 ·rw [atI_swap p hi hj, if_neg (by omega), if_neg (by omega)]
 ·rw [atI_swap p hi hj]
  by_cases e : p = j
  ·rw [if_pos e]; exact ⟨i, h1, h2, rfl⟩
  ·rw [if_neg e]
   by_cases e2 : p = i
   ·rw [if_pos e2]; exact ⟨j, h3, h4, rfl⟩
   ·rw [if_neg e2]; exact ⟨p, ha, hb, rfl⟩
def SortBut (l : List Itm) (a b j : Nat) : Prop := ∀ p q, a ≤ p → p < q → q < b → q ≠ j → LeI (atI l p) (atI l q)
theorem SortOn.but {l : List Itm} {a i : Nat} (h : SortOn l a i) : SortBut l a (i + 1) i := fun p q h1 h2 h3 h4 => h p q h1 h2 (by omega)
theorem SortBut.done {l : List Itm} {a b j : Nat} (ho : AllOK l) (h : SortBut l a b j) (hj : j = a ∨ LeI (atI l (j - 1)) (atI l j)) (ha : a ≤ j) : SortOn l a b := by
 intro p q h1 h2 h3
 by_cases e : q = j
 ·subst e
  rcases hj with rfl | hj
  ·omega
  ·by_cases e2 : p = q - 1
   ·subst e2; exact hj
   ·exact LeI.trans (ho.at _) (ho.at _) (ho.at _) (h p (q - 1) h1 (by omega) (by omega) (by omega)) hj
 ·exact h p q h1 h2 h3 e
theorem SortBut.step {l : List Itm} {a b j : Nat} (h : SortBut l a b j) (hb : b ≤ l.length) (hj : a < j) (hjb : j < b) (hlt : LeI (atI l j) (atI l (j - 1))) : SortBut (swapL l j (j - 1)) a b (j - 1) := by
 intro p q h1 h2 h3 h4
 have hjl : j < l.length := by omega
 have hjl1 : j - 1 < l.length := by omega
 rw [atI_swap p hjl hjl1, atI_swap q hjl hjl1]
 rw [if_neg h4]
 by_cases e : q = j
 ·rw [if_pos e]
  by_cases e2 : p = j - 1
  ·rw [if_pos e2]; exact hlt
  ·rw [if_neg e2, if_neg (by omega)]
   exact h p (j - 1) h1 (by omega) (by omega) (by omega)
 ·rw [if_neg e]
  by_cases e2 : p = j - 1
  ·rw [if_pos e2]; exact h j q (by omega) (by omega) h3 e
  ·rw [if_neg e2]
   by_cases e3 : p = j
   ·rw [if_pos e3]; exact h (j - 1) q (by omega) (by omega) h3 e
   ·rw [if_neg e3]; exact h p q h1 h2 h3 e
theorem SortOn.one (l : List Itm) (a : Nat) : SortOn l a (a + 1) := fun p q h1 h2 h3 => by omega
theorem SortOn.frame {l l' : List Itm} {a b : Nat} (h : SortOn l a b) (he : ∀ p, a ≤ p → p < b → atI l' p = atI l p) : SortOn l' a b := fun p q h1 h2 h3 => by
 rw [he p h1 (by omega), he q (by omega) h3]
 exact h p q h1 h2 h3
theorem SortOn.rising {l : List Itm} (h : SortOn l 0 l.length) (hn : (l.map (·.pos)).Nodup) : RisI l := by
 refine List.pairwise_iff_getElem.2 fun i j hi hj hij => ?_
 have h1 := h i j (Nat.zero_le _) hij hj
 rw [atI_get hi, atI_get hj] at h1
 unfold LeI at h1
 rcases Int.lt_or_eq_of_le h1 with h2 | h2
 ·exact h2
 ·exfalso
  have hp := (cmpI_zero h2).2
  have := (List.pairwise_iff_getElem.1 hn) i j (by simpa using hi) (by simpa using hj) hij
  rw [List.getElem_map, List.getElem_map] at this
  exact this hp
end
section
structure UpBut (k : List Itm) (n j : Nat) : Prop where
 par : ∀ i, 0 < i → i < n → i ≠ j → LeI (atI k ((i - 1) / 2)) (atI k i)
 grand : ∀ i, 0 < i → i < n → 0 < j → (i - 1) / 2 = j → LeI (atI k ((j - 1) / 2)) (atI k i)
def HeapOn (k : List Itm) (n : Nat) : Prop := ∀ i, 0 < i → i < n → LeI (atI k ((i - 1) / 2)) (atI k i)
theorem UpBut.done {k : List Itm} {n j : Nat} (h : UpBut k n j) (hj : j = 0 ∨ LeI (atI k ((j - 1) / 2)) (atI k j)) : HeapOn k n := by
 intro i h1 h2
 by_cases e : i = j
 ·subst e
  rcases hj with h3 | h3
  ·omega
  ·exact h3
 ·exact h.par i h1 h2 e
theorem UpBut.step {k : List Itm} {n j : Nat} (ho : AllOK k) (h : UpBut k n j) (hn : n ≤ k.length) (h0 : 0 < j) (hj : j < n) (hlt : LeI (atI k j) (atI k ((j - 1) / 2))) : UpBut (swapL k ((j - 1) / 2) j) n ((j - 1) / 2) := by
 obtain ⟨p, hp⟩ : ∃ p, (j - 1) / 2 = p := ⟨_, rfl⟩
 rw [hp] at hlt ⊢
 have hpj : p < j := by omega
 have hpl : p < k.length := by omega
 have hjl : j < k.length := by omega
 refine ⟨fun i h1 h2 h3 => ?_, fun i h1 h2 h3 h4 => ?_⟩
 ·rw [atI_swap _ hpl hjl, atI_swap i hpl hjl]
  by_cases e1 : i = j
  ·subst e1
   rw [hp, if_neg (by omega), if_pos rfl, if_pos rfl]
   exact hlt
  ·rw [if_neg e1, if_neg h3]
   by_cases e2 : (i - 1) / 2 = j
   ·rw [if_pos e2]
    have := h.grand i h1 h2 h0 e2
    rw [hp] at this
    exact this
   ·rw [if_neg e2]
    by_cases e3 : (i - 1) / 2 = p
    ·rw [if_pos e3]
     have h5 := h.par i h1 h2 e1
     rw [e3] at h5
     exact LeI.trans (ho.at _) (ho.at _) (ho.at _) hlt h5
    ·rw [if_neg e3]
     exact h.par i h1 h2 e1
 ·have h6 : LeI (atI k ((p - 1) / 2)) (atI k p) := h.par p h3 (by omega) (by omega)
  rw [atI_swap _ hpl hjl, atI_swap i hpl hjl, if_neg (by omega), if_neg (by omega)]
  by_cases e1 : i = j
  ·rw [if_pos e1]
   exact h6
  ·rw [if_neg e1, if_neg (by omega)]
   have h5 := h.par i h1 h2 e1
   rw [h4] at h5
   exact LeI.trans (ho.at _) (ho.at _) (ho.at _) h6 h5
structure DownBut (k : List Itm) (n i : Nat) : Prop where
 par : ∀ c, 0 < c → c < n → (c - 1) / 2 ≠ i → LeI (atI k ((c - 1) / 2)) (atI k c)
 grand : ∀ c, 0 < c → c < n → (c - 1) / 2 = i → 0 < i → LeI (atI k ((i - 1) / 2)) (atI k c)
theorem DownBut.done {k : List Itm} {n i : Nat} (h : DownBut k n i) (hc : ∀ c, 0 < c → c < n → (c - 1) / 2 = i → LeI (atI k i) (atI k c)) : HeapOn k n := by
 intro c h1 h2
 by_cases e : (c - 1) / 2 = i
 ·rw [e]; exact hc c h1 h2 e
 ·exact h.par c h1 h2 e
theorem DownBut.step {k : List Itm} {n i j : Nat} (h : DownBut k n i) (hn : n ≤ k.length) (hj0 : 0 < j) (hj : j < n) (hp : (j - 1) / 2 = i) (hmin : ∀ c, 0 < c → c < n → (c - 1) / 2 = i → LeI (atI k j) (atI k c)) (hlt : LeI (atI k j) (atI k i)) : DownBut (swapL k i j) n j := by
 have hij : i < j := by omega
 have hil : i < k.length := by omega
 have hjl : j < k.length := by omega
 refine ⟨fun c h1 h2 h3 => ?_, fun c h1 h2 h3 h4 => ?_⟩
 ·rw [atI_swap _ hil hjl, atI_swap c hil hjl, if_neg h3]
  by_cases e1 : (c - 1) / 2 = i
  ·rw [if_pos e1]
   by_cases e2 : c = j
   ·rw [if_pos e2]; exact hlt
   ·rw [if_neg e2, if_neg (by omega)]; exact hmin c h1 h2 e1
  ·rw [if_neg e1]
   by_cases e2 : c = j
   ·subst e2; exact absurd hp e1
   ·rw [if_neg e2]
    by_cases e3 : c = i
    ·rw [if_pos e3]
     have := h.grand j hj0 hj hp (by omega)
     rw [e3]
     exact this
    ·rw [if_neg e3]; exact h.par c h1 h2 e1
 ·rw [hp, atI_swap _ hil hjl, atI_swap c hil hjl, if_neg (by omega), if_pos rfl, if_neg (by omega), if_neg (by omega)]
  have h5 := h.par c h1 h2 (by omega)
  rw [h3] at h5
  exact h5
theorem HeapOn.root {k : List Itm} {n : Nat} (ho : AllOK k) (h : HeapOn k n) : ∀ i, i < n → LeI (atI k 0) (atI k i) := by
 intro i
 induction i using Nat.strongRecOn with
 |_ i ih =>
  intro hi
  by_cases e : i = 0
  ·subst e; exact Int.le_of_eq (cmpI_self (ho.at _))
  ·exact LeI.trans (ho.at _) (ho.at _) (ho.at _) (ih ((i - 1) / 2) (by omega) (by omega)) (h i (by omega) hi)
theorem HeapOn.pop {k : List Itm} {n : Nat} (h : HeapOn k (n + 1)) (hn : k.length = n + 1) : DownBut (swapL k 0 n) n 0 := by
 refine ⟨fun c h1 h2 h3 => ?_, fun c h1 h2 h3 h4 => absurd h4 (Nat.lt_irrefl _)⟩
 rw [atI_swap _ (by omega) (by omega), atI_swap c (by omega) (by omega), if_neg (by omega), if_neg h3, if_neg (by omega), if_neg (by omega)]
 exact h c h1 (by omega)
theorem HeapOn.push {k : List Itm} (x : Itm) (h : HeapOn k k.length) : UpBut (k ++ [x]) (k.length + 1) k.length := by
 have A : ∀ i, i < k.length → atI (k ++ [x]) i = atI k i := fun i hi => by unfold atI; rw [List.getD_eq_getElem?_getD, List.getElem?_append_left hi, List.getD_eq_getElem?_getD]
 refine ⟨fun i h1 h2 h3 => ?_, fun i h1 h2 h3 h4 => by omega⟩
 rw [A _ (by omega), A _ (by omega)]
 exact h i h1 (by omega)
theorem HeapOn.frame {k k' : List Itm} {n : Nat} (h : HeapOn k n) (he : ∀ i, i < n → atI k' i = atI k i) : HeapOn k' n := fun i h1 h2 => by
 rw [he _ (by omega), he _ h2]
 exact h i h1 h2
theorem sameI_pos {x y : Itm} (h : LeI x y) (hs : sameI x y = true) : y.pos ≤ x.pos := by
 unfold LeI at h
 rcases Int.lt_or_eq_of_le h with h1 | h1
 ·exact Nat.le_of_lt (cmpI_pos h1 hs)
 ·rw [(cmpI_zero h1).2]; exact Nat.le_refl _
structure Merged (done out : List Itm) : Prop where
 res : IsRes done out
theorem Merged.nil : Merged [] [] := ⟨IsRes.nil⟩
theorem getLastD_mem {l : List Itm} (h : 0 < l.length) : atI l (l.length - 1) ∈ l := by
 rw [atI_get (by omega)]
 exact List.getElem_mem _
theorem RisK.last {l : List Itm} (h : RisK l) {x : Itm} (hx : x ∈ l) : x = atI l (l.length - 1) ∨ cmpK x (atI l (l.length - 1)) < 0 := by
 obtain ⟨i, hi, e⟩ := List.mem_iff_getElem.1 hx
 rw [atI_get (by omega)]
 by_cases h1 : i = l.length - 1
 ·left; subst h1; exact e.symm
 ·right
  rw [← e]
  exact List.pairwise_iff_getElem.1 h i (l.length - 1) hi (by omega) (by omega)
theorem Merged.skip {done out : List Itm} {x : Itm} (h : Merged done out) (hle : ∀ y ∈ done, LeI y x) (h0 : 0 < out.length) (hs : sameI (atI out (out.length - 1)) x = true) : Merged (done ++ [x]) out := by
 have hl := getLastD_mem h0
 refine ⟨⟨h.res.ris, fun y hy => List.mem_append_left _ (h.res.sub y hy), fun y hy z hz hyz => ?_, fun y hy => ?_⟩⟩
 ·rcases List.mem_append.1 hz with hz | hz
  ·exact h.res.last y hy z hz hyz
  ·rw [List.mem_singleton.1 hz] at hyz ⊢
   exact sameI_pos (hle y (h.res.sub y hy)) hyz
 ·rcases List.mem_append.1 hy with hy | hy
  ·exact h.res.cov y hy
  ·rw [List.mem_singleton.1 hy]
   exact ⟨_, hl, hs⟩
theorem Merged.take {done out : List Itm} {x : Itm} (hok : AllOK done) (hx : ItmOK x) (h : Merged done out) (hle : ∀ y ∈ done, LeI y x) (hs : out.length = 0 ∨ sameI (atI out (out.length - 1)) x = false) : Merged (done ++ [x]) (out ++ [x]) := by
 have hlt : ∀ y ∈ out, cmpK y x < 0 := fun y hy => by
  have h0 : 0 < out.length := List.length_pos_of_mem hy
  have hl := getLastD_mem h0
  have hs2 : sameI (atI out (out.length - 1)) x = false := hs.resolve_left (by omega)
  rw [sameI_false] at hs2
  have h1 : cmpK (atI out (out.length - 1)) x < 0 := by
   have := cmpI_le (hle _ (h.res.sub _ hl))
   omega
  rcases h.res.ris.last hy with e | e
  ·rw [e]; exact h1
  ·exact cmpK_lt_trans (hok y (h.res.sub y hy)) (hok _ (h.res.sub _ hl)) hx e (by omega)
 refine ⟨⟨?_, fun y hy => ?_, fun y hy z hz hyz => ?_, fun y hy => ?_⟩⟩
 ·refine List.pairwise_append.2 ⟨h.res.ris, List.pairwise_singleton _ _, fun y hy z hz => ?_⟩
  rw [List.mem_singleton.1 hz]
  exact hlt y hy
 ·rcases List.mem_append.1 hy with hy | hy
  ·exact List.mem_append_left _ (h.res.sub y hy)
  ·exact List.mem_append_right _ hy
 ·rcases List.mem_append.1 hy with hy | hy
  ·rcases List.mem_append.1 hz with hz | hz
   ·exact h.res.last y hy z hz hyz
   ·rw [List.mem_singleton.1 hz] at hyz
    have := hlt y hy
    have := (sameI_iff _ _).1 hyz
    omega
  ·rw [List.mem_singleton.1 hy] at hyz ⊢
   rcases List.mem_append.1 hz with hz | hz
   ·obtain ⟨y2, hy2, hs2⟩ := h.res.cov z hz
    have := hlt y2 hy2
    have h2 : sameI y2 x = true := sameI_trans hs2 (by rw [sameI_comm]; exact hyz)
    have := (sameI_iff _ _).1 h2
    omega
   ·rw [List.mem_singleton.1 hz]; exact Nat.le_refl _
 ·rcases List.mem_append.1 hy with hy | hy
  ·obtain ⟨z, hz, hs2⟩ := h.res.cov y hy
   exact ⟨z, List.mem_append_left _ hz, hs2⟩
  ·rw [List.mem_singleton.1 hy]
   exact ⟨x, List.mem_append_right _ (List.mem_singleton.2 rfl), sameI_self _⟩
theorem IsRes.perm {a b r : List Itm} (h : IsRes a r) (hp : ∀ x, x ∈ b ↔ x ∈ a) : IsRes b r :=
 ⟨h.ris, fun x hx => (hp x).2 (h.sub x hx), fun x hx y hy => h.last x hx y ((hp y).1 hy), fun y hy => h.cov y ((hp y).1 hy)⟩
theorem RisK.first {x : Itm} {r : List Itm} (hx : ItmOK x) (h : RisK (x :: r)) : ∀ y ∈ x :: r, LeI x y := by
 intro y hy
 rcases List.mem_cons.1 hy with e | e
 ·subst e; exact Int.le_of_eq (cmpI_self hx)
 ·have h1 := (List.pairwise_cons.1 h).1 y e
  unfold LeI
  rcases cmpI_cases x y with ⟨_, h2⟩ | ⟨h2, _⟩ <;> omega
structure RunsOK (all : List Itm) (rs : List (List Itm)) : Prop where
 ris : ∀ r ∈ rs, RisK r
 sub : ∀ r ∈ rs, ∀ x ∈ r, x ∈ all
 cov : ∀ y ∈ all, ∃ r ∈ rs, ∃ x ∈ r, sameI x y = true ∧ y.pos ≤ x.pos
theorem RisK.same {r : List Itm} (hok : AllOK r) (h : RisK r) {x y : Itm} (hx : x ∈ r) (hy : y ∈ r) (hs : sameI x y = true) : x = y := by
 obtain ⟨i, hi, ei⟩ := List.mem_iff_getElem.1 hx
 obtain ⟨j, hj, ej⟩ := List.mem_iff_getElem.1 hy
 have h0 := (sameI_iff x y).1 hs
 have h00 := cmpK_neg (hok x hx) (hok y hy)
 rcases Nat.lt_trichotomy i j with h1 | h1 | h1
 ·have := List.pairwise_iff_getElem.1 h i j hi hj h1
  rw [ei, ej] at this
  omega
 ·subst h1; rw [← ei, ← ej]
 ·have := List.pairwise_iff_getElem.1 h j i hj hi h1
  rw [ei, ej] at this
  omega
theorem RunsOK.one {all r : List Itm} (hok : AllOK all) (h : RunsOK all [r]) : IsRes all r := by
 have hor : AllOK r := fun x hx => hok x (h.sub r (List.mem_singleton.2 rfl) x hx)
 have hr := h.ris r (List.mem_singleton.2 rfl)
 refine ⟨hr, h.sub r (List.mem_singleton.2 rfl), fun x hx y hy hs => ?_, fun y hy => ?_⟩
 ·obtain ⟨r', hr', z, hz, hzs, hzp⟩ := h.cov y hy
  rw [List.mem_singleton.1 hr'] at hz
  have : z = x := hr.same hor hz hx (sameI_trans hzs (by rw [sameI_comm]; exact hs))
  rw [← this]; exact hzp
 ·obtain ⟨r', hr', z, hz, hzs, hzp⟩ := h.cov y hy
  rw [List.mem_singleton.1 hr'] at hz
  exact ⟨z, hz, hzs⟩
end
end Go.Proofs.YtkagolpnaicdoaaGreatDoor
