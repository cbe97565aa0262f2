/-
 Functions that the evaluator meets by what they are known to do: a map's keys, sorted: plain. Functions that the evaluator meets by what they are known to do: a map's keys, sorted. Functions that the evaluator meets by what they are known to do: slices.Sorted(maps.Keys(m)). Functions that the evaluator meets by what they are known to do: twice, of one cell. shown() of the law, reckoned by the kernel. shown() of the law, reckoned by the kernel. shown() of the law holds. EngineErrors: the walk, with shown() reckoned. A slice of cells that came in. What every Table law's frame needs: the laid var
-/
import Derived.Test.YtkjmgbifoaoefaaGreatDoorQEwL
import Derived.Test.YtkjmgbifoaoefaaGreatDoorQWalC
import Derived.Test.YtkjmgbifoaoefaaGreatDoorIter
import Derived.Test.YtkjmgbifoaoefaaGreatDoorQEngC
import Derived.Test.YtkjmgbifoaoefaaGreatDoorQVdOps2
import Derived.Test.YtkjmgbifoaoefaaGreatDoorQEngLaw
import Derived.Test.YtkjmgbifoaoefaaGreatDoorQTabG
import Derived.Test.YtkjmgbifoaoefaaGreatDoorQBuild
import Derived.Deep.Slices
import Derived.Deep.Fields
import Derived.ChangeSame
import Derived.Stop.LaidErr
import Derived.Lib.LaidTab
set_option maxRecDepth 100000
set_option maxHeartbeats 8000000
namespace Go.Proofs.YtkjmgbifoaoefaaGreatDoor
section
open Go.RowKit Go.Maps Go.MapKept
open Go.WideElems (Fit rd rg)
theorem sorted_one : ∀ {a b : List (List UInt8)}, a.Perm b → a.Pairwise (· ≤ ·) → b.Pairwise (· ≤ ·) → a = b
 |[], b, h, _, _ => (List.nil_perm.1 h).symm
 |x :: a, b, h, h1, h2 => by
  cases b with
  |nil => exact absurd h.length_eq (by simp)
  |cons y b =>
   have e : x = y := by
    have hx : x ∈ y :: b := h.subset (by simp)
    have hy : y ∈ x :: a := h.symm.subset (by simp)
    have k1 := List.pairwise_cons.1 h1
    have k2 := List.pairwise_cons.1 h2
    rcases List.mem_cons.1 hx with e | hx
    ·exact e
    ·rcases List.mem_cons.1 hy with e | hy
     ·exact e.symm
     ·exact List.le_antisymm (k1.1 y hy) (k2.1 x hx)
   subst e
   rw [sorted_one (List.Perm.cons_inv h) (List.pairwise_cons.1 h1).2 (List.pairwise_cons.1 h2).2]
def uL (s : List Nat) : List UInt8 := s.map UInt8.ofNat
theorem llt_lt : ∀ {a b : List Nat}, (∀ x ∈ a, x < 256) → (∀ x ∈ b, x < 256) → (llt a b = true ↔ uL a < uL b)
 |[], [], _, _ => by simp [llt, uL]
 |[], y :: b, _, _ => by simp [llt, uL]
 |x :: a, [], _, _ => by simp [llt, uL]
 |x :: a, y :: b, ha, hb => by
  have ih := llt_lt (a := a) (b := b) (fun z hz => ha z (by simp [hz])) (fun z hz => hb z (by simp [hz]))
  show (Bool.rec (Bool.rec false (llt a b) (Nat.beq x y)) true (Nat.blt x y) : Bool) = true ↔ UInt8.ofNat x :: uL a < UInt8.ofNat y :: uL b
  have hx := ha x (by simp)
  have hy := hb y (by simp)
  have e1 : UInt8.ofNat x < UInt8.ofNat y ↔ x < y := by
   rw [UInt8.lt_iff_toNat_lt, UInt8.toNat_ofNat', UInt8.toNat_ofNat', Nat.mod_eq_of_lt (by simpa using hx), Nat.mod_eq_of_lt (by simpa using hy)]
  have e2 : UInt8.ofNat x = UInt8.ofNat y ↔ x = y := by
   constructor
   ·intro e
    have := congrArg UInt8.toNat e
    rwa [UInt8.toNat_ofNat', UInt8.toNat_ofNat', Nat.mod_eq_of_lt (by simpa using hx), Nat.mod_eq_of_lt (by simpa using hy)] at this
   ·exact fun e => by rw [e]
  rw [List.cons_lt_cons_iff, e1, e2, ← ih]
  cases h1 : Nat.blt x y with
  |true => have := nblt_iff.1 h1; simp [this]
  |false =>
   have h1' : ¬ x < y := fun h => by rw [nblt_iff.2 h] at h1; cases h1
   cases h2 : Nat.beq x y with
   |true => have := nbeq_t h2; simp [this]
   |false =>
    have h2' : x ≠ y := fun h => by subst h; rw [show Nat.beq x x = true from Nat.beq_refl x] at h2; cases h2
    simp [h1', h2']
theorem lins_perm (x : List Nat) : ∀ l : List (List Nat), (lins x l).Perm (x :: l)
 |[] => List.Perm.refl _
 |y :: l => by
  show (Bool.rec (y :: lins x l) (x :: y :: l) (llt x y) : List (List Nat)).Perm _
  cases llt x y
  ·exact ((lins_perm x l).cons y).trans (List.Perm.swap x y l)
  ·exact List.Perm.refl _
theorem lsort_perm : ∀ l : List (List Nat), (lsort l).Perm l
 |[] => List.Perm.refl _
 |x :: l => (lins_perm x (lsort l)).trans ((lsort_perm l).cons x)
theorem lins_order {x : List Nat} (hx : ∀ z ∈ x, z < 256) : ∀ {l : List (List Nat)}, (∀ y ∈ l, ∀ z ∈ y, z < 256) → (l.map uL).Pairwise (· ≤ ·) → ((lins x l).map uL).Pairwise (· ≤ ·)
 |[], _, _ => by simp [lins]
 |y :: l, hl, h => by
  have h1 := List.pairwise_cons.1 h
  have ih := lins_order hx (l := l) (fun u hu => hl u (by simp [hu])) h1.2
  have hlt := llt_lt hx (hl y (by simp))
  show ((Bool.rec (y :: lins x l) (x :: y :: l) (llt x y) : List (List Nat)).map uL).Pairwise _
  cases hc : llt x y with
  |true =>
   have hxy : uL x ≤ uL y := List.le_of_lt (hlt.1 hc)
   refine List.pairwise_cons.2 ⟨fun z hz => ?_, h⟩
   rcases List.mem_cons.1 hz with rfl | hz
   ·exact hxy
   ·exact List.le_trans hxy (h1.1 z hz)
  |false =>
   have hyx : uL y ≤ uL x := by
    show ¬ uL x < uL y
    exact fun h => by rw [hlt.2 h] at hc; cases hc
   refine List.pairwise_cons.2 ⟨fun z hz => ?_, ih⟩
   have hz' : z ∈ (x :: l).map uL := ((lins_perm x l).map uL).subset hz
   rcases List.mem_cons.1 hz' with rfl | hz'
   ·exact hyx
   ·exact h1.1 z hz'
theorem lsort_order : ∀ {l : List (List Nat)}, (∀ y ∈ l, ∀ z ∈ y, z < 256) → ((lsort l).map uL).Pairwise (· ≤ ·)
 |[], _ => by simp [lsort]
 |x :: l, h => by
  have ih := lsort_order (l := l) fun u hu => h u (by simp [hu])
  exact lins_order (h x (by simp)) (l := lsort l) (fun u hu => h u (by have := (lsort_perm l).subset hu; simp [this])) ih
theorem sorted_is {l : List (List Nat)} (h : ∀ y ∈ l, ∀ z ∈ y, z < 256) {ss : List (List UInt8)} (hp : ss.Perm (l.map uL)) : ss.mergeSort (fun x y => decide (x ≤ y)) = (lsort l).map uL := by
 have hs : (ss.mergeSort (fun x y => decide (x ≤ y))).Pairwise (fun x y => decide (x ≤ y) = true) :=
  List.pairwise_mergeSort (by
   intro a b c h1 h2
   simp only [decide_eq_true_eq] at h1 h2 ⊢
   exact List.le_trans h1 h2) (by
   intro a b
   have := List.le_total a b
   simp only [Bool.or_eq_true, decide_eq_true_eq]
   exact this) ss
 refine sorted_one ?_ (hs.imp fun h => by simpa using h) (lsort_order h)
 exact ((List.mergeSort_perm ss _).trans hp).trans ((lsort_perm l).map uL).symm
end
section
open Go.RowKit Go.Maps Go.MapKept Go.Sort Go.Shelf
open Go.WideElems (Fit rd rg)
section
variable {ρ : ERho}
theorem fresh_ok {s : List Nat} (hs : ∀ x ∈ s, x < 256) : ∀ {es : List (AV × AV × Nat)} {ms : List MapEntry}, EntsR ρ es ms → lfresh s es = true → ∀ x ∈ ms, x.key ≠ .string (bsA s)
 |_, _, .nil, _ => fun x hx => by simp at hx
 |_, _, .cons e m es ms hr hr2, h => fun x hx => by
  obtain ⟨k, v, b⟩ := e
  have hk := hr.1
  simp only at hk
  obtain ⟨mk, hmk⟩ : ∃ mk, m.key = mk := ⟨_, rfl⟩
  rw [hmk] at hk
  cases hk with
  |st q hq =>
   have h' : iand (Bool.not (leq s q)) (lfresh s es) = true := h
   simp only [iand_eq, Bool.and_eq_true, Bool.not_eq_true'] at h'
   rcases List.mem_cons.1 hx with rfl | hx
   ·rw [hmk]
    intro e
    have := bsA_inj hq hs (by simpa using e)
    subst this
    have := h'.1
    rw [leq_iff] at this
    simp at this
   ·exact fresh_ok hs hr2 h'.2 x hx
  |_ => exact absurd (show false = true from h) (by decide)
theorem born_ok {b : Nat} : ∀ {es : List (AV × AV × Nat)} {ms : List MapEntry}, EntsR ρ es ms → lkeys.lborn b es = true → ∀ x ∈ ms, x.born ≠ b
 |_, _, .nil, _ => fun x hx => by simp at hx
 |_, _, .cons e m es ms hr hr2, h => fun x hx => by
  have h' : iand (Bool.not (Nat.beq b e.2.2)) (lkeys.lborn b es) = true := h
  rw [iand_eq, Bool.and_eq_true] at h'
  rcases List.mem_cons.1 hx with rfl | hx
  ·rw [← hr.2.2]
   intro e2
   rw [e2, show Nat.beq b b = true from Nat.beq_refl b] at h'
   simp at h'
  ·exact born_ok hr2 h'.2 x hx
theorem keys_ok {c : Nat} : ∀ {es : List (AV × AV × Nat)} {ms : List MapEntry}, EntsR ρ es ms → lkeys c es = true → ∀ ks, omap (fun e : AV × AV × Nat => strOf e.1) es = some ks →
  (∀ x ∈ ms, ∃ q : List Nat, x.key = .string (bsA q) ∧ q.length ≤ 65536 ∧ ∀ z ∈ q, z < 256) ∧ (∀ x ∈ ms, x.born < c) ∧ (ms.map (·.born)).Nodup ∧ (ms.map (·.key)).Nodup ∧ ms.map (·.key) = ks.map (fun q => Value.string (bsA q)) ∧ ∀ q ∈ ks, ∀ z ∈ q, z < 256
 |_, _, .nil, _, ks, hk => by
  cases hk
  exact ⟨by simp, by simp, by simp, by simp, rfl, by simp⟩
 |_, _, .cons e m es ms hr hr2, h, ks, hks => by
  obtain ⟨k, v, b⟩ := e
  have hk := hr.1
  have hb := hr.2.2
  have hks' : (Option.rec none (fun y => Option.rec none (fun ys => some (y :: ys)) (omap (fun e : AV × AV × Nat => strOf e.1) es)) (strOf k) : Option (List (List Nat))) = some ks := hks
  simp only at hk hb
  obtain ⟨mk, hmk⟩ : ∃ mk, m.key = mk := ⟨_, rfl⟩
  rw [hmk] at hk
  cases hk with
  |st s hs =>
   have h' : iand (iand (lfresh s es) (Nat.ble (llen s) 65536)) (iand (Nat.blt b c) (iand (lkeys.lborn b es) (lkeys c es))) = true := h
   simp only [iand_eq, Bool.and_eq_true] at h'
   obtain ⟨⟨h1, h2⟩, h3, h4, h5⟩ := h'
   cases ho : omap (fun e : AV × AV × Nat => strOf e.1) es with
   |none => rw [ho] at hks'; cases hks'
   |some ks2 =>
    rw [ho] at hks'
    cases hks'
    obtain ⟨i1, i2, i3, i4, i5, i6⟩ := keys_ok hr2 h5 ks2 ho
    have hl := nble_iff.1 h2
    rw [llen_eq] at hl
    have hbc := nblt_iff.1 h3
    refine ⟨fun x hx => ?_, fun x hx => ?_, ?_, ?_, ?_, fun q hq => ?_⟩
    ·rcases List.mem_cons.1 hx with rfl | hx
     ·exact ⟨s, hmk, hl, hs⟩
     ·exact i1 x hx
    ·rcases List.mem_cons.1 hx with rfl | hx
     ·rw [← hb]; exact hbc
     ·exact i2 x hx
    ·rw [List.map_cons, List.nodup_cons]
     refine ⟨fun hx => ?_, i3⟩
     obtain ⟨x, hx, e⟩ := List.mem_map.1 hx
     exact born_ok hr2 h4 x hx (by rw [e, hb])
    ·rw [List.map_cons, List.nodup_cons]
     refine ⟨fun hx => ?_, i4⟩
     obtain ⟨x, hx, e⟩ := List.mem_map.1 hx
     exact fresh_ok hs hr2 h1 x hx (by rw [e, hmk])
    ·rw [List.map_cons, List.map_cons, hmk, i5]
    ·rcases List.mem_cons.1 hq with rfl | hq
     ·exact hs
     ·exact i6 q hq
  |_ => exact absurd (show false = true from h) (by decide)
end
theorem owns_keys {w : World} {b c : Nat} {ms : Array MapEntry} {ks : List (List Nat)} (hb : w.heap[b]? = some (.map ms c)) (hsz : ms.size ≤ 200)
  (h1 : ∀ x ∈ ms.toList, ∃ q : List Nat, x.key = .string (bsA q) ∧ q.length ≤ 65536 ∧ ∀ z ∈ q, z < 256) (h2 : ∀ x ∈ ms.toList, x.born < c) (h3 : (ms.toList.map (·.born)).Nodup) (h4 : (ms.toList.map (·.key)).Nodup) (h5 : ms.toList.map (·.key) = ks.map (fun q => Value.string (bsA q))) :
  ∃ D0 : DataW Unit, w.ownsMap Tryz.prog 9 anyElem b 200 D0 ∧ Maps.size D0 ≤ 200 ∧ (strKeys D0).Perm (ks.map uL) := by
 have hrd : ∀ (x : MapEntry) (q : List Nat), x.key = .string (bsA q) → q.length ≤ 65536 → rd Tryz.prog 9 anyElem x = some (.string (uL q), .nil) := fun x q hx hq => by
  have := rd_of (x := x) (s := bsA q) hx (by rw [bsA_size]; unfold maxLen; omega)
  rw [bsA_data] at this
  exact this
 have hrg : ∀ (x : MapEntry) (q : List Nat), x.key = .string (bsA q) → q.length ≤ 65536 → rg Tryz.prog 9 anyElem x = (.string (uL q), .nil) := fun x q hx hq => by
  unfold rg
  rw [hrd x q hx hq]
  rfl
 refine ⟨.map ((ms.toList.map (rg Tryz.prog 9 anyElem)).foldr DataW.insert []), ⟨ms, c, hb, ⟨?_, ⟨h2, h3, h4⟩, ?_⟩, hsz, rfl⟩, ?_, ?_⟩
 ·unfold maxLen; omega
 ·intro x hx
  obtain ⟨q, e1, e2, _⟩ := h1 x hx
  exact ⟨_, hrd x q e1 e2⟩
 ·rw [Maps.size_eq, Go.WideShapes.sorted_perm _ |>.length_eq]
  simp only [List.length_map, Array.length_toList]
  omega
 ·have hp := (Go.WideShapes.sorted_perm (ms.toList.map (rg Tryz.prog 9 anyElem))).map (fun p => Go.strOf p.1)
  refine List.Perm.trans hp (List.Perm.of_eq ?_)
  rw [List.map_map]
  apply List.ext_getElem?
  intro j
  have h6 := congrArg (fun l => l[j]?) h5
  simp only [List.getElem?_map] at h6 ⊢
  cases hj : ms.toList[j]? with
  |none =>
   rw [hj] at h6
   cases hk : ks[j]? with
   |none => rfl
   |some q => rw [hk] at h6; cases h6
  |some x =>
   rw [hj] at h6
   cases hk : ks[j]? with
   |none => rw [hk] at h6; cases h6
   |some q =>
    rw [hk] at h6
    simp only [Option.map_some, Option.some.injEq] at h6 ⊢
    obtain ⟨q2, e1, e2, e3⟩ := h1 x (List.mem_of_getElem? hj)
    have e4 : bsA q2 = bsA q := by rw [e1] at h6; simpa using h6
    have := hrg x q2 e1 e2
    simp only [Function.comp_apply, this]
    show q2.map UInt8.ofNat = q.map UInt8.ofNat
    have := congrArg (fun s : ByteArray => s.data.toList) e4
    simpa only [bsA_data] using this
end
section
open Go.RowKit Go.Maps Go.MapKept Go.Sort Go.Shelf
open Go.WideElems (Fit rd rg)
theorem sortedKeys_at {H : Type} (c b nn : Nat) (D0 : DataW H) (R : Value → Option (DataW H × List MemPlace)) (w : World) (hc : c < w.heap.size) (hm : w.cell? ⟨c, 0, none⟩ = some (.map (some b))) (hown : w.ownsMap Tryz.prog 9 R b nn D0) (hmax : Maps.size D0 ≤ maxLen) (hbytes : Maps.size D0 * 16 ≤ 140737488355328) :
  CallsIn Fence.wide 5 Tryz.prog 136 #[.func (.func 207) #[] #[.pointer (some ⟨c, 0, none⟩)]] w fun e w' => ∃ (v : Value) (ss : List (List UInt8)), e = .returned v ∧ ss.Perm (strKeys D0) ∧
   w'.ownsRow w.heap.size 9 1 v ss.length ((ss.mergeSort (fun x y => decide (x ≤ y))).map encStr) ∧ (v = .slice none 0 0 ↔ ss = []) ∧ Below w.heap.size w w' := by
 have hseq : SeqGives Fence.wide 2 Tryz.prog 207 #[.pointer (some ⟨c, 0, none⟩)] encStr (fun ss => ss.Perm (strKeys D0)) (Maps.size D0) w :=
  AnyZ.keys_gives (ρ := Tryz.keys137_ren) { Tryz.keys137 with } Fence.wide _ trivial rfl (by omega) c b nn D0 _ hc hm hown
 exact AnyZ.sorted_in Tryz.sorted136 Fence.wide 5 trivial trivial trivial trivial rfl (by omega) (Tryz.sorts136 _) (enters_of Tryz.func206 (by kernel_rfl) rfl) 207 #[.pointer (some ⟨c, 0, none⟩)] trivial (enters_of Tryz.func207 (by kernel_rfl) rfl) _ _ hmax hbytes _ hseq
section
variable {w0 : World} {ρ : ERho}
theorem string_one : tySz Tryz.prog 9 = some 1 := by kernel_rfl
theorem strs_vrs {ks : List (List Nat)} (h : ∀ q ∈ ks, ∀ z ∈ q, z < 256) : VRs ρ (lmap AV.st ks) (ks.map fun q => Value.string (bsA q)) := by
 rw [lmap_eq]
 exact VRs.map fun q hq => .st q (h q hq)
theorem i_sorted {l : List AV} {xs : List Value} (hx : VRs ρ l xs) : EVN Tryz.prog w0 ρ (isorted 207 9 51 l) (callFunc 136 xs.toArray) := by
 refine evn_calls (fun w => call_enter Tryz.func136 (by kernel_rfl) (by kernel_rfl) _ w) fun s v s' hm w hw hfr => ?_
 unfold isorted at hm
 split at hm
 ·rename_i k b
  cases hx with
  |cons _ x1 _ _ h1 h2 =>
   cases h2
   cases h1 with
   |fn _ _ _ us ys hu hy =>
    cases hu
    cases hy with
    |cons _ y1 _ _ hy1 hy2 =>
     cases hy2
     cases hy1 with
     |pt _ _ r hr =>
      obtain ⟨hk, h5⟩ := ecase_ok hm
      have hk' := nbeq_t hk
      subst hk'
      obtain ⟨cc, s1, h6, h7⟩ := ebind_ok h5
      obtain ⟨hb, rfl⟩ := ecells_ok h6
      obtain ⟨ca, f, z, hc1, hz, hd0, hroom, hl⟩ := hp_cells hw hb hr
      obtain ⟨ct, cl, cf⟩ := cc
      simp only at h7 hb hc1 hroom hl
      rw [hd0] at hl ⊢
      split at h7
      ·rename_i m
       obtain ⟨-, h8⟩ := ecase_ok h7
       obtain ⟨mm, s2, h9, h10⟩ := ebind_ok h8
       obtain ⟨bb, s3, h11, h12⟩ := ebind_ok (m := eget m) h9
       obtain ⟨hbm, rfl⟩ := eget_ok h11
       obtain ⟨y0, hy0, hv0⟩ := hl 0 (.mp m) rfl
       cases hv0 with
       |mp _ q hq =>
        cases bb with
        |ma es clock =>
         obtain ⟨rfl, rfl⟩ := epure_ok (a := (es, clock)) h12
         obtain ⟨h13, h14⟩ := ecase_ok h10
         rw [iand_eq, Bool.and_eq_true] at h13
         have hsz : es.length ≤ 200 := by
          have := nble_iff.1 h13.1
          rwa [llen_eq] at this
         cases hks : omap (fun e : AV × AV × Nat => strOf e.1) es with
         |none => simp only [hks] at h14; exact (efail_ok (e := [111]) h14).elim
         |some ks =>
          simp only [hks] at h14
          obtain ⟨q2, o, hq2, _, hmc, ms, rfl, hents⟩ := hw.blk m _ hbm
          rw [hq] at hq2
          cases hq2
          obtain ⟨k1, k2, k3, k4, k5, k6⟩ := keys_ok hents h13.2 ks hks
          have hlen : ms.size = es.length := by
           have h15 := congrArg List.length k5
           have h16 := (omap_some hks).1
           simp only [List.length_map, Array.length_toList] at h15
           omega
          obtain ⟨D0, hown, hsz2, hperm⟩ := owns_keys hmc (by omega) k1 k2 k3 k4 k5
          have hcell : w.cell? ⟨r.b, 0, none⟩ = some (.map (some q.b)) := (cell_of_block hc1 0).trans hy0
          have hcall := callsIn_wide.1 (sortedKeys_at r.b q.b 200 D0 anyElem w (heap_lt hc1) hcell hown (by unfold maxLen; omega) (by omega))
          refine hcall.mono ?_
          rintro e w' ⟨x, ss, rfl, hS, hrow, hnil, hbl⟩
          have hsort := sorted_is k6 (hS.trans hperm)
          rw [hsort] at hrow
          have hslen : ss.length = (lsort ks).length := by
           have := congrArg List.length hsort
           simpa using this
          have hk6 : ∀ y ∈ lsort ks, ∀ z ∈ y, z < 256 := fun y hy => k6 y ((lsort_perm ks).subset hy)
          have hF := hw.fp.trans (Below.toFp hbl) (by simp)
          cases hls : lsort ks with
          |nil =>
           simp only [hls] at h14
           obtain ⟨rfl, rfl⟩ := epure_ok (a := AV.sn) h14
           have : ss = [] := List.eq_nil_of_length_eq_zero (by rw [hslen, hls]; rfl)
           rw [hnil.2 this]
           exact ⟨_, rfl, kok_calm .sn hw rfl rfl (Below.toFp hbl)⟩
          |cons a1 ar =>
           simp only [hls] at h14
           obtain ⟨i, s4, h15, h16⟩ := ebind_ok h14
           obtain ⟨rfl, rfl⟩ := epure_ok h16
           obtain ⟨rfl, rfl⟩ := enew_ok h15
           obtain ⟨hl1, hform⟩ := hrow
           rcases hform with ⟨rfl, h0⟩ | ⟨g, cap, cur, rfl, hg, hblk, hnc, hcap, hcur, htake⟩
           ·rw [hslen, hls] at h0
            cases h0
           ·refine ⟨_, rfl, eup ρ s.nx ⟨g, 0, cap - ss.length⟩, ?_, ?_, EExt.one (hfr _ (Nat.le_refl _) (Nat.lt_succ_self _))⟩
            ·rw [llen_eq, ← hls, ← hslen]
             have := VR.sl (ρ := eup ρ s.nx ⟨g, 0, cap - ss.length⟩) s.nx 0 ss.length ss.length cap ⟨g, 0, cap - ss.length⟩ (eup_same _ _ _) (Or.inr (by show cap = ss.length + (cap - ss.length); omega))
             exact this
            ·refine hw.add (hfr _ (Nat.le_refl _) (Nat.lt_succ_self _)) (Nat.le_trans hw.fp.size hg) hblk ⟨cur, (0, 0), 1, rfl, string_one, rfl, ⟨?_, fun k _ _ => by simp, fun _ => Or.inl rfl⟩, fun j u hu => ?_⟩ hF fun j d qq hd hqq => ?_
             ·have h17 : (lmap AV.st (a1 :: ar)).length = ss.length := by rw [lmap_eq, List.length_map, ← hls, hslen]
              rw [h17, hcur]
              show 0 + ss.length + (cap - ss.length) * 1 ≤ cap * 1
              omega
             ·rw [← hls] at hu
              obtain ⟨y, hy, hv⟩ := (strs_vrs (ρ := ρ) hk6).nth hu
              refine ⟨y, ?_, hv.up (eup_le (hfr _ (Nat.le_refl _) (Nat.lt_succ_self _)))⟩
              have h18 := congrArg (fun l => l[j]?) htake
              simp only [List.getElem?_take, Nat.mul_one, Array.getElem?_toList, List.getElem?_map] at h18
              have hj : j < ss.length := by
               have := (List.getElem?_eq_some_iff.1 hy).1
               rw [List.length_map] at this
               omega
              rw [if_pos hj] at h18
              show cur[0 + j]? = some y
              rw [Nat.zero_add, h18]
              rw [List.getElem?_map] at hy
              cases hq3 : (lsort ks)[j]? with
              |none => rw [hq3] at hy; cases hy
              |some q3 =>
               rw [hq3] at hy
               cases hy
               rfl
             ·obtain ⟨q4, o4, e1, e2, e3, _⟩ := hw.blk j d hd
              rw [hqq] at e1
              cases e1
              have := heap_lt e3
              exact ⟨by show qq.b ≠ g; omega, hbl.block _ this⟩
        |_ => exact (efail_ok (e := [56, m]) h12).elim
      ·exact (efail_ok (e := [112]) h7).elim
 ·exact (efail_ok (e := [113]) (s := s) hm).elim
end
end
section
open Go.RowKit
section
variable {w0 : World} {ρ : ERho}
theorem i_twice {l : List AV} {xs : List Value} (hx : VRs ρ l xs) : EVN Tryz.prog w0 ρ (itwice l) (callFunc 26 xs.toArray) := by
 refine evn_calls (fun w => call_enter Tryz.func26 (by kernel_rfl) (by kernel_rfl) _ w) fun s v s' hm w hw _ => ?_
 unfold itwice at hm
 split at hm
 ·rename_i i o n c
  cases hx with
  |cons _ x1 _ _ h1 h2 =>
   cases h2
   obtain ⟨h3, h4⟩ := ecase_ok hm
   have hn := nbeq_t h3
   subst hn
   obtain ⟨cc, s1, h5, h6⟩ := ebind_ok h4
   obtain ⟨hb, rfl⟩ := ecells_ok h5
   cases h1 with
   |sl _ _ _ _ c' r hr hc =>
    obtain ⟨ca, f, z, hc1, hz, hd0, hroom, hl⟩ := hp_cells hw hb hr
    obtain ⟨ct, cl, cf⟩ := cc
    simp only at h6 hb hc1 hroom hl
    rw [hd0] at hl ⊢
    obtain ⟨row, hrow⟩ : ∃ row, ltake (ldrop cl o) 6 = row := ⟨_, rfl⟩
    rw [hrow] at h6
    rw [ltake_eq, ldrop_eq] at hrow
    split at h6
    ·rename_i rr rc t q d rv
     obtain ⟨h7, h8⟩ := ecase_ok h6
     obtain ⟨rfl, rfl⟩ := epure_ok h8
     simp only [iand_eq, Bool.and_eq_true] at h7
     obtain ⟨⟨e1, e2⟩, e3, e4, e5⟩ := h7
     have ht := nblt_iff.1 e1
     have hq := nblt_iff.1 e2
     have b1 := nble_iff.1 e3
     have b2 := nble_iff.1 e4
     have b3 := nble_iff.1 e5
     rw [llen_eq] at b1 b2 b3
     have at_ : ∀ (j : Nat) (u : AV), j < 6 → ((cl.drop o).take 6)[j]? = some u → ∃ x, ca[o + j]? = some x ∧ VR ρ u x := fun j u hj hu => by
      rw [List.getElem?_take, if_pos hj, List.getElem?_drop] at hu
      obtain ⟨x, hx, hv⟩ := hl (o + j) u hu
      rw [Nat.zero_add] at hx
      exact ⟨x, hx, hv⟩
     obtain ⟨x0, g0, v0⟩ := at_ 0 (.st rr) (by omega) (by rw [hrow]; rfl)
     obtain ⟨x1, g1, v1⟩ := at_ 1 (.st rc) (by omega) (by rw [hrow]; rfl)
     obtain ⟨x2, g2, v2⟩ := at_ 2 (.it .u64 (.ofNat t)) (by omega) (by rw [hrow]; rfl)
     obtain ⟨x3, g3, v3⟩ := at_ 3 (.it .u64 (.ofNat q)) (by omega) (by rw [hrow]; rfl)
     obtain ⟨x4, g4, v4⟩ := at_ 4 (.bo d) (by omega) (by rw [hrow]; rfl)
     obtain ⟨x5, g5, v5⟩ := at_ 5 (.st rv) (by omega) (by rw [hrow]; rfl)
     cases v0
     cases v1
     cases v2
     cases v3
     cases v4
     cases v5
     have cell : ∀ (j : Nat) (x : Value), ca[o + j]? = some x → w.cell? ⟨r.b, o + j, none⟩ = some x := fun j x hx => (cell_of_block hc1 _).trans hx
     have hok : CelOK ⟨bsA rr, bsA rc, t, q, d, bsA rv⟩ := ⟨ht, hq, by show (bsA rr).size ≤ _; rw [bsA_size]; omega, by show (bsA rc).size ≤ _; rw [bsA_size]; omega, by show (bsA rv).size ≤ _; rw [bsA_size]; omega⟩
     have hk : CelOK ⟨bsA rr, bsA rc, t, 0, false, ⟨#[]⟩⟩ := ⟨ht, (by show 0 < 18446744073709551616; decide), by show (bsA rr).size ≤ _; rw [bsA_size]; omega, by show (bsA rc).size ≤ _; rw [bsA_size]; omega, (by show (⟨#[]⟩ : ByteArray).size ≤ 9223372036854775807; decide)⟩
     have hcl : CelsAt w (some ⟨r.b, 0 + o, none⟩) 1 [⟨bsA rr, bsA rc, t, q, d, bsA rv⟩] := by
      refine ⟨rfl, Or.inr ⟨r.b, 0 + o, rfl, heap_lt hc1, fun i hi => ?_⟩, fun c hc => by rw [List.mem_singleton.1 hc]; exact hok⟩
      have : i = 0 := by simp only [List.length_cons, List.length_nil] at hi; omega
      subst this
      rw [show 0 + o + 0 * 6 = o by omega]
      exact ⟨cell 0 _ g0, cell 1 _ g1, cell 2 _ g2, cell 3 _ g3, cell 4 _ g4, cell 5 _ g5⟩
     refine (twice_any w _ 1 c' _ ⟨bsA rr, bsA rc, t, 0, false, ⟨#[]⟩⟩ hcl (by omega) (by omega) hk fun c hc => by rw [List.mem_singleton.1 hc]).mono ?_
     rintro e w' ⟨rfl, hf⟩
     exact ⟨_, rfl, kok_calm (.bo false) hw rfl rfl hf⟩
    ·exact (efail_ok (e := [121]) h6).elim
 ·exact (efail_ok (e := [120]) (s := s) hm).elim
end
end
section
open Go.RowKit
noncomputable section
def G1 : Globs := fun g o => Bool.rec none (Option.rec none (fun x => some (.it .u32 (Int.ofNat x))) (lnth fourL o)) (Nat.beq g 0)
def ilist (l : List (Nat × (List AV → EM AV))) : Intr := fun f => List.rec none (fun x _ ih => Bool.rec ih (some x.2) (Nat.beq f x.1)) l
def I1 : Intr := ilist [(26, itwice), (72, icopyCheck [69, 226]), (136, isorted 207 9 51), (262, icount), (231, iindexStr), (175, ijoin)]
def okTrue (r : ERes AV) : Bool := match r with
 |.ok (.bo true) _ => true
 |_ => false
end
theorem okTrue_ok {r : ERes AV} (h : okTrue r = true) : ∃ s, r = .ok (.bo true) s := by
 unfold okTrue at h
 split at h
 ·exact ⟨_, rfl⟩
 ·cases h
theorem ilist_ok {l : List (Nat × (List AV → EM AV))} : ∀ {f : FuncId} {g : List AV → EM AV}, ilist l f = some g → (f, g) ∈ l := by
 induction l with
 |nil => intro f g h; cases h
 |cons x l ih =>
  intro f g h
  have h' : (Bool.rec (ilist l f) (some x.2) (Nat.beq f x.1) : Option (List AV → EM AV)) = some g := h
  cases hb : Nat.beq f x.1 with
  |true =>
   rw [hb] at h'
   cases h'
   have := nbeq_t hb
   subst this
   simp
  |false =>
   rw [hb] at h'
   have := ih h'
   simp [this]
section
variable {w0 : World} {m : Int} (hm0 : w0.cell? ⟨1, 0, none⟩ = some (.int .i64 m)) (h10 : 1 < w0.heap.size)
include hm0 h10
theorem isound1 : ISound Tryz.prog w0 I1 := by
 intro f g hfg ρ l xs hx
 have h := ilist_ok hfg
 simp only [List.mem_cons, Prod.mk.injEq, List.not_mem_nil, or_false] at h
 rcases h with ⟨rfl, rfl⟩ | ⟨rfl, rfl⟩ | ⟨rfl, rfl⟩ | ⟨rfl, rfl⟩ | ⟨rfl, rfl⟩ | ⟨rfl, rfl⟩
 ·exact i_twice hx
 ·exact i_copyCheck builder_types hx
 ·exact i_sorted hx
 ·exact i_count hx
 ·exact i_index hm0 h10 hx
 ·exact i_join hx
end
theorem loc_sorted (k t mt : Nat) (l : List AV) : Loc (isorted k t mt l) := by
 unfold isorted
 repeat' first | exact loc_pure _ | exact loc_fail _ | exact loc_cells _ | exact loc_map _ | exact loc_new _ | refine loc_case ?_ | refine loc_bind ?_ (fun _ => ?_) | split
theorem loc_check (T : List TypeId) (l : List AV) : Loc (icopyCheck T l) := by
 unfold icopyCheck
 repeat' first | exact loc_pure _ | exact loc_fail _ | exact loc_cells _ | exact loc_set _ _ | refine loc_case ?_ | refine loc_bind ?_ (fun _ => ?_) | split
theorem loc_twice (l : List AV) : Loc (itwice l) := by
 unfold itwice
 repeat' first | exact loc_pure _ | exact loc_fail _ | exact loc_cells _ | refine loc_case ?_ | refine loc_bind ?_ (fun _ => ?_) | split
theorem loc_count (l : List AV) : Loc (icount l) := by
 unfold icount
 repeat' first | exact loc_pure _ | exact loc_fail _ | refine loc_case ?_ | split
theorem loc_indexStr (l : List AV) : Loc (iindexStr l) := by
 unfold iindexStr
 repeat' first | exact loc_pure _ | exact loc_fail _ | refine loc_case ?_ | split
theorem loc_join (l : List AV) : Loc (ijoin l) := by
 unfold ijoin
 repeat' first | exact loc_pure _ | exact loc_fail _ | exact loc_cells _ | refine loc_case ?_ | refine loc_bind ?_ (fun _ => ?_) | split
theorem iloc1 : ILoc I1 := by
 intro f g hfg l
 have h := ilist_ok hfg
 simp only [List.mem_cons, Prod.mk.injEq, List.not_mem_nil, or_false] at h
 rcases h with ⟨rfl, rfl⟩ | ⟨rfl, rfl⟩ | ⟨rfl, rfl⟩ | ⟨rfl, rfl⟩ | ⟨rfl, rfl⟩ | ⟨rfl, rfl⟩
 ·exact loc_twice l
 ·exact loc_check _ l
 ·exact loc_sorted _ _ _ l
 ·exact loc_count l
 ·exact loc_indexStr l
 ·exact loc_join l
theorem glob1 {w : World} (ht : TabAt w) (hl : 0 < w.heap.size) : GlobR w G1 := by
 intro g o v h
 have h' : (Bool.rec none (Option.rec none (fun x => some (.it .u32 (Int.ofNat x))) (lnth fourL o)) (Nat.beq g 0) : Option AV) = some v := h
 cases hg : Nat.beq g 0 with
 |false => rw [hg] at h'; cases h'
 |true =>
  rw [hg] at h'
  have := nbeq_t hg
  subst this
  rw [lnth_eq] at h'
  cases ho : fourL[o]? with
  |none => rw [ho] at h'; cases h'
  |some x =>
   rw [ho] at h'
   cases h'
   have hlt : o < 16 := (List.getElem?_eq_some_iff.1 ho).1
   refine ⟨_, ht o hlt, hl, fun ρ => ?_⟩
   rw [List.getD_eq_getElem?_getD, ho]
   exact .it _ _
end
section
open Go.RowKit
theorem shown_runs : okTrue ((evD Tryz.prog G1 I1 60).fn 4 [] es0) = true := by kernel_rfl
end
section
open Go.RowKit
theorem shown15 (w : World) (hm : MaxAt w) (ht : TabAt w) (htl : 0 < w.heap.size) (hml : 1 < w.heap.size) : Calls Tryz.prog 4 #[] w fun e w' => e = .returned (.bool true) ∧ Fp [] w w' := by
 obtain ⟨s, hs⟩ := okTrue_ok shown_runs
 obtain ⟨m, hm⟩ := hm
 refine (ev_calls (glob1 ht htl) (by kernel_rfl) (isound1 hm hml) iloc1 (by kernel_rfl) hs).mono ?_
 rintro e w' ⟨x, ρ, rfl, hv, hf⟩
 cases hv
 exact ⟨rfl, hf⟩
end
section
open Go.RowKit
theorem engerr_law (w : World) (c : Cel) (seq lv : Int) (file : ByteArray) (hc : CelOK c) (s0 : 0 ≤ seq) (s1 : seq ≤ 18446744073709551615) (_ : -9223372036854775808 ≤ lv) (_ : lv ≤ 9223372036854775807) (_ : file.size ≤ 9223372036854775807) (hm : MaxAt w) (ht : TabAt w) :
  Calls Tryz.prog 3 #[cellV c, .int .u64 seq, .int .i64 lv, .string file] w fun e w' => e = .returned (.bool true) ∧ Fp [] w w' := by
 obtain ⟨seq, rfl⟩ : ∃ n : Nat, seq = n := ⟨seq.toNat, by omega⟩
 have htl : 0 < w.heap.size := World.block_lt_of_cell? _ _ (ht 0 (by omega))
 have hml : 1 < w.heap.size := by
  obtain ⟨m, hm⟩ := hm
  exact World.block_lt_of_cell? _ _ hm
 exact engerr_walk w c seq lv file hc (by omega) hm ht hml fun W hf => shown15 W (hm.fp hf (by simp)) (ht.fp hf (by simp)) (Nat.lt_of_lt_of_le htl hf.size) (Nat.lt_of_lt_of_le hml hf.size)
end
section
section
open Go.RowKit Go.ChangeShapes Go.WideShapes Go.Deep
end
section
open Go.ChangeShapes Go.WideShapes Go.ChangeAt Go.RowKit Go.Lib
section
variable {H : Type} {enc : TypeId × Value → H}
theorem returns_laid {a : Assume} {C : Checked} {os : Os} {f : FuncId} {fn : Func} {s : ChangeSpec} {conds : List PathCond} {apart fresh handsOn again : Bool} {X : World → Array Value → Prop}
  (own : ownKnob C.prog.godebug = none) (started : os.Started) (noInit : C.prog.inits.idxOf? f = none) (hfn : C.prog.funcs[f]? = some fn)
  (witness : ∃ (w : World) (tape : Tape) (i : Input), w.os = os ∧ (w.forCall tape i).Shaped C.prog ∧ i.vars = [] ∧ Input.okWide C.prog (w.forCall tape i) .any w.heap.size f i ∧
   ((s.pre enc C.prog fn conds apart (w.forCall tape i).memory i.args ∧ X (w.forCall tape i).memory i.args) ∧ sizedMet enc C.prog fn (OpenSpec.ofChange s) apart (w.forCall tape i).memory i.args) ∧ a.holds C.prog (lone (Frame.enter C.prog f i.args .normal) [] (w.forCall tape i)))
  (contract : ∀ (W : World) (args : Array Value) (ds gs : List (DataW H)) (before : List MemPlace),
   (∀ (j : Nat) t v, fn.params[j]? = some t → args[j]? = some v → ∃ base, Value.okWide C.prog W .any base t v) →
   DataW.Whole enc C.prog fn.params.toList s.vars apart W args.toList ds gs before → W.ShapedOpen C.prog → X W.memory args →
   Calls C.prog f args W fun e W' => ∃ v, e = .returned v ∧ s.post enc C.prog fn apart fresh handsOn again W args v W') :
  ReturnsInHanded a C os f .any (fun w args => (s.pre enc C.prog fn conds apart w args ∧ X w args) ∧ sizedMet enc C.prog fn (OpenSpec.ofChange s) apart w args) (s.post enc C.prog fn apart fresh handsOn again) := by
 refine returnsInHanded_of_calls own started noInit witness ?_
 intro w tape i _ hsh _ hok hpre _
 obtain ⟨_, _, _, fn', hfn', _, _, _, _, hval⟩ := hok
 have e : fn' = fn := Option.some.inj (hfn'.symm.trans hfn)
 subst e
 obtain ⟨⟨⟨ds, gs, before, hw, _⟩, hx⟩, _⟩ := hpre
 have hw' := DataW.Whole.of_heap (w' := w.forCall tape i) (by rfl) hw
 refine (contract (w.forCall tape i) i.args ds gs before (fun j t v h1 h2 => ⟨_, hval j t v h1 h2⟩) hw' hsh hx).mono fun e W' ⟨v, he, hp⟩ => ?_
 subst he
 exact ChangeSpec.post_blind hp
end
theorem tab_of {w : World} (h : TabIs Tryz.prog w "rickyard/crc.four" .u32 (fourL.map fun (n : Nat) => (n : Int))) : TabAt w := by
 intro i hi
 have := h.cell (g := 0) (by kernel_rfl) i (by rw [List.length_map]; exact hi)
 rw [this]
 have key : ∀ r, r < 16 → (fourL.map fun (n : Nat) => (n : Int)).getD r 0 = ((fourL.getD r 0 : Nat) : Int) := by decide
 rw [key i hi]
theorem tab_met {W : World} {r : List (String × DataW Unit)} (h : laidMet Tryz.prog (("rickyard/crc.four", tabData .u32 (fourL.map fun (n : Nat) => (n : Int))) :: r) W.memory) : TabAt W :=
 tab_of (show TabIs Tryz.prog W.memory "rickyard/crc.four" .u32 (fourL.map fun (n : Nat) => (n : Int)) from tabIs_of_head (show Tryz.prog.globalNamed "rickyard/crc.four" = some 0 by kernel_rfl) (show (Tryz.prog.globals[0]?).map (·.type) = some 214 by kernel_rfl) Tryz.underlying214 Tryz.underlying144 (by kernel_rfl) (by kernel_rfl) h)
end
end
end Go.Proofs.YtkjmgbifoaoefaaGreatDoor
