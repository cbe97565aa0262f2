/-
 The evaluator's operations are the model's: append. The evaluator's operations are the model's: built-in functions, interfaces. The evaluator's operations are the model's: maps, iterators, bytes that a string shares.
-/
import Derived.Test.YtigajcabgaddgaaGreatDoorWEvU
set_option maxRecDepth 100000
set_option maxHeartbeats 8000000
namespace Go.Proofs.YtigajcabgaddgaaGreatDoor
section
set_option linter.unusedSectionVars false
open Go.RowKit
variable [Val]
variable {P : Program} {w0 : World} {ρ : ERho}
theorem edel_hp {i : Nat} {u : Unit} {s s' : ESt} (h : edel i s = .ok u s') : s'.hp = s.hp.del (i + 1) ∧ s'.nx = s.nx := by
 have := edel_ok h
 subst this
 exact ⟨rfl, rfl⟩
theorem ERel.take {hp : ET Blk} {w w' : World} (h : ERel P w0 ρ hp w) {i n : Nat} {b b' : Blk} {r q : RI} {o : Obj} (hb : hp.get (i + 1) = some b) (hr : ρ i = some r) (hq : q.b = r.b) (hn : ρ n = none) (ht : Turn r.b o w w') (ho : BR P (eup ρ n q) q b' o) :
  ERel P w0 (eup ρ n q) ((hp.del (i + 1)).set (n + 1) b') w' := by
 obtain ⟨r1, o1, e1, hge, h1, _⟩ := h.blk i b hb
 rw [hr] at e1
 cases e1
 refine (h.del i).add hn (by rw [hq]; exact hge) (by rw [hq]; exact ht.here) ho (h.fp.trans ht.fp (by intro k hk; simp at hk; subst hk; exact Or.inr hge)) fun j c s hc hs => ?_
 rw [ET.del_get _ _ _ (by omega) (by omega)] at hc
 by_cases e : j = i
 ·subst e; rw [if_pos rfl] at hc; cases hc
 ·rw [if_neg (by omega)] at hc
  have hne : s.b ≠ r.b := fun eb => e (h.inj j i c b s r hc hb hs hr eb)
  exact ⟨by rw [hq]; exact hne, ht.same hne⟩
theorem ev_appendC {t t2 e ty : TypeId} {z m : Nat} {a : AV} {l : List AV} {ya y : Value} {news : List Value} {d2 : TypeDesc} (ht : P.underlying t = some (.slice e)) (hz : tySz P e = some z) (ht2 : P.underlying t2 = some d2) (hd2 : (∃ e', d2 = .slice e') ∨ d2 = .string) (ha : VR ρ a ya)
  (hl : VRs ρ l news) (hln : news.length = m * z) (h1 : vones l = true) (hlen : ∀ w' : World, (Builtin.lenOf y).run P w' = .ok m w')
  {s s' : ESt} {v : AV} (hm : eappendC P e z a (l, m) s = .ok v s') {w : World} (hw : ERel P w0 ρ s.hp w) (hf : ∀ j, s.nx ≤ j → j < s'.nx → ρ j = none) (hfirst : ∀ w' : World, w'.heap = w.heap → (Builtin.firstCells z m y).run P w' = .ok news.toArray w') :
  ∃ σ x w', (Builtin.append_ #[t, t2] ty #[ya, y]).run P w = .ok x w' ∧ VR σ v x ∧ ERel P w0 σ s'.hp w' ∧ EExt ρ σ s.nx s'.nx := by
 have hone := vones_cell hl h1
 have hsrc : Src P z t2 y m news w := ⟨by
  rcases hd2 with ⟨e', rfl⟩ | rfl
  ·exact .inl ⟨e', ht2⟩
  ·exact .inr ht2, hlen, hfirst w rfl, hfirst w.drew rfl, hln, hone⟩
 have hd2i : ∀ k, d2 ≠ .int k := fun k h => by
  rcases hd2 with ⟨e', rfl⟩ | rfl <;> cases h
 have hmatch : (d2 matches .int _) = false := by
  rcases hd2 with ⟨e', rfl⟩ | rfl <;> rfl
 cases ha with
 |sn =>
  have hm' : (Bool.rec (ecase [52] (esmall P e m) (ebind (enew (.cs e l 0)) fun i => epure (.sl i 0 m m))) (epure .sn) (Nat.beq m 0) : EM AV) s = .ok v s' := hm
  by_cases h0 : m = 0
  ·subst h0
   obtain ⟨rfl, rfl⟩ := epure_ok (a := AV.sn) hm'
   have hn0 : news = [] := List.length_eq_zero_iff.1 (by rw [hln]; simp)
   subst hn0
   refine ⟨ρ, .slice none 0 0, w, ?_, .sn, hw, EExt.refl _ _ _⟩
   rcases hd2 with ⟨e', rfl⟩ | rfl <;> simp [Builtin.append_, run_un ht, run_un ht2, run_sz hz, hlen, hfirst w rfl]
  ·rw [nbeq_f h0] at hm'
   obtain ⟨h2, h3⟩ := ecase_ok hm'
   obtain ⟨h4, ti, u, hi, hb1, hb2, hu, hus⟩ := esmall_all h2
   obtain ⟨i, s1, h5, h6⟩ := ebind_ok h3
   obtain ⟨rfl, rfl⟩ := epure_ok h6
   obtain ⟨rfl, h7⟩ := enew_ok h5
   have hn : ρ s.nx = none := hf _ (Nat.le_refl _) (by rw [h7]; exact Nat.lt_succ_self _)
   obtain ⟨ti2, hi2, hsz⟩ := tySz_info hz
   rw [hi] at hi2
   cases hi2
   obtain ⟨gc, rest, hg1, hg2, hrun⟩ := grow_run (P := P) (ty := ty) ht hz hi hu hb2 none 0 0 m y [] news w hsrc (by simp [Builtin.firstCells]) (by omega) (by omega)
   obtain ⟨-, h17, h18, h19⟩ := new_cells (w := w.drew) (c := (([] : List Value) ++ news).toArray ++ rest) (k := gc - m) h5 hw.drew hn hz (by
    rw [hl.length, hln, Array.size_append, hg2, hus, hsz]
    simp only [List.nil_append, List.size_toArray, hln, Nat.zero_add]
    omega) (fun j v hv => by
     obtain ⟨x, hx1, hx2⟩ := hl.nth hv
     refine ⟨x, ?_, hx2⟩
     rw [Array.getElem?_append_left (by have := (List.getElem?_eq_some_iff.1 hx1).1; simpa using this)]
     simpa using hx1)
   rw [Nat.zero_add] at hrun hg1
   exact ⟨_, _, _, hrun, sl_new (Or.inr (by omega)), h18, h19⟩
 |sl i o n cp c' r hr hc =>
  have hm' : (Bool.rec (ebind (ecells i) fun old => ecase [53] (iand (Nat.beq o 0) (iand (esmall P e (Nat.add n m)) (iand (Nat.beq old.1 e) (iand (Nat.ble n cp) (iand (Nat.ble (Nat.mul cp z) (llen old.2.1)) (Nat.ble old.2.2 (Nat.mul n z)))))))
    (ebind (edel i) fun _ => ebind (enew (.cs e (lapp (ltake old.2.1 (Nat.mul n z)) l) old.2.2)) fun j => epure (.sl j 0 (Nat.add n m) (Nat.add n m))))
   (ebind (eput i (Nat.add o (Nat.mul n z)) l) fun _ => epure (.sl i o (Nat.add n m) cp))
   (Nat.ble (Nat.add n m) cp) : EM AV) s = .ok v s' := hm
  by_cases hroom : n + m ≤ cp
  ·rw [show Nat.ble (Nat.add n m) cp = true from nble_iff.2 hroom] at hm'
   obtain ⟨u, s1, h2, h3⟩ := ebind_ok hm'
   obtain ⟨rfl, rfl⟩ := epure_ok h3
   obtain ⟨w', h4, h5⟩ := put_run h2 hl hr hw
   obtain ⟨_, _, _, _, _, _, _, _, hnx⟩ := eput_ok h2
   have hle : n + m ≤ c' := by rcases hc with rfl | rfl <;> omega
   refine ⟨ρ, .slice (some ⟨r.b, r.d + o, none⟩) (n + m) c', w', ?_, .sl i o (n + m) cp c' r hr hc, h5, by rw [hnx]; exact EExt.refl _ _ _⟩
   have h6 : (storeCells ⟨r.b, r.d + o + n * z, none⟩ news).run P w = .ok () w' := by rw [Nat.add_assoc]; exact h4
   rcases hd2 with ⟨e', rfl⟩ | rfl <;> simp [Builtin.append_, run_un ht, run_un ht2, run_sz hz, hlen, hle, hfirst w rfl, add_none, h6]
  ·rw [show Nat.ble (Nat.add n m) cp = false from by rw [Bool.eq_false_iff]; exact fun h => hroom (nble_iff.1 h)] at hm'
   obtain ⟨old, s1, h2, h3⟩ := ebind_ok hm'
   obtain ⟨hb, rfl⟩ := ecells_ok h2
   obtain ⟨h4, h5⟩ := ecase_ok h3
   simp only [iand_eq, Bool.and_eq_true] at h4
   obtain ⟨e1, e2, e3, e4, e5, e6⟩ := h4
   have ho := nbeq_t e1
   subst ho
   obtain ⟨hsm, ti, u, hi, hb1, hb2, hu, hus⟩ := esmall_all e2
   have hte := nbeq_t e3
   have hncp := nble_iff.1 e4
   have hcpz : cp * z ≤ llen old.2.1 := nble_iff.1 e5
   rw [llen_eq] at hcpz
   have hfz : old.2.2 ≤ n * z := nble_iff.1 e6
   have hsm' : n + m < 1000000 := hsm
   obtain ⟨u1, s2, h6, h7⟩ := ebind_ok h5
   obtain ⟨j, s3, h8, h9⟩ := ebind_ok h7
   obtain ⟨rfl, rfl⟩ := epure_ok h9
   obtain ⟨hd1, hd2'⟩ := edel_hp h6
   obtain ⟨rfl, h10⟩ := enew_ok h8
   have hnx2 : s2.nx = s.nx := hd2'
   have hn : ρ s.nx = none := hf _ (Nat.le_refl _) (by rw [h10]; show s.nx < s2.nx + 1; omega)
   obtain ⟨ti2, hi2, hsz⟩ := tySz_info hz
   rw [hi] at hi2
   cases hi2
   obtain ⟨c, f, z2, hc1, hz2, hd0, hr1, hl1⟩ := hp_cells hw hb hr
   rw [hte, hz] at hz2
   cases hz2
   rw [hd0] at hr1 hl1
   have hnz : n * z ≤ old.2.1.length := Nat.le_trans (Nat.mul_le_mul_right _ hncp) hcpz
   have hnew : (lapp (ltake old.2.1 (Nat.mul n z)) l) = old.2.1.take (n * z) ++ l := by rw [lapp_eq, ltake_eq]; rfl
   have hnewl : (old.2.1.take (n * z) ++ l).length = (n + m) * z := by
    rw [List.length_append, List.length_take, Nat.min_eq_left hnz, hl.length, hln, Nat.add_mul]
   rw [hnew] at h10
   by_cases hin : n + m ≤ c'
   ·-- the model finds room
    have hcr : c' = cp + r.k := by rcases hc with rfl | rfl; omega; rfl
    have hroom2 : n * z + m * z + (c' - (n + m)) * z ≤ c.size := by
     have h11 : (n + m) * z + (c' - (n + m)) * z = c' * z := by rw [← Nat.add_mul]; congr 1; omega
     have h12 : c' * z = cp * z + r.k * z := by rw [hcr, Nat.add_mul]
     have := hr1.1
     rw [Nat.add_mul] at h11
     omega
    obtain ⟨cs', w', h13, h14, h15, h16⟩ := store_run P r.b (0 + n * z) e f news 0 c w (by rw [← hte]; exact hc1) (by rw [hln]; omega) (fun k hk hk2 => hr1.2.1 k (fun _ => by omega) (by rw [hln] at hk2; omega)) hone
    refine ⟨eup ρ s.nx ⟨r.b, 0, c' - (n + m)⟩, .slice (some ⟨r.b, 0 + 0, none⟩) (n + m) c', w', ?_, ?_, ?_, ?_⟩
    ·have h17 : (storeCells ⟨r.b, n * z, none⟩ news).run P w = .ok () w' := by rw [Nat.zero_add] at h13; exact h13
     rw [hd0]
     rcases hd2 with ⟨e', rfl⟩ | rfl <;> simp [Builtin.append_, run_un ht, run_un ht2, run_sz hz, hlen, hin, hfirst w rfl, add_none, h17]
    ·rw [hnx2]
     exact VR.sl _ 0 (n + m) (n + m) c' ⟨r.b, 0, c' - (n + m)⟩ (eup_same _ _ _) (Or.inr (by show c' = n + m + (c' - (n + m)); omega))
    ·have hp' : s'.hp = ((s.hp.del (i + 1)).set (s.nx + 1) (.cs e (old.2.1.take (n * z) ++ l) old.2.2)) := by rw [h10]; show s2.hp.set (s2.nx + 1) _ = _; rw [hd1, hnx2]
     rw [hp']
     refine hw.take hb hr rfl hn h14 ⟨cs', f, z, rfl, hz, rfl, ⟨?_, fun k hk hk2 => hr1.2.1 k (fun _ => hk (by rw [hnewl, Nat.add_mul]; omega)) (by omega), fun _ => hr1.2.2 (Nat.le_trans hfz hnz)⟩, fun j v hv => ?_⟩
     ·rw [hnewl, h15]
      show 0 + (n + m) * z + (c' - (n + m)) * z ≤ _
      rw [Nat.add_mul]
      omega
     ·show ∃ x, cs'[0 + j]? = some x ∧ _
      rw [h16]
      by_cases hj : j < n * z
      ·rw [if_neg (by omega)]
       rw [List.getElem?_append_left (by rw [List.length_take, Nat.min_eq_left hnz]; exact hj), List.getElem?_take, if_pos hj] at hv
       obtain ⟨x, hx1, hx2⟩ := hl1 j v hv
       exact ⟨x, hx1, hx2.up (eup_le hn)⟩
      ·rw [List.getElem?_append_right (by rw [List.length_take, Nat.min_eq_left hnz]; omega), List.length_take, Nat.min_eq_left hnz] at hv
       obtain ⟨x, hx1, hx2⟩ := hl.nth hv
       have := (List.getElem?_eq_some_iff.1 hx1).1
       rw [if_pos (by omega), show 0 + j - (0 + n * z + 0) = j - n * z by omega]
       exact ⟨x, hx1, hx2.up (eup_le hn)⟩
    ·rw [h10]
     show EExt ρ _ s.nx (s2.nx + 1)
     rw [hnx2]
     exact EExt.one hn
   ·-- the model makes a new row
    have hold : ∃ olds, olds.length = n * z ∧ VRs ρ (old.2.1.take (n * z)) olds ∧ (Builtin.firstCells z n (.slice (some ⟨r.b, r.d + 0, none⟩) n c')).run P w.drew = .ok olds.toArray w.drew := by
     have hcell : ∀ j, j < n * z → ∃ u x, old.2.1[j]? = some u ∧ c[0 + j]? = some x ∧ VR ρ u x := fun j hj => by
      obtain ⟨x, hx, hv⟩ := hl1 j _ (List.getElem?_eq_getElem (by omega))
      exact ⟨_, x, List.getElem?_eq_getElem (by omega), hx, hv⟩
     refine ⟨(List.range (n * z)).map fun j => c.getD (0 + j) undef, by simp, VRs.mk (by simp; omega) fun j u x hu hx => ?_, ?_⟩
     ·have hj : j < n * z := by
       have := (List.getElem?_eq_some_iff.1 hx).1
       simpa using this
      obtain ⟨u', x', h6, h7, h8⟩ := hcell j hj
      rw [List.getElem?_take, if_pos hj, h6] at hu
      cases hu
      rw [List.getElem?_map, List.getElem?_range hj] at hx
      simp only [Option.map_some, Option.some.injEq] at hx
      rw [Array.getD_eq_getD_getElem?, h7] at hx
      cases hx
      exact h8
     ·have := run_loadCells (P := P) w.drew ⟨r.b, 0, none⟩ (n * z) (fun j => c.getD (0 + j) undef) (fun j hj => by
       obtain ⟨u, x, _, hx, _⟩ := hcell j hj
       have hh : w.drew.heap[r.b]? = some (.cells c old.1 f) := hc1
       rw [add_none, cell_of_block hh, Array.getD_eq_getD_getElem?, hx]; rfl)
      rw [hd0]
      simp only [Builtin.firstCells, Nat.add_zero, this]
    obtain ⟨olds, ho1, ho2, ho3⟩ := hold
    obtain ⟨gc, rest, hg1, hg2, hrun⟩ := grow_run (P := P) (ty := ty) ht hz hi hu hb2 (some ⟨r.b, r.d + 0, none⟩) n c' m y olds news w hsrc ho3 (by omega) hsm'
    have hall : VRs ρ (old.2.1.take (n * z) ++ l) (olds ++ news) := ho2.append hl
    have hw2 : ERel P w0 ρ (s.hp.del (i + 1)) w.drew := (hw.drew).del i
    refine ⟨eup ρ s.nx ⟨w.heap.size, 0, gc - (n + m)⟩, _, _, hrun, ?_, ?_, ?_⟩
    ·rw [hnx2]
     exact VR.sl _ 0 (n + m) (n + m) gc ⟨w.heap.size, 0, gc - (n + m)⟩ (eup_same _ _ _) (Or.inr (by show gc = n + m + (gc - (n + m)); omega))
    ·have hp' : s'.hp = ((s.hp.del (i + 1)).set (s.nx + 1) (.cs e (old.2.1.take (n * z) ++ l) old.2.2)) := by rw [h10]; show s2.hp.set (s2.nx + 1) _ = _; rw [hd1, hnx2]
     rw [hp']
     refine ERel.alloc (k := gc - (n + m)) (w := w.drew) hw2 hn ⟨_, (0, 0), z, rfl, hz, rfl, ⟨?_, fun k _ _ => by simp, fun _ => Or.inl rfl⟩, fun j v hv => ?_⟩
     ·rw [hnewl, Array.size_append, hg2, hus, hsz]
      simp only [List.size_toArray, List.length_append, ho1, hln]
      show 0 + (n + m) * z + (gc - (n + m)) * z ≤ _
      rw [Nat.add_mul]
      omega
     ·obtain ⟨x, hx1, hx2⟩ := hall.nth hv
      refine ⟨x, ?_, hx2.up (eup_le hn)⟩
      show ((olds ++ news).toArray ++ rest)[0 + j]? = _
      rw [Nat.zero_add, Array.getElem?_append_left (by have := (List.getElem?_eq_some_iff.1 hx1).1; simpa using this)]
      simpa using hx1
    ·rw [h10]
     show EExt ρ _ s.nx (s2.nx + 1)
     rw [hnx2]
     exact EExt.one hn
 |sz i o r hr ad =>
  have hm' : (Bool.rec (ebind (ecells i) fun old => ecase [53] (iand (Nat.beq o 0) (iand (esmall P e (Nat.add 0 m)) (iand (Nat.beq old.1 e) (iand (Nat.ble 0 0) (iand (Nat.ble (Nat.mul 0 z) (llen old.2.1)) (Nat.ble old.2.2 (Nat.mul 0 z)))))))
    (ebind (edel i) fun _ => ebind (enew (.cs e (lapp (ltake old.2.1 (Nat.mul 0 z)) l) old.2.2)) fun j => epure (.sl j 0 (Nat.add 0 m) (Nat.add 0 m))))
   (ebind (eput i (Nat.add o (Nat.mul 0 z)) l) fun _ => epure (.sl i o (Nat.add 0 m) 0))
   (Nat.ble (Nat.add 0 m) 0) : EM AV) s = .ok v s' := hm
  by_cases h0 : m = 0
  ·subst h0
   obtain ⟨u, s1, h2, h3⟩ := ebind_ok (m := eput i (Nat.add o (Nat.mul 0 z)) l) hm'
   obtain ⟨rfl, rfl⟩ := epure_ok h3
   have hn0 : news = [] := List.length_eq_zero_iff.1 (by rw [hln]; simp)
   subst hn0
   obtain ⟨w', h4, h5⟩ := put_run h2 hl hr hw
   obtain ⟨_, _, _, _, _, _, _, _, hnx⟩ := eput_ok h2
   have hww : w' = w := by
    have : (Result.ok () w : Result Unit) = .ok () w' := h4
    cases this; rfl
   subst hww
   refine ⟨ρ, .slice (some ad) 0 0, w', ?_, .sz i o r hr ad, h5, by rw [hnx]; exact EExt.refl _ _ _⟩
   rcases hd2 with ⟨e', rfl⟩ | rfl <;> simp [Builtin.append_, run_un ht, run_un ht2, run_sz hz, hlen, hfirst w' rfl, storeCells]
  ·rw [show Nat.ble (Nat.add 0 m) 0 = false from by rw [Bool.eq_false_iff]; intro h; have h' : 0 + m ≤ 0 := nble_iff.1 h; omega] at hm'
   obtain ⟨old, s1, h2, h3⟩ := ebind_ok hm'
   obtain ⟨hb, rfl⟩ := ecells_ok h2
   obtain ⟨h4, h5⟩ := ecase_ok h3
   simp only [iand_eq, Bool.and_eq_true] at h4
   obtain ⟨e1, e2, e3, e4, e5, e6⟩ := h4
   obtain ⟨hsm, ti, u, hi, hb1, hb2, hu, hus⟩ := esmall_all e2
   have hfz : old.2.2 ≤ 0 * z := nble_iff.1 e6
   have hsm' : 0 + m < 1000000 := hsm
   obtain ⟨u1, s2, h6, h7⟩ := ebind_ok h5
   obtain ⟨j, s3, h8, h9⟩ := ebind_ok h7
   obtain ⟨rfl, rfl⟩ := epure_ok h9
   obtain ⟨hd1, hd2'⟩ := edel_hp h6
   obtain ⟨rfl, h10⟩ := enew_ok h8
   have hnx2 : s2.nx = s.nx := hd2'
   have hn : ρ s.nx = none := hf _ (Nat.le_refl _) (by rw [h10]; show s.nx < s2.nx + 1; omega)
   obtain ⟨ti2, hi2, hsz⟩ := tySz_info hz
   rw [hi] at hi2
   cases hi2
   obtain ⟨gc, rest, hg1, hg2, hrun⟩ := grow_run (P := P) (ty := ty) ht hz hi hu hb2 (some ad) 0 0 m y [] news w hsrc (by simp [Builtin.firstCells, loadCells, loadCellsFrom]) (by omega) hsm'
   have hnew : (lapp (ltake old.2.1 (Nat.mul 0 z)) l) = l := by rw [lapp_eq, ltake_eq, show Nat.mul 0 z = 0 from Nat.zero_mul z]; rfl
   rw [hnew] at h10
   have hw2 : ERel P w0 ρ (s.hp.del (i + 1)) w.drew := (hw.drew).del i
   refine ⟨eup ρ s.nx ⟨w.heap.size, 0, gc - (0 + m)⟩, _, _, hrun, ?_, ?_, ?_⟩
   ·rw [hnx2]
    exact VR.sl _ 0 (0 + m) (0 + m) gc ⟨w.heap.size, 0, gc - (0 + m)⟩ (eup_same _ _ _) (Or.inr (by show gc = 0 + m + (gc - (0 + m)); omega))
   ·have hp' : s'.hp = ((s.hp.del (i + 1)).set (s.nx + 1) (.cs e l old.2.2)) := by rw [h10]; show s2.hp.set (s2.nx + 1) _ = _; rw [hd1, hnx2]
    rw [hp']
    refine ERel.alloc (k := gc - (0 + m)) (w := w.drew) hw2 hn ⟨_, (0, 0), z, rfl, hz, rfl, ⟨?_, fun k _ _ => by simp, fun _ => Or.inl rfl⟩, fun j v hv => ?_⟩
    ·rw [hl.length, hln, Array.size_append, hg2, hus, hsz]
     simp only [List.size_toArray, List.nil_append, hln]
     show 0 + m * z + (gc - (0 + m)) * z ≤ _
     omega
    ·obtain ⟨x, hx1, hx2⟩ := hl.nth hv
     refine ⟨x, ?_, hx2.up (eup_le hn)⟩
     show (([] ++ news).toArray ++ rest)[0 + j]? = _
     rw [Nat.zero_add, Array.getElem?_append_left (by have := (List.getElem?_eq_some_iff.1 hx1).1; simpa using this)]
     simpa using hx1
   ·rw [h10]
    show EExt ρ _ s.nx (s2.nx + 1)
    rw [hnx2]
    exact EExt.one hn
 |_ => exact (efail_ok (e := [54]) (s := s) hm).elim
end
section
set_option linter.unusedSectionVars false
open Go.RowKit
variable [Val]
variable {P : Program} {w0 : World} {ρ : ERho}
theorem ev_append {t t2 ty : TypeId} {a b : AV} {x y : Value} (ha : VR ρ a x) (hb : VR ρ b y) : EV P w0 ρ (eappend P t t2 a b) (Builtin.append_ #[t, t2] ty #[x, y]) := by
 unfold eappend
 split
 ·rename_i e k ht ht2
  exact ev_appendZ ht ht2 ha hb
 ·rename_i e e2 ht ht2
  intro s v s' hm w hw hf
  obtain ⟨z, s1, h1, h2⟩ := ebind_ok hm
  obtain ⟨hz, rfl⟩ := esz_ok h1
  obtain ⟨h2a, h2b⟩ := ecase_ok h2
  obtain ⟨⟨l, m⟩, s2, h3, h4⟩ := ebind_ok h2b
  obtain ⟨h5, h6⟩ := ecase_ok h4
  have hst : ∀ c, b = .st c ∨ b = .ss c → z = 1 := fun c e => by
   rcases e with e | e <;> subst e <;>
   exact nbeq_t h2a
  obtain ⟨h7, h8, news, h9, h10, h11, h12⟩ := esrc_run h3 hb hw hst
  have hw2 : ERel P w0 ρ s2.hp w := by rw [h7]; exact hw
  obtain ⟨σ, u, w', h13, h14, h15, h16⟩ := ev_appendC (ty := ty) ht hz ht2 (Or.inl ⟨e2, rfl⟩) ha h9 h10 h5 h11 h6 hw2 (fun j hj hj2 => hf j (by omega) hj2) (fun w' hw' => by
   have := h12 m (Nat.le_refl _) w' hw'
   rwa [List.take_of_length_le (by omega)] at this)
  exact ⟨σ, u, w', h13, h14, h15, by rw [← h8]; exact h16⟩
 ·rename_i e ht ht2
  intro s v s' hm w hw hf
  obtain ⟨z, s1, h1, h2⟩ := ebind_ok hm
  obtain ⟨hz, rfl⟩ := esz_ok h1
  obtain ⟨h2a, h2b⟩ := ecase_ok h2
  obtain ⟨⟨l, m⟩, s2, h3, h4⟩ := ebind_ok h2b
  obtain ⟨h5, h6⟩ := ecase_ok h4
  obtain ⟨h7, h8, news, h9, h10, h11, h12⟩ := esrc_run h3 hb hw (fun _ _ => nbeq_t h2a)
  have hw2 : ERel P w0 ρ s2.hp w := by rw [h7]; exact hw
  obtain ⟨σ, u, w', h13, h14, h15, h16⟩ := ev_appendC (ty := ty) ht hz ht2 (Or.inr rfl) ha h9 h10 h5 h11 h6 hw2 (fun j hj hj2 => hf j (by omega) hj2) (fun w' hw' => by
   have := h12 m (Nat.le_refl _) w' hw'
   rwa [List.take_of_length_le (by omega)] at this)
  exact ⟨σ, u, w', h13, h14, h15, by rw [← h8]; exact h16⟩
 ·exact ev_fail
theorem ev_copy {t : TypeId} {ts : List TypeId} {ty : TypeId} {a b : AV} {x y : Value} (ha : VR ρ a x) (hb : VR ρ b y) : EV P w0 ρ (ecopy P t a b) (Builtin.copy_ (t :: ts).toArray ty #[x, y]) := by
 unfold ecopy
 split
 ·rename_i e ht
  intro s v s' hm w hw hf
  obtain ⟨z, s1, h1, h2⟩ := ebind_ok hm
  obtain ⟨hz, rfl⟩ := esz_ok h1
  obtain ⟨h2a, h2b⟩ := ecase_ok h2
  obtain ⟨⟨l, m⟩, s2, h3, h4⟩ := ebind_ok h2b
  have hst : ∀ c, b = .st c ∨ b = .ss c → z = 1 := fun c e => by
   rcases e with e | e <;> subst e <;>
   exact nbeq_t h2a
  obtain ⟨h7, h8, news, h9, h10, h11, h12⟩ := esrc_run h3 hb hw hst
  have hw2 : ERel P w0 ρ s2.hp w := by rw [h7]; exact hw
  cases ha with
  |sn =>
   obtain ⟨rfl, rfl⟩ := epure_ok (a := AV.it .i64 0) h4
   refine ⟨ρ, .int .i64 0, w, ?_, .it _ _, hw2, by rw [h8]; exact EExt.refl _ _ _⟩
   have h13 := h12 0 (Nat.zero_le _) w rfl
   simp [Builtin.copy_, run_un ht, run_sz hz, h11, h13, goInt]
  |sl i o n c c' r hr hc =>
   obtain ⟨u, s3, h5, h6⟩ := ebind_ok h4
   obtain ⟨rfl, rfl⟩ := epure_ok h6
   have hk : Nat.min m n ≤ m := Nat.min_le_left _ _
   have h13 := h12 (Nat.min m n) hk w rfl
   have hl2 : VRs ρ (ltake l (Nat.mul (Nat.min m n) z)) (news.take (Nat.min m n * z)) := by rw [ltake_eq]; exact h9.take _
   obtain ⟨w', h14, h15⟩ := put_run h5 hl2 hr hw2
   obtain ⟨_, _, _, _, _, _, _, _, hnx⟩ := eput_ok h5
   refine ⟨ρ, .int .i64 (Nat.min m n : Nat), w', ?_, .it _ _, h15, by rw [hnx, h8]; exact EExt.refl _ _ _⟩
   simp [Builtin.copy_, run_un ht, run_sz hz, h11, h13, h14, goInt]
  |sz i o r hr ad =>
   obtain ⟨u, s3, h5, h6⟩ := ebind_ok h4
   obtain ⟨rfl, rfl⟩ := epure_ok h6
   have h13 := h12 0 (Nat.zero_le _) w rfl
   have hl2 : VRs ρ (ltake l (Nat.mul (Nat.min m 0) z)) [] := by
    rw [ltake_eq, show Nat.mul (Nat.min m 0) z = 0 from by rw [show Nat.min m 0 = 0 from Nat.min_zero m]; exact Nat.zero_mul z]
    simpa using VRs.nil
   obtain ⟨w', h14, h15⟩ := put_run h5 hl2 hr hw2
   obtain ⟨_, _, _, _, _, _, _, _, hnx⟩ := eput_ok h5
   have hww : w' = w := by
    have : (Result.ok () w : Result Unit) = .ok () w' := h14
    cases this; rfl
   subst hww
   refine ⟨ρ, .int .i64 (Nat.min m 0 : Nat), w', ?_, .it _ _, h15, by rw [hnx, h8]; exact EExt.refl _ _ _⟩
   simp [Builtin.copy_, run_un ht, run_sz hz, h11, h13, goInt, show Nat.min m 0 = 0 from Nat.min_zero m, storeCells]
  |_ => exact (efail_ok (e := [55]) (s := s2) h4).elim
 ·exact ev_fail
theorem EntsR.length {es : List (AV × AV × Nat)} {ms : List MapEntry} (h : EntsR ρ es ms) : es.length = ms.length := by
 induction h with
 |nil => rfl
 |cons _ _ _ _ _ _ ih => exact congrArg Nat.succ ih
theorem emap_ok {i : Nat} {x : List (AV × AV × Nat) × Nat} {s s' : ESt} (h : emap i s = .ok x s') : s.hp.get (i + 1) = some (.ma x.1 x.2) ∧ s' = ⟨s.hp, s.nx, s.rd ||| (1 <<< i), s.wr⟩ := by
 obtain ⟨b, s1, h1, h2⟩ := ebind_ok h
 obtain ⟨h3, rfl⟩ := eget_ok h1
 cases b with
 |ma es c =>
  obtain ⟨rfl, rfl⟩ := epure_ok h2
  exact ⟨h3, rfl⟩
 |_ => exact (efail_ok h2).elim
theorem hp_map {hp : ET Blk} {w : World} (h : ERel P w0 ρ hp w) {i : Nat} {es : List (AV × AV × Nat)} {c : Nat} (hb : hp.get (i + 1) = some (.ma es c)) {r : RI} (hr : ρ i = some r) : ∃ ms, w.heap[r.b]? = some (.map ms c) ∧ EntsR ρ es ms.toList := by
 obtain ⟨r1, o, e1, _, h2, h3⟩ := h.blk i _ hb
 rw [hr] at e1
 cases e1
 obtain ⟨ms, rfl, h5⟩ := h3
 exact ⟨ms, h2, h5⟩
theorem run_getMap {w : World} {b : Nat} {ms : Array MapEntry} {c : Nat} (h : w.heap[b]? = some (.map ms c)) : (getObj b).run P w = .ok (.map ms c) w := by
 simp only [getObj, Sem.run, h]
theorem ev_len {t : TypeId} {ts : List TypeId} {ty : TypeId} {a : AV} {x : Value} (ha : VR ρ a x) : EV P w0 ρ (elen P t a) (Builtin.len_ (t :: ts).toArray ty #[x]) := by
 unfold elen
 split
 ·rename_i b hu
  cases ha with
  |st _ hs => exact ev_pure fun w => ⟨.int .i64 (b.length : Int), by simp [Builtin.len_, run_un hu, goInt, bsA_size], by rw [llen_eq]; exact .it _ _⟩
 ·rename_i sy hu
  cases ha with
  |ss _ b hs => exact ev_pure fun w => ⟨.int .i64 (b.length : Int), by simp [Builtin.len_, run_un hu, goInt, bsA_size], by rw [llen_eq, hs.length]; exact .it _ _⟩
 ·rename_i e i o n c hu
  cases ha with
  |sl _ _ _ _ c' r hr hc => exact ev_pure fun w => ⟨.int .i64 (n : Int), by simp [Builtin.len_, run_un hu, goInt], .it _ _⟩
  |sz _ _ r hr ad => exact ev_pure fun w => ⟨.int .i64 0, by simp [Builtin.len_, run_un hu, goInt], .it _ _⟩
 ·rename_i e hu
  cases ha
  exact ev_pure fun w => ⟨.int .i64 0, by simp [Builtin.len_, run_un hu, goInt], .it _ _⟩
 ·rename_i k e hu
  cases ha
  exact ev_pure fun w => ⟨.int .i64 0, by simp [Builtin.len_, run_un hu, goInt], .it _ _⟩
 ·rename_i k e i hu
  cases ha with
  |mp _ r hr =>
   refine ev_calm fun s v s' hm => ?_
   obtain ⟨m, s1, h1, h2⟩ := ebind_ok hm
   obtain ⟨hb, rfl⟩ := emap_ok h1
   obtain ⟨rfl, rfl⟩ := epure_ok h2
   refine ⟨rfl, rfl, fun w hw => ?_⟩
   obtain ⟨ms, h3, h4⟩ := hp_map hw hb hr
   refine ⟨.int .i64 (ms.size : Int), by simp [Builtin.len_, run_un hu, goInt, run_getMap h3], ?_⟩
   rw [llen_eq, h4.length, Array.length_toList]
   exact .it _ _
 ·rename_i n e hu
  exact ev_pure fun w => ⟨.int .i64 (n : Int), by simp [Builtin.len_, run_un hu, goInt], .it _ _⟩
 ·exact ev_fail
theorem ev_cap {t : TypeId} {ts : List TypeId} {ty : TypeId} {a : AV} {x : Value} (ha : VR ρ a x) : EV P w0 ρ (ecap P t a) (Builtin.cap_ (t :: ts).toArray ty #[x]) := by
 unfold ecap
 split
 ·rename_i e hu
  cases ha
  exact ev_pure fun w => ⟨.int .i64 0, by simp [Builtin.cap_, run_un hu, goInt], .it _ _⟩
 ·exact ev_fail
theorem ev_min {ts : Array TypeId} {ty : TypeId} {l : List AV} {xs : List Value} (h : VRs ρ l xs) : EV P w0 ρ (eminmax false l) (Builtin.min_ ts ty xs.toArray) := by
 unfold eminmax
 split
 ·rename_i k a j b
  cases h with
  |cons _ x _ xs h1 h2 => cases h2 with
   |cons _ y _ ys h3 h4 =>
     cases h4; cases h1; cases h3
     refine ev_case fun _ => ev_pure fun w => ⟨.int k (if b < a then b else a), by simp [Builtin.min_, Builtin.min2], ?_⟩
     rw [show (Bool.rec (Bool.rec a b (ilt b a)) (Bool.rec a b (ilt a b)) false : Int) = if b < a then b else a from by
      show (Bool.rec a b (ilt b a) : Int) = _
      rw [ilt_eq]
      by_cases hlt : b < a <;> simp [hlt]]
     exact .it _ _
 ·exact ev_fail
theorem ev_max {ts : Array TypeId} {ty : TypeId} {l : List AV} {xs : List Value} (h : VRs ρ l xs) : EV P w0 ρ (eminmax true l) (Builtin.max_ ts ty xs.toArray) := by
 unfold eminmax
 split
 ·rename_i k a j b
  cases h with
  |cons _ x _ xs h1 h2 => cases h2 with
   |cons _ y _ ys h3 h4 =>
     cases h4; cases h1; cases h3
     refine ev_case fun _ => ev_pure fun w => ⟨.int k (if a < b then b else a), by simp [Builtin.max_, Builtin.max2], ?_⟩
     rw [show (Bool.rec (Bool.rec a b (ilt b a)) (Bool.rec a b (ilt a b)) true : Int) = if a < b then b else a from by
      show (Bool.rec a b (ilt a b) : Int) = _
      rw [ilt_eq]
      by_cases hlt : a < b <;> simp [hlt]]
     exact .it _ _
 ·exact ev_fail
theorem vzero_ok {t : TypeId} {a : AV} {s s' : ESt} (h : vzero P t s = .ok a s') : s' = s ∧ ∃ u, (∀ w, (zeroValue t).run P w = .ok u w) ∧ ∀ ρ, VR ρ a u := by
 obtain ⟨h1, rfl⟩ := eopt_ok h
 cases hi : P.info? t with
 |none => rw [hi] at h1; cases h1
 |some i =>
  rw [hi] at h1
  have h2 : (Option.rec none (fun v => ofV v) i.zero : Option AV) = some a := h1
  cases hz : i.zero with
  |none => rw [hz] at h2; cases h2
  |some u =>
   rw [hz] at h2
   exact ⟨rfl, u, fun w => by simp [zeroValue, typeInfo, hi, hz], fun ρ => ofV_vr h2 ρ⟩
theorem pair_vr {a : AV} {x : Value} (h : VR ρ a x) (b : Bool) : VR ρ (.tu [a, .bo b]) (.tuple #[x, .bool b]) := VR.tu [a, .bo b] [x, .bool b] (.cons _ _ _ _ h (.one (.bo b)))
theorem ev_assert {a : AV} {x : Value} {xt t : TypeId} {ok : Bool} (ha : VR ρ a x) : EV P w0 ρ (eassert P a t ok) (Instr.typeAssert x xt t ok) := by
 unfold eassert
 split
 ·exact ev_fail
 ·rename_i d hd hu
  cases ha with
  |ic t' v y hv =>
   have hni : ∀ ms, d ≠ .interface ms := fun ms h => hd ms (by rw [← h])
   by_cases he : t' = t
   ·subst he
    refine ev_calm fun s u s' hm => ?_
    have hm' : epure (Bool.rec v (.tu [v, .bo true]) ok : AV) s = .ok u s' := by
     have hm2 : (Bool.rec (ecase [71] ok (ebind (vzero P t') fun z => epure (.tu [z, .bo false]))) (epure (Bool.rec v (.tu [v, .bo true]) ok)) (Nat.beq t' t') : EM AV) s = .ok u s' := hm
     rw [show Nat.beq t' t' = true from by rw [nbeq]; simp] at hm2
     exact hm2
    obtain ⟨rfl, rfl⟩ := epure_ok hm'
    refine ⟨rfl, rfl, fun w _ => ?_⟩
    cases ok with
    |false => exact ⟨y, by cases d <;> first | (exact absurd rfl (hni _)) | simp [Instr.typeAssert, run_un hu], hv⟩
    |true => exact ⟨.tuple #[y, .bool true], by cases d <;> first | (exact absurd rfl (hni _)) | simp [Instr.typeAssert, run_un hu], pair_vr hv true⟩
   ·refine ev_calm fun s u s' hm => ?_
    have hm' : ecase [71] ok (ebind (vzero P t) fun z => epure (.tu [z, .bo false])) s = .ok u s' := by
     have hm2 : (Bool.rec (ecase [71] ok (ebind (vzero P t) fun z => epure (.tu [z, .bo false]))) (epure (Bool.rec v (.tu [v, .bo true]) ok)) (Nat.beq t' t) : EM AV) s = .ok u s' := hm
     rw [nbeq_f he] at hm2
     exact hm2
    obtain ⟨rfl, h1⟩ := ecase_ok hm'
    obtain ⟨z, s1, h2, h3⟩ := ebind_ok h1
    obtain ⟨rfl, y', h4, h5⟩ := vzero_ok h2
    obtain ⟨rfl, rfl⟩ := epure_ok h3
    refine ⟨rfl, rfl, fun w _ => ⟨.tuple #[y', .bool false], ?_, pair_vr (h5 ρ) false⟩⟩
    cases d <;> first | (exact absurd rfl (hni _)) | simp [Instr.typeAssert, run_un hu, he, h4]
  |_ => exact ev_fail
 ·exact ev_fail
end
section
set_option linter.unusedSectionVars false
open Go.RowKit
variable [Val]
variable {P : Program} {w0 : World} {ρ : ERho}
theorem EntsR.nth : ∀ {es : List (AV × AV × Nat)} {ms : List MapEntry}, EntsR ρ es ms → ∀ {i : Nat} {e : AV × AV × Nat}, es[i]? = some e → ∃ m, ms[i]? = some m ∧ EntR ρ e m
 |_, _, .nil, i, e, h => by simp at h
 |_, _, .cons e m es ms hv hs, 0, u, h => by
  simp only [List.getElem?_cons_zero, Option.some.injEq] at h
  subst h
  exact ⟨m, rfl, hv⟩
 |_, _, .cons e m es ms hv hs, i + 1, u, h => hs.nth (by simpa using h)
theorem EntsR.mk : ∀ {es : List (AV × AV × Nat)} {ms : List MapEntry}, es.length = ms.length → (∀ (i : Nat) (e : AV × AV × Nat) (m : MapEntry), es[i]? = some e → ms[i]? = some m → EntR ρ e m) → EntsR ρ es ms
 |[], [], _, _ => .nil
 |[], _ :: _, h, _ => by simp at h
 |_ :: _, [], h, _ => by simp at h
 |e :: es, m :: ms, h, hv => .cons e m es ms (hv 0 e m rfl rfl) (EntsR.mk (by simpa using h) fun i u y hu hy => hv (i + 1) u y (by simpa using hu) (by simpa using hy))
theorem bsA_inj {a b : List Nat} (ha : ∀ x ∈ a, x < 256) (hb : ∀ x ∈ b, x < 256) (h : bsA a = bsA b) : a = b := by
 have h1 := congrArg ByteArray.toList h
 rw [bsA_toList, bsA_toList] at h1
 have h2 := bsA_beq ha hb
 rw [h1] at h2
 simpa using h2.symm
theorem ba_beq {a b : ByteArray} (h : (a == b) = true) : a = b := by
 have : a.data == b.data := h
 exact ByteArray.ext (by simpa using this)
theorem ba_refl (a : ByteArray) : (a == a) = true := by
 show (a.data == a.data) = true
 simp
theorem ekey_run {d : TypeDesc} {k x : AV} {b : Bool} (h : ekey d k x = some b) {kv xv : Value} (hk : VR ρ k kv) (hx : VR ρ x xv) : Instr.sameNow d kv xv = some b ∧ (b = true → kv = xv ∧ ∀ n, Instr.sameBits n kv xv = true) := by
 unfold ekey at h
 split at h
 ·rename_i k0 j a i b'
  cases hk
  cases hx
  cases he : ikeq j i with
  |false => rw [he] at h; cases h
  |true =>
   rw [he] at h
   have := ikeq_eq he
   subst this
   cases h
   refine ⟨by simp [Instr.sameNow, ieq_eq], fun hb => ?_⟩
   rw [ieq_eq] at hb
   have := beq_iff_eq.1 hb
   subst this
   exact ⟨rfl, fun n => by simp [Instr.sameBits]⟩
 ·rename_i a b'
  cases hk with
  |st _ h1 => cases hx with
   |st _ h2 =>
    cases h
    have e : (bsA a == bsA b') = leq a b' := by
     rw [leq_iff, Bool.eq_iff_iff]
     constructor
     ·intro h
      rw [bsA_inj h1 h2 (ba_beq h)]
      simp
     ·intro h
      rw [beq_iff_eq.1 h]
      exact ba_refl _
    refine ⟨by simp [Instr.sameNow, e], fun hb => ?_⟩
    rw [leq_iff, beq_iff_eq] at hb
    subst hb
    exact ⟨rfl, fun n => by cases n <;> exact ba_refl _⟩
 ·cases h
def FindR (ρ : ERho) (es : List (AV × AV × Nat)) (ms : List MapEntry) (kv : Value) (i : Nat) (r : Option (Nat × AV × Nat)) (q : Option (Nat × Value)) : Prop := match r with
 |none => q = none
 |some (j, v, b) => ∃ k m, i ≤ j ∧ es[j - i]? = some (k, v, b) ∧ ms[j - i]? = some m ∧ q = some (j, m.val) ∧ m.key = kv ∧ (∀ n, Instr.sameBits n m.key kv = true) ∧ VR ρ v m.val ∧ b = m.born
theorem find_run {d : TypeDesc} {k : AV} {kv : Value} (hk : VR ρ k kv) : ∀ {es : List (AV × AV × Nat)} {ms : List MapEntry} {i : Nat} {r : Option (Nat × AV × Nat)}, EntsR ρ es ms → efind d k es i = some r → ∃ q, Instr.findNow d kv ms i = some q ∧ FindR ρ es ms kv i r q
 |_, _, i, r, .nil, h => by
  cases h
  exact ⟨none, rfl, rfl⟩
 |_, _, i, r, .cons e m es ms hv hs, h => by
  have h' : (Option.rec none (fun b => Bool.rec (efind d k es (i + 1)) (some (some (i, e.2))) b) (ekey d k e.1) : Option (Option (Nat × AV × Nat))) = some r := h
  cases he : ekey d k e.1 with
  |none => rw [he] at h'; cases h'
  |some b =>
   rw [he] at h'
   obtain ⟨h1, h2⟩ := ekey_run he hk hv.1
   cases b with
   |true =>
    cases h'
    obtain ⟨h3, h4⟩ := h2 rfl
    refine ⟨some (i, m.val), by unfold Instr.findNow; rw [h1], ?_⟩
    obtain ⟨e1, e2, e3⟩ := e
    exact ⟨e1, m, Nat.le_refl _, by rw [Nat.sub_self]; rfl, by rw [Nat.sub_self]; rfl, rfl, h3.symm, fun n => by rw [← h3]; have := h4 n; rwa [← h3] at this, hv.2.1, hv.2.2⟩
   |false =>
    obtain ⟨q, h3, h4⟩ := find_run hk hs h'
    refine ⟨q, by unfold Instr.findNow; rw [h1]; exact h3, ?_⟩
    unfold FindR at h4 ⊢
    split
    ·exact h4
    ·rename_i j v b
     obtain ⟨k', m', h5, h6, h7, h8⟩ := h4
     have hj : j - i = (j - (i + 1)) + 1 := by omega
     exact ⟨k', m', by omega, by rw [← h6, hj, List.getElem?_cons_succ], by rw [← h7, hj, List.getElem?_cons_succ], h8⟩
theorem ekeyed_run {t : TypeId} {k : AV} {es : List (AV × AV × Nat)} {r : Option (Nat × AV × Nat)} {s s' : ESt} (h : ekeyed P t k es s = .ok r s') {kv : Value} (hk : VR ρ k kv) {ms : List MapEntry} (hm : EntsR ρ es ms) : s' = s ∧ ∃ q, (∀ w, (Instr.findKey t kv ms).run P w = .ok q w) ∧ FindR ρ es ms kv 0 r q ∧ (∀ b w, (Instr.checkKey b 10000 t kv).run P w = .ok () w) := by
 unfold ekeyed at h
 cases hu : P.underlying t with
 |none => rw [hu] at h; exact (efail_ok h).elim
 |some d =>
  rw [hu] at h
  obtain ⟨h1, h2⟩ := ecase_ok h
  obtain ⟨h3, rfl⟩ := eopt_ok h2
  obtain ⟨q, h4, h5⟩ := find_run hk hm h3
  refine ⟨rfl, q, fun w => by simp [Instr.findKey, run_un hu, h4], h5, fun b w => ?_⟩
  unfold Instr.checkKey
  rw [Sem.run_bind, run_un hu]
  simp only [Result.andThen_ok]
  unfold escalar at h1
  split at h1
  ·cases hk; rfl
  ·cases hk; rfl
  ·cases h1
theorem ev_elook {kt e : TypeId} {k : AV} {ok : Bool} {es : List (AV × AV × Nat)} {s s' : ESt} {v : AV} (h : elook P es kt e k ok s = .ok v s') {kv : Value} (hk : VR ρ k kv) {ms : Array MapEntry} (hm : EntsR ρ es ms.toList) (w : World) :
  s' = s ∧ ∃ x, (do
   Instr.checkKey ms.isEmpty 10000 kt kv
   let (v, b) ← match ← Instr.findKey kt kv ms.toList with
    |some (_, v) => pure (v, true)
    |none => pure (← zeroValue e, false)
   pure (if ok then .tuple #[v, .bool b] else v) : Sem Value).run P w = .ok x w ∧ VR ρ v x := by
 obtain ⟨r, s1, h1, h2⟩ := ebind_ok h
 obtain ⟨rfl, q, h3, h4, h5⟩ := ekeyed_run h1 hk hm
 cases r with
 |none =>
  have hq : q = none := h4
  subst hq
  obtain ⟨z, s2, h6, h7⟩ := ebind_ok h2
  obtain ⟨rfl, u, h8, h9⟩ := vzero_ok h6
  obtain ⟨rfl, rfl⟩ := epure_ok h7
  refine ⟨rfl, ?_⟩
  cases ok with
  |false => exact ⟨u, by simp [h5, h3, h8], h9 ρ⟩
  |true => exact ⟨.tuple #[u, .bool false], by simp [h5, h3, h8], pair_vr (h9 ρ) false⟩
 |some x =>
  obtain ⟨j, v', b⟩ := x
  obtain ⟨k', m, _, _, _, rfl, _, _, h10, _⟩ := h4
  obtain ⟨rfl, rfl⟩ := epure_ok h2
  refine ⟨rfl, ?_⟩
  cases ok with
  |false => exact ⟨m.val, by simp [h5, h3], h10⟩
  |true => exact ⟨.tuple #[m.val, .bool true], by simp [h5, h3], pair_vr h10 true⟩
theorem ev_lookup {t : TypeId} {a k : AV} {ok : Bool} {x y : Value} (ha : VR ρ a x) (hk : VR ρ k y) : EV P w0 ρ (elookup P t a k ok) (Instr.lookup t x y ok) := by
 unfold elookup
 split
 ·rename_i kt e hu
  cases ha with
  |mn =>
   refine ev_calm fun s v s' hm => ?_
   have h0 := ev_elook hm hk (ms := #[]) .nil
   obtain ⟨rfl, -⟩ := h0 w0
   refine ⟨rfl, rfl, fun w _ => ?_⟩
   obtain ⟨-, u, h1, h2⟩ := h0 w
   refine ⟨u, ?_, h2⟩
   unfold Instr.lookup
   rw [Sem.run_bind, run_un hu]
   simp only [Result.andThen_ok, Sem.run_bind, Sem.run_pure] at h1 ⊢
   exact h1
  |mp i r hr =>
   refine ev_calm fun s v s' hm => ?_
   obtain ⟨m, s1, h1, h2⟩ := ebind_ok hm
   obtain ⟨hb, rfl⟩ := emap_ok h1
   have hs : s'.hp = s.hp ∧ s'.nx = s.nx := by
    obtain ⟨q, s3, h3, h4⟩ := ebind_ok h2
    have e1 : s3 = ⟨s.hp, s.nx, s.rd ||| (1 <<< i), s.wr⟩ := by
     unfold ekeyed at h3
     cases hu2 : P.underlying kt with
     |none => rw [hu2] at h3; exact (efail_ok h3).elim
     |some d =>
      rw [hu2] at h3
      obtain ⟨_, h5⟩ := ecase_ok h3
      exact (eopt_ok h5).2
    subst e1
    cases q with
    |none =>
     obtain ⟨z, s4, h6, h7⟩ := ebind_ok h4
     obtain ⟨rfl, _⟩ := vzero_ok h6
     obtain ⟨_, rfl⟩ := epure_ok h7
     exact ⟨rfl, rfl⟩
    |some q =>
     obtain ⟨_, rfl⟩ := epure_ok h4
     exact ⟨rfl, rfl⟩
   refine ⟨hs.1, hs.2, fun w hw => ?_⟩
   obtain ⟨ms, h3, h4⟩ := hp_map hw hb hr
   obtain ⟨-, u, h5, h6⟩ := ev_elook h2 hk h4 w
   refine ⟨u, ?_, h6⟩
   unfold Instr.lookup
   rw [Sem.run_bind, run_un hu]
   simp only [Result.andThen_ok, Sem.run_bind, run_getMap h3, Sem.run_pure] at h5 ⊢
   exact h5
  |_ => exact ev_fail
 ·exact ev_fail
theorem run_setMap {w : World} {b : Nat} {o o' : Obj} (h : w.heap[b]? = some o) (hc : ∀ c t f, o ≠ .cells c t f) : ∃ w', (setObj b o').run P w = .ok () w' ∧ Turn b o' w w' := by
 have hlt := heap_lt h
 refine ⟨{ w with heap := w.heap.setIfInBounds b o' }, ?_, ⟨⟨rfl, rfl, rfl, by simp, fun k hk hn => ?_⟩, by simp, by simp [hlt]⟩⟩
 ·cases o <;> first | (simp only [setObj, Sem.run, h]; done) | exact absurd rfl (hc _ _ _)
 ·simp only [List.mem_singleton] at hn
  exact Array.getElem?_setIfInBounds_ne (Ne.symm hn)
theorem lmod_get {es : List (AV × AV × Nat)} {j : Nat} {f : AV × AV × Nat → AV × AV × Nat} {e : AV × AV × Nat} (h : es[j]? = some e) (i : Nat) : (lmod es j f)[i]? = if i = j then some (f e) else es[i]? := by
 have hj := (List.getElem?_eq_some_iff.1 h).1
 unfold lmod
 rw [lnth_eq, h]
 show (lset es j (f e))[i]? = _
 rw [lset_eq, List.getElem?_set]
 by_cases e1 : i = j
 ·subst e1; simp [hj]
 ·rw [if_neg (Ne.symm e1), if_neg e1]
theorem lmod_length (es : List (AV × AV × Nat)) (j : Nat) (f : AV × AV × Nat → AV × AV × Nat) : (lmod es j f).length = es.length := by
 unfold lmod
 rw [lnth_eq]
 cases es[j]? with
 |none => rfl
 |some e => show (lset es j (f e)).length = _; rw [lset_eq, List.length_set]
theorem ents_mod {es : List (AV × AV × Nat)} {ms : Array MapEntry} (h : EntsR ρ es ms.toList) {j : Nat} {e : AV × AV × Nat} {m : MapEntry} (he : es[j]? = some e) (hm : ms[j]? = some m) {f : AV × AV × Nat → AV × AV × Nat} {g : MapEntry → MapEntry} (hfg : EntR ρ (f e) (g m)) : EntsR ρ (lmod es j f) (ms.modify j g).toList := by
 refine EntsR.mk (by rw [lmod_length, h.length]; simp) fun i a b ha hb => ?_
 rw [lmod_get he] at ha
 rw [Array.getElem?_toList, Array.getElem?_modify] at hb
 by_cases e1 : i = j
 ·subst e1
  rw [if_pos rfl] at ha
  rw [if_pos rfl, hm] at hb
  cases ha
  cases hb
  exact hfg
 ·rw [if_neg e1] at ha
  rw [if_neg (Ne.symm e1)] at hb
  obtain ⟨m', h1, h2⟩ := h.nth ha
  rw [Array.getElem?_toList, hb] at h1
  cases h1
  exact h2
theorem ents_push {es : List (AV × AV × Nat)} {ms : Array MapEntry} (h : EntsR ρ es ms.toList) {e : AV × AV × Nat} {m : MapEntry} (he : EntR ρ e m) : EntsR ρ (lapp es [e]) (ms.push m).toList := by
 rw [lapp_eq, Array.toList_push]
 have : ∀ {a : List (AV × AV × Nat)} {b : List MapEntry}, EntsR ρ a b → EntsR ρ (a ++ [e]) (b ++ [m]) := fun {a b} h => by
  induction h with
  |nil => exact .cons e m [] [] he .nil
  |cons x y es ms hx _ ih => exact .cons x y _ _ hx ih
 exact this h
theorem ev_mapUpdate {t : TypeId} {a k v : AV} {x y z : Value} (ha : VR ρ a x) (hk : VR ρ k y) (hv : VR ρ v z) : EVU P w0 ρ (emapUpdate P t a k v) (Instr.mapUpdate t x y z) := by
 intro s u s' hm w hw hf
 unfold emapUpdate at hm
 cases hu : P.underlying t with
 |none => rw [hu] at hm; exact (efail_ok (e := [62]) (s := s) hm).elim
 |some d =>
  rw [hu] at hm
  cases d with
  |map kt et =>
   cases ha with
   |mp i r hr =>
    obtain ⟨mx, s1, h1, h2⟩ := ebind_ok (m := emap i) hm
    obtain ⟨hb, rfl⟩ := emap_ok h1
    obtain ⟨q, s2, h3, h4⟩ := ebind_ok h2
    obtain ⟨ms, h5, h6⟩ := hp_map hw hb hr
    obtain ⟨rfl, q', h7, h8, h9⟩ := ekeyed_run h3 hk h6
    cases q with
    |none =>
     have hq : q' = none := h8
     subst hq
     obtain ⟨u1, s3, h10, h11⟩ := ebind_ok h4
     obtain ⟨rfl, rfl⟩ := epure_ok h11
     have h12 := eset_ok h10
     subst h12
     obtain ⟨w', h13, h14⟩ := run_setMap (P := P) (o' := .map (ms.push { key := y, val := z, born := mx.2 }) (mx.2 + 1)) h5 (by intros; simp)
     refine ⟨ρ, w', ?_, rfl, hw.set hb hr h14 ⟨_, rfl, ents_push h6 ⟨hk, hv, rfl⟩⟩, EExt.refl _ _ _⟩
     unfold Instr.mapUpdate
     rw [Sem.run_bind, run_un hu]
     simp [run_getMap h5, h9, h7, h13]
    |some q =>
     obtain ⟨j, v', b⟩ := q
     obtain ⟨k', m, _, h15, h16, rfl, h17, h18, h19, h20⟩ := h8
     obtain ⟨u1, s3, h10, h11⟩ := ebind_ok h4
     obtain ⟨rfl, rfl⟩ := epure_ok h11
     have h12 := eset_ok h10
     subst h12
     rw [Nat.sub_zero] at h15 h16
     rw [Array.getElem?_toList] at h16
     obtain ⟨w', h13, h14⟩ := run_setMap (P := P) (o' := .map (ms.modify j fun e => { e with key := y, val := z }) mx.2) h5 (by intros; simp)
     refine ⟨ρ, w', ?_, rfl, hw.set hb hr h14 ⟨_, rfl, ents_mod h6 h15 h16 ⟨hk, hv, h20⟩⟩, EExt.refl _ _ _⟩
     unfold Instr.mapUpdate
     rw [Sem.run_bind, run_un hu]
     simp [run_getMap h5, h9, h7, h16, Instr.keyThatStays, h18, h13]
   |_ => exact (efail_ok (e := [62]) (s := s) hm).elim
  |_ => cases ha <;> exact (efail_ok (e := [62]) (s := s) hm).elim
end
end Go.Proofs.YtigajcabgaddgaaGreatDoor
