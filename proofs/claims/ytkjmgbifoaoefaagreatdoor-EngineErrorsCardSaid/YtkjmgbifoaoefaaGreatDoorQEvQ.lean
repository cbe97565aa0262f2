/-
 The evaluator's operations are the model's: places, parts, rows. The evaluator's operations are the model's: what is made anew. The evaluator's operations are the model's: composite values, slices, conversions. The evaluator's operations are the model's: slices, conversions, comparisons. The evaluator's operations are the model's: comparisons, conversions, appends.
-/
import Derived.Test.YtkjmgbifoaoefaaGreatDoorQEvL
import Derived.Lib.ConvBytes
import Derived.Lib.UnsafeStr
import Derived.Deep.AppendSrc
import Derived.Laws.BytesString
set_option maxRecDepth 100000
set_option maxHeartbeats 8000000
namespace Go.Proofs.YtkjmgbifoaoefaaGreatDoor
section
open Go.RowKit
variable {P : Program} {w0 : World} {ρ : ERho}
theorem idx_ok {v : AV} {k : Nat} (h : idx v = some k) {x : Value} (hv : VR ρ v x) : ∃ j, x = .int j (k : Int) := by
 cases hv with
 |it j n =>
  have h1 : inat n = some k := h
  cases n with
  |negSucc _ => cases h1
  |ofNat n => cases h1; exact ⟨j, rfl⟩
 |_ => cases h
theorem eidx_ok {v : AV} {k : Nat} {s s' : ESt} (h : eidx v s = .ok k s') {x : Value} (hv : VR ρ v x) : s' = s ∧ ∃ j, x = .int j (k : Int) := by
 obtain ⟨h1, rfl⟩ := eopt_ok h
 exact ⟨rfl, idx_ok h1 hv⟩
theorem efield_ok {s : TypeId} {f : Nat} {x : Field} {t t' : ESt} (h : efield P s f t = .ok x t') : t' = t ∧ ∃ fs, P.underlying s = some (.struct fs) ∧ fs[f]? = some x := by
 unfold efield at h
 cases hu : P.underlying s with
 |none => rw [hu] at h; exact (efail_ok h).elim
 |some d =>
  rw [hu] at h
  cases d with
  |struct fs =>
   obtain ⟨h1, rfl⟩ := eopt_ok h
   rw [lnth_eq] at h1
   exact ⟨rfl, fs, rfl, by rw [← Array.getElem?_toList]; exact h1⟩
  |_ => exact (efail_ok (e := [10]) (s := t) h).elim
theorem eaddr_run {a : AV} {n : Nat} {v : AV} {s s' : ESt} (h : eaddr a n s = .ok v s') {x : Value} (ha : VR ρ a x) : s' = s ∧ ∃ b o, x = .pointer (some ⟨b, o, none⟩) ∧ VR ρ v (.pointer (some ⟨b, o + n, none⟩)) := by
 cases ha with
 |pt i o r hr =>
  obtain ⟨rfl, rfl⟩ := epure_ok h
  exact ⟨rfl, _, _, rfl, by rw [Nat.add_assoc]; exact .pt i (o + n) r hr⟩
 |gp g o =>
  obtain ⟨rfl, rfl⟩ := epure_ok h
  exact ⟨rfl, _, _, rfl, .gp g (o + n)⟩
 |_ => exact (efail_ok (e := [11]) (s := s) h).elim
theorem ev_fieldAddr {s : TypeId} {f : Nat} {a : AV} {x : Value} (ha : VR ρ a x) :
  EV P w0 ρ (ebind (efield P s f) fun y => ebind (esz P y.type) fun z => ecase [85] (Bool.not (Nat.beq z 0)) (eaddr a y.offset)) (Instr.fieldAt s x f) := ev_calm fun t v t' hm => by
 obtain ⟨y, s1, h1, h2⟩ := ebind_ok hm
 obtain ⟨rfl, fs, hu, hf⟩ := efield_ok h1
 obtain ⟨z, s2, h3, h4⟩ := ebind_ok h2
 obtain ⟨hz, rfl⟩ := esz_ok h3
 obtain ⟨h5, h6⟩ := ecase_ok h4
 obtain ⟨rfl, b, o, rfl, hv⟩ := eaddr_run h6 ha
 refine ⟨rfl, rfl, fun w _ => ⟨_, ?_, hv⟩⟩
 have hz0 : ¬ z = 0 := fun e => by subst e; cases h5
 simp [Instr.fieldAt, run_un hu, hf, Instr.sureAddr, fieldPlace, run_sz hz, hz0, add_none]
theorem ev_indexAddr {t : TypeId} {a ix : AV} {x y : Value} (ha : VR ρ a x) (hi : VR ρ ix y) : EV P w0 ρ (eindexAddr P t a ix) (Instr.indexAt t x y) := by
 unfold eindexAddr
 split
 ·rename_i e hu
  cases ha with
  |sl i o n c c' r hr hc =>
   refine ev_calm fun s v s' hm => ?_
   obtain ⟨k, s1, h1, h2⟩ := ebind_ok hm
   obtain ⟨rfl, j, rfl⟩ := eidx_ok h1 hi
   obtain ⟨z, s2, h3, h4⟩ := ebind_ok h2
   obtain ⟨hz, rfl⟩ := esz_ok h3
   obtain ⟨h5, h6⟩ := ecase_ok h4
   obtain ⟨rfl, rfl⟩ := epure_ok h6
   refine ⟨rfl, rfl, fun w _ => ⟨.pointer (some ⟨r.b, r.d + (o + k * z), none⟩), ?_, .pt i _ r hr⟩⟩
   have := nblt_iff.1 h5
   have hlt : (k : Int) < (n : Int) := by omega
   simp [Instr.indexAt, asIntOf, run_un hu, run_sz hz, add_none, Nat.add_assoc]
   intro hh; omega
  |sz i o r hr a =>
   refine ev_calm fun s v s' hm => ?_
   obtain ⟨k, s1, h1, h2⟩ := ebind_ok hm
   obtain ⟨z, s2, h3, h4⟩ := ebind_ok h2
   obtain ⟨h5, h6⟩ := ecase_ok h4
   have := nblt_iff.1 h5
   omega
  |_ => exact ev_fail
 ·rename_i n e hu
  refine ev_calm fun s v s' hm => ?_
  obtain ⟨k, s1, h1, h2⟩ := ebind_ok hm
  obtain ⟨rfl, j, rfl⟩ := eidx_ok h1 hi
  obtain ⟨z, s2, h3, h4⟩ := ebind_ok h2
  obtain ⟨hz, rfl⟩ := esz_ok h3
  obtain ⟨h5, h6⟩ := ecase_ok h4
  obtain ⟨rfl, b, o, rfl, hv⟩ := eaddr_run h6 ha
  refine ⟨rfl, rfl, fun w _ => ⟨_, ?_, hv⟩⟩
  have := nblt_iff.1 h5
  have hlt : (k : Int) < (n : Int) := by omega
  simp [Instr.indexAt, asIntOf, run_un hu, Instr.sureAddr, run_sz hz, add_none]
  intro hh; omega
 ·exact ev_fail
theorem part_run {t : TypeId} {cs : List AV} {o : Nat} {v : AV} {s s' : ESt} (h : vpart P t cs o s = .ok v s') {xs : List Value} (hx : VRs ρ cs xs) (w : World) : ∃ x, (part t xs.toArray o).run P w = .ok x w ∧ VR ρ v x := by
 obtain ⟨-, (⟨hg, hv⟩ | ⟨hg, z, hz, hle, rfl⟩)⟩ := vpart_ok h
 ·obtain ⟨x, h1, h2⟩ := hx.nth hv
  refine ⟨x, ?_, h2⟩
  unfold part
  rw [Sem.run_bind, run_ag hg]
  simp [h1]
 ·refine ⟨_, ?_, .ag _ _ ((hx.drop o).take z)⟩
  unfold part
  rw [Sem.run_bind, run_ag hg]
  simp only [Result.andThen_ok, if_true, Sem.run_bind, run_sz hz, Sem.run_pure]
  congr 2
  rw [List.extract_toArray, List.extract_eq_take_drop]
  congr 2
  omega
theorem ev_index {t : TypeId} {a ix : AV} {x y : Value} (ha : VR ρ a x) (hi : VR ρ ix y) : EV P w0 ρ (eindex P t a ix) (Instr.index t x y) := by
 unfold eindex
 split
 ·rename_i hu
  cases ha with
  |st s hs =>
   refine ev_calm fun s v s' hm => ?_
   obtain ⟨k, s1, h1, h2⟩ := ebind_ok hm
   obtain ⟨rfl, j, rfl⟩ := eidx_ok h1 hi
   obtain ⟨c, s2, h3, h4⟩ := ebind_ok h2
   obtain ⟨h5, rfl⟩ := eopt_ok h3
   obtain ⟨rfl, rfl⟩ := epure_ok h4
   rw [lnth_eq] at h5
   have hc := hs c (List.mem_of_getElem? h5)
   refine ⟨rfl, rfl, fun w _ => ⟨_, ?_, .it _ _⟩⟩
   have h6 := bsA_get h5 hc
   simp only [Instr.index, asIntOf, Sem.run_bind, Sem.run_pure, Result.andThen_ok, run_un hu, Int.toNat_natCast]
   rw [if_pos (by omega), h6]
   simp only [Sem.run_pure, UInt8.toNat_ofNat']
   rw [Nat.mod_eq_of_lt hc]
   rfl
  |_ => exact ev_fail
 ·rename_i n e hu
  cases ha with
  |ag l xs hx =>
   refine ev_calm fun s v s' hm => ?_
   obtain ⟨k, s1, h1, h2⟩ := ebind_ok hm
   obtain ⟨rfl, j, rfl⟩ := eidx_ok h1 hi
   obtain ⟨z, s2, h3, h4⟩ := ebind_ok h2
   obtain ⟨hz, rfl⟩ := esz_ok h3
   obtain ⟨h5, h6⟩ := ecase_ok h4
   obtain ⟨rfl, -⟩ := vpart_ok h6
   refine ⟨rfl, rfl, fun w _ => ?_⟩
   obtain ⟨u, hu2, hv⟩ := part_run h6 hx w
   refine ⟨u, ?_, hv⟩
   have := nblt_iff.1 h5
   have hlt : (k : Int) < (n : Int) := by omega
   simp only [Instr.index, asIntOf, Sem.run_bind, Sem.run_pure, Result.andThen_ok, run_un hu, Int.toNat_natCast]
   rw [if_pos ⟨by omega, hlt⟩, Sem.run_bind, run_sz hz]
   exact hu2
  |_ => exact ev_fail
 ·exact ev_fail
theorem ev_field {s : TypeId} {f : Nat} {a : AV} {x : Value} (ha : VR ρ a x) :
  EV P w0 ρ (ebind (efield P s f) fun y => match a with
   |.ag cs => vpart P y.type cs y.offset
   |_ => efail [85]) (Instr.field s x f) := ev_calm fun t v t' hm => by
 obtain ⟨y, s1, h1, h2⟩ := ebind_ok hm
 obtain ⟨rfl, fs, hu, hf⟩ := efield_ok h1
 cases ha with
 |ag l xs hx =>
  obtain ⟨rfl, -⟩ := vpart_ok h2
  refine ⟨rfl, rfl, fun w _ => ?_⟩
  obtain ⟨u, hu2, hv⟩ := part_run h2 hx w
  refine ⟨u, ?_, hv⟩
  simp [Instr.field, run_un hu, hf, asAgg, hu2]
 |_ => exact (efail_ok (e := [85]) (s := s1) h2).elim
theorem ev_extract {a : AV} {i : Nat} {x : Value} (ha : VR ρ a x) : EV P w0 ρ (match a with
  |.tu l => eopt [86] (lnth l i)
  |_ => efail [86]) (Instr.extract x i) := by
 cases ha with
 |tu l xs hx =>
  refine ev_optv fun v hv w => ?_
  rw [lnth_eq] at hv
  obtain ⟨u, h1, h2⟩ := hx.nth hv
  exact ⟨u, by simp [Instr.extract, h1], h2⟩
 |_ => exact ev_fail
end
section
open Go.RowKit
variable {P : Program} {w0 : World} {ρ : ERho}
theorem ofV1_vr {v : Value} {a : AV} (h : ofV1 v = some a) (ρ : ERho) : VR ρ a v := by
 unfold ofV1 at h
 split at h <;> first | cases h
 ·exact .bo _
 ·exact .it _ _
 ·rename_i s
  have e : (s : ByteArray) = bsA (lmap UInt8.toNat s.data.toList) := by
   apply ByteArray.ext
   rw [lmap_eq]
   show s.data = ((s.data.toList.map UInt8.toNat).map UInt8.ofNat).toArray
   rw [List.map_map, show (UInt8.ofNat ∘ UInt8.toNat) = id from by funext x; simp, List.map_id]
  have := VR.st (ρ := ρ) (lmap UInt8.toNat s.data.toList) (fun x hx => by
   rw [lmap_eq] at hx
   obtain ⟨b, _, rfl⟩ := List.mem_map.1 hx
   exact b.toNat_lt)
  rw [← e] at this
  exact this
 ·exact .pn
 ·exact .sn
 ·exact .mn
 ·exact .nf
 ·exact .ni
 ·exact .un
theorem ofV1s_vr {l : List Value} {m : List AV} (h : omap ofV1 l = some m) (ρ : ERho) : VRs ρ m l := by
 obtain ⟨h1, h2⟩ := omap_some h
 refine VRs.mk h1.symm fun i v x hv hx => ?_
 obtain ⟨y, h3, h4⟩ := h2 i x hx
 rw [hv] at h4
 cases h4
 exact ofV1_vr h3 ρ
theorem ofV_vr {v : Value} {a : AV} (h : ofV v = some a) (ρ : ERho) : VR ρ a v := by
 unfold ofV at h
 split at h
 ·rename_i cs
  cases ho : omap ofV1 cs.toList with
  |none => rw [ho] at h; cases h
  |some l =>
   rw [ho] at h
   cases h
   have := VR.ag (ρ := ρ) l cs.toList (ofV1s_vr ho ρ)
   exact this
 ·rename_i t v
  cases ho : ofV1 v with
  |none => rw [ho] at h; cases h
  |some l =>
   rw [ho] at h
   cases h
   exact .ic _ _ _ (ofV1_vr ho ρ)
 ·exact ofV1_vr h ρ
theorem evO_vr {tm : ET AV} {a : Act} (h : TR ρ tm a.tmps) (x : Operand) : VR ρ (evO tm x) (a.eval x) := by
 cases x with
 |tmp t => exact h t
 |const v =>
  show VR ρ (Option.rec .bad (fun v => v) (ofV v)) v
  cases ho : ofV v with
  |none => exact .bad _
  |some l => exact ofV_vr ho ρ
 |global g => exact .gp g 0
 |func f => exact .fn f [] [] [] [] .nil .nil
theorem tyZero_ok {t : TypeId} {z : List AV} (h : tyZero P t = some z) : ∃ i v, P.info? t = some i ∧ i.zero = some v ∧ ∀ ρ, VRs ρ z v.cells.toList := by
 unfold tyZero at h
 cases hi : P.info? t with
 |none => rw [hi] at h; cases h
 |some i =>
  rw [hi] at h
  have h' : (Option.rec none (fun v => omap ofV1 v.cells.toList) i.zero : Option (List AV)) = some z := h
  cases hz : i.zero with
  |none => rw [hz] at h'; cases h'
  |some v =>
   rw [hz] at h'
   exact ⟨i, v, rfl, hz, fun ρ => ofV1s_vr h' ρ⟩
theorem ezero_ok {t : TypeId} {z : List AV} {s s' : ESt} (h : ezero P t s = .ok z s') : s' = s ∧ tyZero P t = some z := by
 obtain ⟨h1, rfl⟩ := eopt_ok h
 exact ⟨rfl, h1⟩
theorem new_cells {s s' : ESt} {i : Nat} {e : TypeId} {l : List AV} {w : World} (h : enew (.cs e l 0) s = .ok i s') (hw : ERel P w0 ρ s.hp w) (hf : ρ s.nx = none) {z : Nat} (hz : tySz P e = some z) {c : Array Value} {k : Nat}
  (hk : l.length + k * z ≤ c.size) (hc : ∀ (j : Nat) (v : AV), l[j]? = some v → ∃ x, c[j]? = some x ∧ VR ρ v x) :
  i = s.nx ∧ s'.nx = s.nx + 1 ∧ ERel P w0 (eup ρ s.nx ⟨w.heap.size, 0, k⟩) s'.hp (w.alloc (.cells c e)) ∧ EExt ρ (eup ρ s.nx ⟨w.heap.size, 0, k⟩) s.nx s'.nx := by
 obtain ⟨rfl, rfl⟩ := enew_ok h
 refine ⟨rfl, rfl, hw.alloc hf ⟨c, (0, 0), z, rfl, hz, rfl, ⟨by simpa using hk, fun k _ _ => by simp, fun _ => Or.inl rfl⟩, fun j v hv => ?_⟩, EExt.one hf⟩
 obtain ⟨x, h1, h2⟩ := hc j v hv
 exact ⟨x, by simpa using h1, h2.up (eup_le hf)⟩
theorem vrs_cells {l : List AV} {xs : List Value} (h : VRs ρ l xs) : ∀ (j : Nat) (v : AV), l[j]? = some v → ∃ x, xs.toArray[j]? = some x ∧ VR ρ v x := fun j v hv => by
 obtain ⟨x, h1, h2⟩ := h.nth hv
 exact ⟨x, by simpa using h1, h2⟩
theorem pt_new {n b k : Nat} : VR (eup ρ n ⟨b, 0, k⟩) (.pt n 0) (.pointer (some ⟨b, 0, none⟩)) := VR.pt (ρ := eup ρ n ⟨b, 0, k⟩) n 0 ⟨b, 0, k⟩ (eup_same _ _ _)
theorem sl_new {n b k m c c' : Nat} (hc : c' = c ∨ c' = c + k) : VR (eup ρ n ⟨b, 0, k⟩) (.sl n 0 m c) (.slice (some ⟨b, 0, none⟩) m c') := VR.sl (ρ := eup ρ n ⟨b, 0, k⟩) n 0 m c c' ⟨b, 0, k⟩ (eup_same _ _ _) hc
theorem ev_alloc {e : TypeId} : EV P w0 ρ (ebind (esz P e) fun _ => ebind (ezero P e) fun z => ebind (enew (.cs e z 0)) fun i => epure (.pt i 0)) (Instr.alloc e true (.tuple #[])) := by
 intro s v s' hm w hw hf
 obtain ⟨k, s1, h1, h2⟩ := ebind_ok hm
 obtain ⟨hk, rfl⟩ := esz_ok h1
 obtain ⟨z, s2, h3, h4⟩ := ebind_ok h2
 obtain ⟨rfl, hz⟩ := ezero_ok h3
 obtain ⟨i, s3, h5, h6⟩ := ebind_ok h4
 obtain ⟨rfl, rfl⟩ := epure_ok h6
 obtain ⟨ti, u, hi, hu, hvs⟩ := tyZero_ok hz
 obtain ⟨rfl, h7⟩ := enew_ok h5
 have hn : ρ s2.nx = none := hf _ (Nat.le_refl _) (by rw [h7]; exact Nat.lt_succ_self _)
 obtain ⟨-, h8, h9, h10⟩ := new_cells (c := u.cells) (k := 0) h5 hw hn hk (by rw [(hvs ρ).length]; simp) (vrs_cells (hvs ρ))
 refine ⟨_, _, _, ?_, pt_new, h9, h10⟩
 simp [Instr.alloc, zeroValue, typeInfo, hi, hu, newVar, newRow]
theorem ev_box {e : TypeId} {a : AV} {x : Value} (ha : VR ρ a x) : EV P w0 ρ (ebind (esz P e) fun _ => ebind (evc a) fun c => ebind (enew (.cs e c 0)) fun i => epure (.pt i 0)) (Instr.box e x) := by
 intro s v s' hm w hw hf
 obtain ⟨k, s1, h1, h2⟩ := ebind_ok hm
 obtain ⟨hk, rfl⟩ := esz_ok h1
 obtain ⟨c, s2, h3, h4⟩ := ebind_ok h2
 obtain ⟨rfl, rfl, hbad⟩ := evc_ok h3
 obtain ⟨i, s3, h5, h6⟩ := ebind_ok h4
 obtain ⟨rfl, rfl⟩ := epure_ok h6
 obtain ⟨rfl, h7⟩ := enew_ok h5
 have hn : ρ s2.nx = none := hf _ (Nat.le_refl _) (by rw [h7]; exact Nat.lt_succ_self _)
 have hcs := ha.cells hbad
 obtain ⟨-, h8, h9, h10⟩ := new_cells (c := x.cells) (k := 0) h5 hw hn hk (by rw [hcs.length]; simp) (vrs_cells hcs)
 refine ⟨_, _, _, ?_, pt_new, h9, h10⟩
 simp [Instr.box, newVar, newRow]
theorem zip_put : ∀ (v : List Value) (k off : Nat) (a : Array Value) (j : Nat), ((v.zipIdx k).foldl (fun (cs : Array Value) (x : Value × Nat) => cs.setIfInBounds (off + x.2) x.1) a)[j]? = if off + k ≤ j ∧ j < off + k + v.length ∧ j < a.size then v[j - (off + k)]? else a[j]?
 |[], k, off, a, j => by rw [if_neg (by simp only [List.length_nil]; omega)]; rfl
 |x :: v, k, off, a, j => by
  rw [List.zipIdx_cons, List.foldl_cons, zip_put v (k + 1) off _ j, Array.size_setIfInBounds]
  by_cases e : j = off + k
  ·subst e
   rw [if_neg (by omega), Array.getElem?_setIfInBounds]
   by_cases h : off + k < a.size
   ·rw [if_pos rfl, if_pos h, if_pos (by simp only [List.length_cons]; omega), Nat.sub_self]; rfl
   ·rw [if_pos rfl, if_neg h, if_neg (by omega), Array.getElem?_eq_none (by omega)]
  ·rw [Array.getElem?_setIfInBounds_ne (Ne.symm e)]
   by_cases h : off + (k + 1) ≤ j ∧ j < off + (k + 1) + v.length ∧ j < a.size
   ·rw [if_pos h, if_pos (by simp only [List.length_cons]; omega), show j - (off + k) = (j - (off + (k + 1))) + 1 by omega, List.getElem?_cons_succ]
   ·rw [if_neg h, if_neg (by simp only [List.length_cons]; omega)]
theorem zip_put_size : ∀ (v : List Value) (k off : Nat) (a : Array Value), ((v.zipIdx k).foldl (fun (cs : Array Value) (x : Value × Nat) => cs.setIfInBounds (off + x.2) x.1) a).size = a.size
 |[], _, _, _ => rfl
 |x :: v, k, off, a => by rw [List.zipIdx_cons, List.foldl_cons, zip_put_size v (k + 1) off]; simp
theorem fill_run {place : Nat → Option (Nat × Nat)} : ∀ {ps : List (Nat × AV)} {qs : List (Nat × Value)} {c c' : List AV} {cs : Array Value} {s s' : ESt}, efill place ps c s = .ok c' s' → ps.length = qs.length → (∀ (i : Nat) p q, ps[i]? = some p → qs[i]? = some q → p.1 = q.1 ∧ VR ρ p.2 q.2) → VRs ρ c cs.toList →
  s' = s ∧ ∃ cs', Instr.fill place cs qs = some cs' ∧ VRs ρ c' cs'.toList
 |[], [], c, c', cs, s, s', h, _, _, hc => by
  obtain ⟨rfl, rfl⟩ := epure_ok h
  exact ⟨rfl, cs, rfl, hc⟩
 |[], _ :: _, _, _, _, _, _, _, h, _, _ => by simp at h
 |_ :: _, [], _, _, _, _, _, _, h, _, _ => by simp at h
 |p :: ps, q :: qs, c, c', cs, s, s', h, hl, hp, hc => by
  have h' : ebind (eopt [15] (place p.1)) (fun q => ebind (evc p.2) fun d => ecase [15] (iand (Nat.beq (llen d) q.2) (Nat.ble (Nat.add q.1 q.2) (llen c))) (efill place ps (lput c q.1 d))) s = .ok c' s' := h
  obtain ⟨pl, s1, h1, h2⟩ := ebind_ok h'
  obtain ⟨h3, rfl⟩ := eopt_ok h1
  obtain ⟨d, s2, h4, h5⟩ := ebind_ok h2
  obtain ⟨rfl, rfl, hbad⟩ := evc_ok h4
  obtain ⟨h6, h7⟩ := ecase_ok h5
  rw [iand_eq, Bool.and_eq_true] at h6
  have h8 := nbeq_t h6.1
  have h9 : pl.1 + pl.2 ≤ llen c := nble_iff.1 h6.2
  rw [llen_eq] at h8 h9
  obtain ⟨e1, e2⟩ := hp 0 p q rfl rfl
  have hcs := e2.cells hbad
  have hlen : (vcells p.2).length = q.2.cells.size := hcs.length.trans Array.length_toList
  have hcl : c.length = cs.size := hc.length.trans Array.length_toList
  obtain ⟨f, hf⟩ : ∃ f, (q.2.cells.zipIdx.foldl (fun (cs : Array Value) (x : Value × Nat) => cs.setIfInBounds (pl.1 + x.2) x.1) cs) = f := ⟨_, rfl⟩
  have hfl : f = ((q.2.cells.toList.zipIdx 0).foldl (fun (cs : Array Value) (x : Value × Nat) => cs.setIfInBounds (pl.1 + x.2) x.1) cs) := by
   rw [← hf, ← Array.foldl_toList, Array.toList_zipIdx]
  have hle : pl.1 + (vcells p.2).length ≤ c.length := by omega
  have hput : VRs ρ (lput c pl.1 (vcells p.2)) f.toList := by
   refine VRs.mk ?_ fun i v x hv hx => ?_
   ·have hs : f.size = cs.size := by rw [hfl]; exact zip_put_size _ _ _ _
    rw [lput_length hle, show f.toList.length = f.size from Array.length_toList, hs, hcl]
   ·rw [lput_get hle] at hv
    rw [Array.getElem?_toList, hfl, zip_put] at hx
    by_cases e : pl.1 ≤ i ∧ i < pl.1 + (vcells p.2).length
    ·rw [if_pos e] at hv
     rw [if_pos (by rw [show q.2.cells.toList.length = q.2.cells.size from Array.length_toList]; omega)] at hx
     obtain ⟨y, h10, h11⟩ := hcs.nth hv
     rw [show i - (pl.1 + 0) = i - pl.1 by omega, h10] at hx
     cases hx
     exact h11
    ·rw [if_neg e] at hv
     rw [if_neg (by rw [show q.2.cells.toList.length = q.2.cells.size from Array.length_toList]; omega)] at hx
     obtain ⟨y, h10, h11⟩ := hc.nth hv
     rw [Array.getElem?_toList, hx] at h10
     cases h10
     exact h11
  obtain ⟨rfl, cs', h12, h13⟩ := fill_run h7 (by simpa using hl) (fun i p' q' hp' hq' => hp (i + 1) p' q' (by simpa using hp') (by simpa using hq')) hput
  refine ⟨rfl, cs', ?_, h13⟩
  obtain ⟨q1, q2⟩ := q
  simp only at e1 hlen hf
  unfold Instr.fill
  rw [← e1, h3]
  simp only
  rw [if_neg (by simp only [Bool.or_eq_true, decide_eq_true_eq, not_or]; omega), hf]
  exact h12
end
section
open Go.RowKit
variable {P : Program} {w0 : World} {ρ : ERho}
theorem eplaces_ok : ∀ {fs : List Field} {pl : List (Nat × Nat)} {s s' : ESt}, eplaces P fs s = .ok pl s' → s' = s ∧ fs.mapM (fun f => (P.info? f.type).map fun i => (f.offset, i.size)) = some pl
 |[], pl, s, s', h => by
  obtain ⟨rfl, rfl⟩ := epure_ok h
  exact ⟨rfl, rfl⟩
 |f :: fs, pl, s, s', h => by
  have h' : ebind (esz P f.type) (fun z => ebind (eplaces P fs) fun l => epure ((f.offset, z) :: l)) s = .ok pl s' := h
  obtain ⟨z, s1, h1, h2⟩ := ebind_ok h'
  obtain ⟨hz, rfl⟩ := esz_ok h1
  obtain ⟨l, s2, h3, h4⟩ := ebind_ok h2
  obtain ⟨rfl, h5⟩ := eplaces_ok h3
  obtain ⟨rfl, rfl⟩ := epure_ok h4
  obtain ⟨i, hi, rfl⟩ := tySz_info hz
  refine ⟨rfl, ?_⟩
  simp [List.mapM_cons, hi, h5]
def PartsR (ρ : ERho) (ps : List (Nat × AV)) (qs : List (Nat × Value)) : Prop := ps.length = qs.length ∧ ∀ (i : Nat) p q, ps[i]? = some p → qs[i]? = some q → p.1 = q.1 ∧ VR ρ p.2 q.2
theorem ev_build {t : TypeId} {ps : List (Nat × AV)} {qs : Array (Nat × Value)} (hp : PartsR ρ ps qs.toList) : EV P w0 ρ (ebuild P t ps) (Instr.build t qs) := by
 unfold ebuild
 split
 ·rename_i fs hu
  refine ev_calm fun s v s' hm => ?_
  obtain ⟨z, s1, h1, h2⟩ := ebind_ok hm
  obtain ⟨rfl, hz⟩ := ezero_ok h1
  obtain ⟨pl, s2, h3, h4⟩ := ebind_ok h2
  obtain ⟨rfl, hpl⟩ := eplaces_ok h3
  obtain ⟨c, s3, h5, h6⟩ := ebind_ok h4
  obtain ⟨i, u, hi, hu2, hvs⟩ := tyZero_ok hz
  obtain ⟨rfl, cs', h7, h8⟩ := fill_run h5 hp.1 hp.2 (hvs ρ)
  obtain ⟨rfl, rfl⟩ := epure_ok h6
  refine ⟨rfl, rfl, fun w _ => ⟨.agg cs', run_build w t qs cs' ?_, .ag _ _ h8⟩⟩
  unfold Program.built
  simp only [hi, hu, hu2, hpl]
  rw [← h7]
  congr 1
  funext i
  rw [lnth_eq]; simp
 ·rename_i n e hu
  refine ev_calm fun s v s' hm => ?_
  obtain ⟨z, s1, h1, h2⟩ := ebind_ok hm
  obtain ⟨rfl, hz⟩ := ezero_ok h1
  obtain ⟨k, s2, h3, h4⟩ := ebind_ok h2
  obtain ⟨hk, rfl⟩ := esz_ok h3
  obtain ⟨c, s3, h5, h6⟩ := ebind_ok h4
  obtain ⟨i, u, hi, hu2, hvs⟩ := tyZero_ok hz
  obtain ⟨rfl, cs', h7, h8⟩ := fill_run h5 hp.1 hp.2 (hvs ρ)
  obtain ⟨rfl, rfl⟩ := epure_ok h6
  obtain ⟨ie, hie, rfl⟩ := tySz_info hk
  refine ⟨rfl, rfl, fun w _ => ⟨.agg cs', run_build w t qs cs' ?_, .ag _ _ h8⟩⟩
  unfold Program.built
  simp only [hi, hu, hu2, hie]
  exact h7
 ·exact ev_fail
theorem rep_vrs {z : List AV} {u : Value} (h : VRs ρ z u.cells.toList) {k : Nat} (hk : z.length = k) (n : Nat) : VRs ρ (lcat z n) ((Array.range (n * k)).map (u.cells[· % u.cells.size]!)).toList := by
 have hl : z.length = u.cells.size := h.length.trans Array.length_toList
 refine VRs.mk (by rw [lcat_length, hk]; simp) fun i v x hv hx => ?_
 have hi : i < n * z.length := by
  have := (List.getElem?_eq_some_iff.1 hv).1
  rwa [lcat_length] at this
 rw [lcat_get _ _ _ hi] at hv
 have hi2 : i < n * k := by rw [← hk]; exact hi
 rw [Array.getElem?_toList, Array.getElem?_map, Array.getElem?_range, if_pos hi2] at hx
 simp only [Option.map_some, Option.some.injEq] at hx
 obtain ⟨y, h1, h2⟩ := h.nth hv
 rw [hl, Array.getElem?_toList] at h1
 rw [← hx, getElem!_def, h1]
 exact h2
theorem ev_buildSlice {t : TypeId} {n : Nat} {ps : List (Nat × AV)} {qs : Array (Nat × Value)} (hp : PartsR ρ ps qs.toList) : EV P w0 ρ (ebuildSlice P t n ps) (Instr.buildSlice t n qs) := by
 unfold ebuildSlice
 split
 ·rename_i e hu
  intro s v s' hm w hw hf
  obtain ⟨z, s1, h1, h2⟩ := ebind_ok hm
  obtain ⟨rfl, hz⟩ := ezero_ok h1
  obtain ⟨k, s2, h3, h4⟩ := ebind_ok h2
  obtain ⟨hk, rfl⟩ := esz_ok h3
  obtain ⟨c, s3, h5, h6⟩ := ebind_ok h4
  obtain ⟨h7, h8⟩ := ecase_ok h6
  rw [iand_eq, Bool.and_eq_true] at h7
  have h9 : n * k ≤ 16777216 := nble_iff.1 h7.1
  have h10 := nbeq_t h7.2
  rw [llen_eq] at h10
  obtain ⟨ti, u, hi, hu2, hvs⟩ := tyZero_ok hz
  have hrep := rep_vrs (hvs ρ) h10 n
  obtain ⟨rfl, cs', h11, h12⟩ := fill_run h5 hp.1 hp.2 hrep
  obtain ⟨i, s4, h13, h14⟩ := ebind_ok h8
  obtain ⟨rfl, rfl⟩ := epure_ok h14
  obtain ⟨rfl, h15⟩ := enew_ok h13
  have hn : ρ s3.nx = none := hf _ (Nat.le_refl _) (by rw [h15]; exact Nat.lt_succ_self _)
  obtain ⟨-, h16, h17, h18⟩ := new_cells (c := cs') (k := 0) h13 hw hn hk (by rw [h12.length]; simp) (vrs_cells h12)
  refine ⟨_, _, _, ?_, sl_new (Or.inl rfl), h17, h18⟩
  have h20 : Instr.fill (fun i => some (i * k, k)) ((Array.range (n * k)).map (u.cells[· % u.cells.size]!)) qs.toList = some cs' := h11
  have h21 : ¬ n * k > 16777216 := by omega
  by_cases h0 : n * k = 0
  ·rw [h0] at h20
   have h22 : Instr.fill (fun i => some (i * k, k)) #[] qs.toList = some cs' := by rw [← h20]; congr 1; simp
   simp [Instr.buildSlice, run_un hu, run_sz hk, h0, h22, newRow, show Array.range 0 = #[] from rfl]
  ·simp [Instr.buildSlice, run_un hu, run_sz hk, h21, h0, zeroValue, typeInfo, hi, hu2, h20, newRow]
 ·exact ev_fail
theorem esmall_all {e : TypeId} {n : Nat} (h : esmall P e n = true) : n < 1000000 ∧ ∃ i u, P.info? e = some i ∧ 1 ≤ i.bytes ∧ i.bytes ≤ 1000 ∧ i.zero = some u ∧ u.cells.size = i.size := by
 unfold esmall at h
 rw [iand_eq, Bool.and_eq_true] at h
 refine ⟨nblt_iff.1 h.1, ?_⟩
 cases hi : P.info? e with
 |none => rw [hi] at h; cases h.2
 |some i =>
  rw [hi] at h
  have h2 : iand (Nat.ble 1 i.bytes) (iand (Nat.ble i.bytes 1000) (Option.rec false (fun v => Nat.beq v.cells.size i.size) i.zero)) = true := h.2
  rw [iand_eq, iand_eq, Bool.and_eq_true, Bool.and_eq_true] at h2
  cases hz : i.zero with
  |none => rw [hz] at h2; cases h2.2.2
  |some u =>
   rw [hz] at h2
   exact ⟨i, u, rfl, nble_iff.1 h2.1, nble_iff.1 h2.2.1, hz, nbeq_t h2.2.2⟩
theorem esmall_ok {e : TypeId} {n : Nat} (h : esmall P e n = true) : n < 1000000 ∧ ∃ i, P.info? e = some i ∧ 1 ≤ i.bytes ∧ i.bytes ≤ 1000 :=
 let ⟨h1, i, _, h2, h3, h4, _⟩ := esmall_all h
 ⟨h1, i, h2, h3, h4⟩
theorem wrap_small {n : Nat} (h : n < 1000000) : IntKind.i64.wrap (n : Int) = n := by rw [IntKind.wrap_i64]; omega
theorem ev_makeSlice {t : TypeId} {n c : AV} {x y : Value} (hn : VR ρ n x) (hc : VR ρ c y) : EV P w0 ρ (emakeSlice P t n c) (Instr.makeSlice t x y) := by
 unfold emakeSlice
 split
 ·rename_i e hu
  intro s v s' hm w hw hf
  obtain ⟨z, s1, h1, h2⟩ := ebind_ok hm
  obtain ⟨rfl, hz⟩ := ezero_ok h1
  obtain ⟨k, s2, h3, h4⟩ := ebind_ok h2
  obtain ⟨hk, rfl⟩ := esz_ok h3
  obtain ⟨a, s3, h5, h6⟩ := ebind_ok h4
  obtain ⟨rfl, j, rfl⟩ := eidx_ok h5 hn
  obtain ⟨b, s4, h7, h8⟩ := ebind_ok h6
  obtain ⟨rfl, j2, rfl⟩ := eidx_ok h7 hc
  obtain ⟨h9, h10⟩ := ecase_ok h8
  rw [iand_eq, iand_eq, Bool.and_eq_true, Bool.and_eq_true] at h9
  have h11 := nble_iff.1 h9.1
  obtain ⟨h12, ti, hi, hb1, hb2⟩ := esmall_ok h9.2.1
  have h13 := nbeq_t h9.2.2
  rw [llen_eq] at h13
  obtain ⟨ti2, u, hi2, hu2, hvs⟩ := tyZero_ok hz
  rw [hi] at hi2
  cases hi2
  have hrep := rep_vrs (hvs ρ) h13 b
  obtain ⟨i, s5, h14, h15⟩ := ebind_ok h10
  obtain ⟨rfl, rfl⟩ := epure_ok h15
  obtain ⟨rfl, h16⟩ := enew_ok h14
  have hn : ρ s4.nx = none := hf _ (Nat.le_refl _) (by rw [h16]; exact Nat.lt_succ_self _)
  obtain ⟨-, h17, h18, h19⟩ := new_cells (c := (Array.range (b * k)).map (u.cells[· % u.cells.size]!)) (k := 0) h14 hw hn hk (by rw [hrep.length]; simp) (vrs_cells hrep)
  refine ⟨_, _, _, ?_, sl_new (Or.inl rfl), h18, h19⟩
  have hbc : ti.bytes * (b : Int) ≤ 281474976710656 := by
   have : ti.bytes * b ≤ 1000 * 1000000 := Nat.mul_le_mul hb2 (by omega)
   have h2 : ((ti.bytes * b : Nat) : Int) ≤ 1000000000 := by omega
   rw [Int.natCast_mul] at h2
   omega
  have h20 : ¬ (b : Int) < a := by omega
  have h21 : ¬ (b : Int) < 0 := by omega
  have h22 : ¬ (a : Int) < 0 := by omega
  have h23 : ¬ 281474976710656 < ti.bytes * (b : Int) := by omega
  by_cases h0 : b * k = 0
  ·have h24 : (Array.range (b * k)).map (u.cells[· % u.cells.size]!) = #[] := by rw [h0]; simp
   rw [h24]
   simp [Instr.makeSlice, run_un hu, asInt, asIntOf, typeInfo, hi, wrap_small (show a < 1000000 by omega), wrap_small h12, run_sz hk, h0, h20, h21, h22, h23, newRow, show Array.range 0 = #[] from rfl]
  ·simp [Instr.makeSlice, run_un hu, asInt, asIntOf, typeInfo, hi, wrap_small (show a < 1000000 by omega), wrap_small h12, run_sz hk, h0, h20, h21, h22, h23, newRow, zeroValue, hu2]
 ·exact ev_fail
end
section
open Go.RowKit
variable {P : Program} {w0 : World} {ρ : ERho}
def OR (ρ : ERho) (v : Option AV) (x : Option Value) : Prop := match v, x with
 |none, none => True
 |some a, some y => VR ρ a y
 |_, _ => False
theorem or_bnd {v : Option AV} {d k : Nat} {s s' : ESt} (h : ebnd v d s = .ok k s') {x : Option Value} (hv : OR ρ v x) : s' = s ∧ ((v = none ∧ x = none ∧ k = d) ∨ ∃ j a, v = some a ∧ x = some (.int j (k : Int))) := by
 cases v with
 |none =>
  obtain ⟨rfl, rfl⟩ := epure_ok h
  cases x with
  |none => exact ⟨rfl, Or.inl ⟨rfl, rfl, rfl⟩⟩
  |some _ => exact hv.elim
 |some a =>
  cases x with
  |none => exact hv.elim
  |some y =>
   obtain ⟨rfl, j, rfl⟩ := eidx_ok h hv
   exact ⟨rfl, Or.inr ⟨j, a, rfl, rfl⟩⟩
theorem bounds_run {isS : Bool} {len cap c : Nat} {lo hi mx : Option AV} {l h m : Nat} {s s1 s2 s3 : ESt} {xl xh xm : Option Value} (hm : ebnd mx c s = .ok m s1) (hh : ebnd hi len s1 = .ok h s2) (hl : ebnd lo 0 s2 = .ok l s3)
  (vm : OR ρ mx xm) (vh : OR ρ hi xh) (vl : OR ρ lo xl) (h1 : l ≤ h) (h2 : h ≤ m) (h3 : m ≤ c) (hc : c ≤ cap) (hmh : mx ≠ none → hi ≠ none) (w : World) :
  ∃ m', (Instr.sliceBounds isS len cap xl xh xm).run P w = .ok (l, h, m') w ∧ ((mx = none ∧ m = c ∧ m' = cap) ∨ m' = m) := by
 obtain ⟨rfl, (⟨rfl, rfl, rfl⟩ | ⟨jm, am, rfl, rfl⟩)⟩ := or_bnd hm vm
 ·refine ⟨cap, ?_, Or.inl ⟨rfl, rfl, rfl⟩⟩
  obtain ⟨rfl, (⟨rfl, rfl, rfl⟩ | ⟨jh, ah, rfl, rfl⟩)⟩ := or_bnd hh vh
  ·obtain ⟨rfl, (⟨rfl, rfl, rfl⟩ | ⟨jl, al, rfl, rfl⟩)⟩ := or_bnd hl vl
   ·simp [Instr.sliceBounds]
   ·simp only [Instr.sliceBounds, Sem.run_bind, Sem.run_pure, Result.andThen_ok, run_sliceBound (P := P) w jl _ _ _ (show (0 : Int) ≤ (l : Int) by omega) (show (l : Int) ≤ (h : Int) by omega), Int.toNat_natCast]
  ·obtain ⟨rfl, (⟨rfl, rfl, rfl⟩ | ⟨jl, al, rfl, rfl⟩)⟩ := or_bnd hl vl
   ·simp only [Instr.sliceBounds, Sem.run_bind, Sem.run_pure, Result.andThen_ok, run_sliceBound (P := P) w jh _ _ _ (show (0 : Int) ≤ (h : Int) by omega) (show (h : Int) ≤ (cap : Int) by omega), Int.toNat_natCast]
   ·simp only [Instr.sliceBounds, Sem.run_bind, Sem.run_pure, Result.andThen_ok, run_sliceBound (P := P) w jh _ _ _ (show (0 : Int) ≤ (h : Int) by omega) (show (h : Int) ≤ (cap : Int) by omega), run_sliceBound (P := P) w jl _ _ _ (show (0 : Int) ≤ (l : Int) by omega) (show (l : Int) ≤ (h : Int) by omega), Int.toNat_natCast]
 ·refine ⟨m, ?_, Or.inr rfl⟩
  obtain ⟨rfl, (⟨rfl, rfl, rfl⟩ | ⟨jh, ah, rfl, rfl⟩)⟩ := or_bnd hh vh
  ·exact absurd rfl (hmh (by simp))
  ·obtain ⟨rfl, (⟨rfl, rfl, rfl⟩ | ⟨jl, al, rfl, rfl⟩)⟩ := or_bnd hl vl
   ·simp only [Instr.sliceBounds, Sem.run_bind, Sem.run_pure, Result.andThen_ok, run_sliceBound (P := P) w jm _ _ _ (show (0 : Int) ≤ (m : Int) by omega) (show (m : Int) ≤ (cap : Int) by omega), run_sliceBound (P := P) w jh _ _ _ (show (0 : Int) ≤ (h : Int) by omega) (show (h : Int) ≤ (m : Int) by omega), Int.toNat_natCast]
   ·simp only [Instr.sliceBounds, Sem.run_bind, Sem.run_pure, Result.andThen_ok, run_sliceBound (P := P) w jm _ _ _ (show (0 : Int) ≤ (m : Int) by omega) (show (m : Int) ≤ (cap : Int) by omega), run_sliceBound (P := P) w jh _ _ _ (show (0 : Int) ≤ (h : Int) by omega) (show (h : Int) ≤ (m : Int) by omega), run_sliceBound (P := P) w jl _ _ _ (show (0 : Int) ≤ (l : Int) by omega) (show (l : Int) ≤ (h : Int) by omega), Int.toNat_natCast]
theorem ev_slice {t : TypeId} {a : AV} {x : Value} {lo hi mx : Option AV} {xl xh xm : Option Value} (ha : VR ρ a x) (vl : OR ρ lo xl) (vh : OR ρ hi xh) (vm : OR ρ mx xm) (hmh : mx ≠ none → hi ≠ none) :
  EV P w0 ρ (eslice P t a lo hi mx) (Instr.sliceAt t x xl xh xm) := by
 unfold eslice
 split
 ·rename_i hu
  cases ha with
  |st s hs =>
   cases mx with
   |some _ => exact ev_fail
   |none =>
    have hxm : xm = none := by
     cases xm with
     |none => rfl
     |some _ => exact vm.elim
    subst hxm
    refine ev_calm fun s0 v s' hm => ?_
    obtain ⟨h, s1, h1, h2⟩ := ebind_ok hm
    obtain ⟨l, s2, h3, h4⟩ := ebind_ok h2
    obtain ⟨h5, h6⟩ := ecase_ok h4
    rw [iand_eq, Bool.and_eq_true] at h5
    have h7 := nble_iff.1 h5.1
    have h8 := nble_iff.1 h5.2
    rw [llen_eq] at h8 h1
    obtain ⟨rfl, rfl⟩ := epure_ok h6
    obtain ⟨r1, -⟩ := or_bnd h1 vh
    obtain ⟨r2, -⟩ := or_bnd h3 vl
    subst r1 r2
    refine ⟨rfl, rfl, fun w _ => ?_⟩
    obtain ⟨m', h9, -⟩ := bounds_run (P := P) (isS := false) (c := s.length) (cap := s.length) (mx := none) (m := s.length) (s := s') (s1 := s') rfl h1 h3 vm vh vl h7 h8 (Nat.le_refl _) (Nat.le_refl _) hmh w
    refine ⟨.string (bsA ((s.drop l).take (h - l))), ?_, ?_⟩
    ·simp only [Instr.sliceAt, Sem.run_bind, run_un hu, Result.andThen_ok, Instr.slice, Option.isSome_none, Bool.false_eq_true, if_false, Sem.run_pure, bsA_size, h9, bsA_extract]
    ·rw [ltake_eq, ldrop_eq]
     exact .st _ fun y hy => hs y (List.mem_of_mem_drop (List.mem_of_mem_take hy))
  |_ => exact ev_fail
 ·rename_i e hu
  cases ha with
  |sl i o n c c' r hr hc =>
   refine ev_calm fun s0 v s' hm => ?_
   obtain ⟨m, s1, h1, h2⟩ := ebind_ok hm
   obtain ⟨h, s2, h3, h4⟩ := ebind_ok h2
   obtain ⟨l, s3, h5, h6⟩ := ebind_ok h4
   obtain ⟨z, s4, h7, h8⟩ := ebind_ok h6
   obtain ⟨hz, r0⟩ := esz_ok h7
   obtain ⟨h9, h10⟩ := ecase_ok h8
   obtain ⟨rfl, rfl⟩ := epure_ok h10
   rw [iand_eq, iand_eq, Bool.and_eq_true, Bool.and_eq_true] at h9
   have h11 := nble_iff.1 h9.1
   have h12 := nble_iff.1 h9.2.1
   have h13 := nble_iff.1 h9.2.2
   obtain ⟨r1, -⟩ := or_bnd h1 vm
   obtain ⟨r2, -⟩ := or_bnd h3 vh
   obtain ⟨r3, -⟩ := or_bnd h5 vl
   subst r0 r3 r2 r1
   refine ⟨rfl, rfl, fun w _ => ?_⟩
   obtain ⟨m', h14, h15⟩ := bounds_run (P := P) (isS := true) (len := n) (cap := c') h1 h3 h5 vm vh vl h11 h12 h13 (by rcases hc with rfl | rfl <;> omega) hmh w
   refine ⟨.slice (if m' = l then some ⟨r.b, r.d + o, none⟩ else some ⟨r.b, r.d + (o + l * z), none⟩) (h - l) (m' - l), ?_, ?_⟩
   ·simp only [Instr.sliceAt, Sem.run_bind, run_un hu, Result.andThen_ok, Instr.slice, h14, run_sz hz, Sem.run_pure, Option.map_some, add_none, Nat.add_assoc]
   ·have hm' : m ≤ m' := by
     rcases h15 with ⟨_, h16, h17⟩ | h16
     ·rcases hc with rfl | rfl <;> omega
     ·omega
    by_cases he : m' = l
    ·rw [if_pos he]
     have e1 : h - l = 0 := by omega
     have e2 : m' - l = 0 := by omega
     have e3 : Nat.sub h l = 0 := e1
     have e4 : Nat.sub m l = 0 := by show m - l = 0; omega
     rw [e1, e2, e3, e4]
     exact .sz _ _ r hr _
    ·rw [if_neg he]
     refine .sl i (o + l * z) (h - l) (m - l) (m' - l) r hr ?_
     rcases h15 with ⟨_, h16, h17⟩ | h16
     ·rcases hc with rfl | rfl
      ·exact Or.inl (by omega)
      ·exact Or.inr (by omega)
     ·exact Or.inl (by omega)
  |sz i o r hr ad =>
   refine ev_calm fun s0 v s' hm => ?_
   obtain ⟨m, s1, h1, h2⟩ := ebind_ok hm
   obtain ⟨h, s2, h3, h4⟩ := ebind_ok h2
   obtain ⟨l, s3, h5, h6⟩ := ebind_ok h4
   obtain ⟨z, s4, h7, h8⟩ := ebind_ok h6
   obtain ⟨hz, r0⟩ := esz_ok h7
   obtain ⟨h9, h10⟩ := ecase_ok h8
   obtain ⟨rfl, rfl⟩ := epure_ok h10
   rw [iand_eq, iand_eq, Bool.and_eq_true, Bool.and_eq_true] at h9
   have h11 := nble_iff.1 h9.1
   have h12 := nble_iff.1 h9.2.1
   have h13 := nble_iff.1 h9.2.2
   obtain ⟨r1, -⟩ := or_bnd h1 vm
   obtain ⟨r2, -⟩ := or_bnd h3 vh
   obtain ⟨r3, -⟩ := or_bnd h5 vl
   subst r0 r3 r2 r1
   refine ⟨rfl, rfl, fun w _ => ?_⟩
   obtain ⟨m', h14, h15⟩ := bounds_run (P := P) (isS := true) (len := 0) (cap := 0) h1 h3 h5 vm vh vl h11 h12 h13 (Nat.le_refl _) hmh w
   have e0 : m' = 0 ∧ l = 0 ∧ h = 0 ∧ m = 0 := by
    rcases h15 with ⟨_, h16, h17⟩ | h16 <;> omega
   obtain ⟨rfl, rfl, rfl, rfl⟩ := e0
   refine ⟨.slice (some ad) 0 0, ?_, .sz _ _ r hr _⟩
   simp only [Instr.sliceAt, Sem.run_bind, run_un hu, Result.andThen_ok, Instr.slice, h14, run_sz hz, Sem.run_pure, if_true, Nat.sub_zero]
  |sn =>
   refine ev_calm fun s0 v s' hm => ?_
   obtain ⟨m, s1, h1, h2⟩ := ebind_ok hm
   obtain ⟨h, s2, h3, h4⟩ := ebind_ok h2
   obtain ⟨l, s3, h5, h6⟩ := ebind_ok h4
   obtain ⟨z, s4, h7, h8⟩ := ebind_ok h6
   obtain ⟨hz, r0⟩ := esz_ok h7
   obtain ⟨h9, h10⟩ := ecase_ok h8
   obtain ⟨rfl, rfl⟩ := epure_ok h10
   rw [iand_eq, iand_eq, Bool.and_eq_true, Bool.and_eq_true] at h9
   have h11 := nbeq_t h9.1
   have h12 := nbeq_t h9.2.1
   have h13 := nbeq_t h9.2.2
   obtain ⟨r1, -⟩ := or_bnd h1 vm
   obtain ⟨r2, -⟩ := or_bnd h3 vh
   obtain ⟨r3, -⟩ := or_bnd h5 vl
   subst r0 r3 r2 r1 h11 h12 h13
   refine ⟨rfl, rfl, fun w _ => ?_⟩
   obtain ⟨m', h14, h15⟩ := bounds_run (P := P) (isS := true) (len := 0) (cap := 0) h1 h3 h5 vm vh vl (Nat.le_refl _) (Nat.le_refl _) (Nat.le_refl _) (Nat.le_refl _) hmh w
   have e0 : m' = 0 := by rcases h15 with ⟨_, h16, h17⟩ | h16 <;> omega
   subst e0
   refine ⟨.slice none 0 0, ?_, .sn⟩
   simp only [Instr.sliceAt, Sem.run_bind, run_un hu, Result.andThen_ok, Instr.slice, h14, run_sz hz, Sem.run_pure, if_true, Nat.sub_zero]
  |_ => exact ev_fail
 ·rename_i a' hu
  split
  ·rename_i n e i o hu2 
   cases ha with
   |pt _ _ r hr =>
    refine ev_calm fun s0 v s' hm => ?_
    obtain ⟨m, s1, h1, h2⟩ := ebind_ok hm
    obtain ⟨h, s2, h3, h4⟩ := ebind_ok h2
    obtain ⟨l, s3, h5, h6⟩ := ebind_ok h4
    obtain ⟨z, s4, h7, h8⟩ := ebind_ok h6
    obtain ⟨hz, r0⟩ := esz_ok h7
    obtain ⟨h9, h10⟩ := ecase_ok h8
    obtain ⟨rfl, rfl⟩ := epure_ok h10
    rw [iand_eq, iand_eq, Bool.and_eq_true, Bool.and_eq_true] at h9
    have h11 := nble_iff.1 h9.1
    have h12 := nble_iff.1 h9.2.1
    have h13 := nble_iff.1 h9.2.2
    obtain ⟨r1, -⟩ := or_bnd h1 vm
    obtain ⟨r2, -⟩ := or_bnd h3 vh
    obtain ⟨r3, -⟩ := or_bnd h5 vl
    subst r0 r3 r2 r1
    refine ⟨rfl, rfl, fun w _ => ?_⟩
    obtain ⟨m', h14, h15⟩ := bounds_run (P := P) (isS := false) (len := n) (cap := n) h1 h3 h5 vm vh vl h11 h12 h13 (Nat.le_refl _) hmh w
    have hm' : m' = m := by rcases h15 with ⟨_, h16, h17⟩ | h16 <;> omega
    subst hm'
    refine ⟨.slice (some (if m' = l then ⟨r.b, r.d + o, none⟩ else ⟨r.b, r.d + (o + l * z), none⟩)) (h - l) (m' - l), ?_, ?_⟩
    ·simp only [Instr.sliceAt, Sem.run_bind, run_un hu, run_un hu2, Result.andThen_ok, Instr.slice, asAddr, h14, run_sz hz, Sem.run_pure, add_none, Nat.add_assoc]
    ·by_cases he : m' = l
     ·rw [if_pos he]
      have e1 : h - l = 0 := by omega
      have e2 : m' - l = 0 := by omega
      have e3 : Nat.sub h l = 0 := e1
      have e4 : Nat.sub m' l = 0 := e2
      rw [e1, e2, e3, e4]
      exact .sz _ _ r hr _
     ·rw [if_neg he]
      exact .sl i (o + l * z) (h - l) (m' - l) (m' - l) r hr (Or.inl rfl)
  ·exact ev_fail
 ·rename_i n e hu
  cases ha with
  |pt i o r hr =>
   refine ev_calm fun s0 v s' hm => ?_
   obtain ⟨m, s1, h1, h2⟩ := ebind_ok hm
   obtain ⟨h, s2, h3, h4⟩ := ebind_ok h2
   obtain ⟨l, s3, h5, h6⟩ := ebind_ok h4
   obtain ⟨z, s4, h7, h8⟩ := ebind_ok h6
   obtain ⟨hz, r0⟩ := esz_ok h7
   obtain ⟨h9, h10⟩ := ecase_ok h8
   obtain ⟨rfl, rfl⟩ := epure_ok h10
   rw [iand_eq, iand_eq, Bool.and_eq_true, Bool.and_eq_true] at h9
   have h11 := nble_iff.1 h9.1
   have h12 := nble_iff.1 h9.2.1
   have h13 := nble_iff.1 h9.2.2
   obtain ⟨r1, -⟩ := or_bnd h1 vm
   obtain ⟨r2, -⟩ := or_bnd h3 vh
   obtain ⟨r3, -⟩ := or_bnd h5 vl
   subst r0 r3 r2 r1
   refine ⟨rfl, rfl, fun w _ => ?_⟩
   obtain ⟨m', h14, h15⟩ := bounds_run (P := P) (isS := false) (len := n) (cap := n) h1 h3 h5 vm vh vl h11 h12 h13 (Nat.le_refl _) hmh w
   have hm' : m' = m := by rcases h15 with ⟨_, h16, h17⟩ | h16 <;> omega
   subst hm'
   refine ⟨.slice (some (if m' = l then ⟨r.b, r.d + o, none⟩ else ⟨r.b, r.d + (o + l * z), none⟩)) (h - l) (m' - l), ?_, ?_⟩
   ·simp only [Instr.sliceAt, Sem.run_bind, run_un hu, Result.andThen_ok, Instr.sureAddr, h14, run_sz hz, Sem.run_pure, add_none, Nat.add_assoc]
   ·by_cases he : m' = l
    ·rw [if_pos he]
     have e1 : h - l = 0 := by omega
     have e2 : m' - l = 0 := by omega
     have e3 : Nat.sub h l = 0 := e1
     have e4 : Nat.sub m' l = 0 := e2
     rw [e1, e2, e3, e4]
     exact .sz _ _ r hr _
    ·rw [if_neg he]
     exact .sl i (o + l * z) (h - l) (m' - l) (m' - l) r hr (Or.inl rfl)
  |_ => exact ev_fail
 ·exact ev_fail
end
section
open Go.RowKit
variable {P : Program} {w0 : World} {ρ : ERho}
theorem veq_run {d : TypeDesc} {a b : AV} {r : Bool} (h : veq d a b = some r) {x y : Value} (ha : VR ρ a x) (hb : VR ρ b y) {t : TypeId} (hu : P.underlying t = some d) (w : World) : (Op.equal t x y).run P w = .ok r w := by
 unfold Op.equal Op.maxDepth Op.equalIn
 rw [Sem.run_bind, run_un hu]
 simp only [Result.andThen_ok]
 unfold veq at h
 split at h <;> first | cases h | skip
 all_goals cases ha
 all_goals cases hb
 all_goals first | rfl | skip
 all_goals (first | (rename_i p q; cases p <;> cases q <;> rfl))
theorem guard_run {op : BinOp} {t : TypeId} {x y : Operand} {a b : Value} (h : ∀ p q, ¬ (a = .agg p ∧ b = .agg q)) (h2 : ¬ (a = .nilIface ∧ b = .nilIface)) (w : World) : (eqGuard op t x y a b).run P w = .ok () w := by
 cases op <;> first | rfl | skip
 all_goals (cases a <;> cases b <;> first | rfl | exact absurd ⟨rfl, rfl⟩ h2 | exact absurd ⟨rfl, rfl⟩ (h _ _))
theorem ev_bin {op : BinOp} {t : TypeId} {ox oy : Operand} {a b : AV} {x y : Value} (ha : VR ρ a x) (hb : VR ρ b y) : EV P w0 ρ (ebin P op t a b) (do eqGuard op t ox oy x y; binOp op t x y) := by
 have lift : ∀ {m : EM AV}, (∀ w, (eqGuard op t ox oy x y).run P w = .ok () w) → EV P w0 ρ m (binOp op t x y) → EV P w0 ρ m (do eqGuard op t ox oy x y; binOp op t x y) := fun hg he s v s' hm w hw hf => by
  obtain ⟨σ, z, w', h1, h2⟩ := he s v s' hm w hw hf
  exact ⟨σ, z, w', by rw [Sem.run_bind, hg]; exact h1, h2⟩
 unfold ebin
 split
 ·cases ha
  cases hb
  rename_i k a j b
  refine lift (guard_run (fun p q h => by cases h.1) (fun h => by cases h.1)) ?_
  split
  ·exact ev_shift (Or.inl rfl)
  ·exact ev_shift (Or.inr rfl)
  ·refine ev_case fun h => ?_
   have := ikeq_eq h
   subst this
   exact ev_ibin
 ·cases ha with
  |st a h1 => cases hb with
   |st b h2 => exact lift (guard_run (fun p q h => by cases h.1) (fun h => by cases h.1)) (ev_sbin h1 h2)
 ·rename_i n1 n2
  have key : ∀ d r, P.underlying t = some d → veq d a b = some r → ∀ w, (op = .eql → (do eqGuard op t ox oy x y; binOp op t x y).run P w = .ok (.bool r) w) ∧ (op = .neq → (do eqGuard op t ox oy x y; binOp op t x y).run P w = .ok (.bool (!r)) w) := fun d r hu hv w => by
   have he := veq_run hv ha hb hu w
   have hg : (eqGuard op t ox oy x y).run P w = .ok () w := guard_run (fun p q h => by
    obtain ⟨rfl, rfl⟩ := h
    cases ha <;> cases hb <;> (unfold veq at hv; split at hv <;> contradiction)) (fun h => by
    obtain ⟨rfl, rfl⟩ := h
    cases ha <;> cases hb <;> (unfold veq at hv; split at hv <;> contradiction)) w
   rw [Sem.run_bind, hg]
   simp only [Result.andThen_ok]
   have hb1 : (op = .eql → binOp op t x y = (do pure (.bool (← Op.equal t x y)))) ∧ (op = .neq → binOp op t x y = (do pure (.bool (!(← Op.equal t x y))))) := by
    constructor
    ·rintro rfl
     unfold veq at hv
     split at hv <;> first | contradiction | (cases ha <;> cases hb <;> rfl)
    ·rintro rfl
     unfold veq at hv
     split at hv <;> first | contradiction | (cases ha <;> cases hb <;> rfl)
   exact ⟨fun e => by rw [hb1.1 e, Sem.run_bind, he]; rfl, fun e => by rw [hb1.2 e, Sem.run_bind, he]; rfl⟩
  split
  ·rename_i d hu
   refine ev_opt fun r hr => ev_pure fun w => ⟨_, ((key d r hu hr) w).1 rfl, .bo _⟩
  ·rename_i d hu
   refine ev_opt fun r hr => ev_pure fun w => ⟨_, ((key d r hu hr) w).2 rfl, .bo _⟩
  ·exact ev_fail
theorem ev_un {op : UnOp} {a : AV} {x : Value} (ha : VR ρ a x) : EV P w0 ρ (eun op a) (Op.unary op x) := by
 cases op
 case not => cases ha <;> first | exact ev_fail | exact ev_pure fun w => ⟨_, rfl, .bo _⟩
 case neg => cases ha <;> first | exact ev_fail | exact ev_pure fun w => ⟨_, rfl, by rw [iwrap_eq]; exact .it _ _⟩
 case xor =>
  cases ha <;> try exact ev_fail
  rename_i k n
  cases n with
  |negSucc _ => exact ev_fail
  |ofNat n =>
   refine ev_case fun h => ev_pure fun w => ⟨_, ?_, .it _ _⟩
   rw [iand_eq, Bool.and_eq_true, nblt_iff, show Nat.pow 2 k.bits = 2 ^ k.bits from rfl] at h
   rw [iwrap_eq]
   have hs : k.signed = false := by cases hk : k.signed; rfl; rw [hk] at h; cases h.1
   have hmax : k.max = ((2 ^ k.bits - 1 : Nat) : Int) := by cases k <;> first | rfl | cases hs
   simp only [Op.unary, Op.intBits, hs, Bool.false_eq_true, if_false, hmax]
   simp only [Sem.run_pure, Int.ofNat_eq_natCast, BitVec.ofInt_natCast, BitVec.toNat_xor, BitVec.toNat_ofNat]
   rw [Nat.mod_eq_of_lt h.2, Nat.mod_eq_of_lt (by have := Nat.two_pow_pos k.bits; omega)]
   rfl
 case plus => exact ev_fail
theorem byteA_ok {v : AV} {n : Nat} (h : byteA v = some n) : v = .it .u8 (n : Int) ∧ n < 256 := by
 unfold byteA at h
 split at h
 ·rename_i m
  cases hb : Nat.blt m 256 with
  |false => rw [hb] at h; cases h
  |true => rw [hb] at h; cases h; exact ⟨rfl, nblt_iff.1 hb⟩
 ·cases h
theorem bytesA_vrs {s : List Nat} : VRs ρ (bytesA s) (s.map fun n : Nat => Value.int .u8 (n : Int)) := by
 unfold bytesA
 rw [lmap_eq]
 exact VRs.map fun n _ => .it _ _
theorem bsA_cells {s : List Nat} (h : ∀ x ∈ s, x < 256) : (bsA s).data.toList.map (fun b => Value.int .u8 b.toNat) = s.map fun n : Nat => Value.int .u8 (n : Int) := by
 show (s.map UInt8.ofNat).toArray.toList.map _ = _
 rw [List.map_map]
 refine List.map_congr_left fun n hn => ?_
 have := h n hn
 simp only [Function.comp, UInt8.toNat_ofNat']
 rw [Nat.mod_eq_of_lt this]
theorem bytes_in_row {l : List AV} {c : Array Value} {d o n : Nat} {bs : List Nat} (hl : ∀ (i : Nat) (v : AV), l[i]? = some v → ∃ x, c[d + i]? = some x ∧ VR ρ v x) (h : omap byteA ((l.drop o).take n) = some bs) (hn : bs.length = n) :
  (∀ x ∈ bs, x < 256) ∧ ∀ (j b : Nat), bs[j]? = some b → c[d + (o + j)]? = some (.int .u8 (b : Int)) := by
 obtain ⟨h1, h2⟩ := omap_some h
 have hb : ∀ j b, bs[j]? = some b → ∃ v, l[o + j]? = some v ∧ byteA v = some b := fun j b hj => by
  have hlt : j < ((l.drop o).take n).length := by rw [h1]; exact (List.getElem?_eq_some_iff.1 hj).1
  obtain ⟨y, h3, h4⟩ := h2 j _ (List.getElem?_eq_getElem hlt)
  rw [hj] at h4
  cases h4
  refine ⟨_, ?_, h3⟩
  have := List.getElem?_eq_getElem hlt
  rw [List.getElem?_take, if_pos (by rw [← hn]; exact (List.getElem?_eq_some_iff.1 hj).1), List.getElem?_drop] at this
  exact this
 refine ⟨fun x hx => ?_, fun j b hj => ?_⟩
 ·obtain ⟨j, hj⟩ := List.mem_iff_getElem?.1 hx
  obtain ⟨v, _, h3⟩ := hb j x hj
  exact (byteA_ok h3).2
 ·obtain ⟨v, h3, h4⟩ := hb j b hj
  obtain ⟨rfl, _⟩ := byteA_ok h4
  obtain ⟨x, h5, h6⟩ := hl _ _ h3
  cases h6
  exact h5
theorem foldl_push : ∀ (l : List Nat) (r : ByteArray), (l.map (fun n : Nat => (n : Int))).foldl (fun r n => r.push (UInt8.ofNat n.toNat)) r = r ++ bsA l
 |[], r => by
  apply ByteArray.ext
  simp [bsA, ByteArray.data_append]
 |n :: l, r => by
  rw [List.map_cons, List.foldl_cons, foldl_push l]
  apply ByteArray.ext
  simp [bsA, ByteArray.data_append, ByteArray.data_push]
theorem ev_conv {s d : TypeId} {a : AV} {x : Value} (ha : VR ρ a x) : EV P w0 ρ (econv P s d a) (convert s d x) := by
 unfold econv
 split
 ·rename_i u k _ n hs hd
  cases ha
  exact ev_pure fun w => ⟨.int k (k.wrap n), by simp [convert, run_un hs, run_un hd, Conv.intToInt], by rw [iwrap_eq]; exact .it _ _⟩
 ·rename_i u b hs hd
  cases ha with
  |st _ h1 => exact ev_pure fun w => ⟨.string (bsA b), by simp [convert, run_un hs, run_un hd], .st _ h1⟩
 ·rename_i u e b hs hd
  cases ha with
  |st _ h1 =>
   split
   ·rename_i he
    intro s0 v s' hm w hw hf
    obtain ⟨z, s1, h2, h3⟩ := ebind_ok hm
    obtain ⟨hz, rfl⟩ := esz_ok h2
    obtain ⟨h4, h5⟩ := ecase_ok h3
    have h6 := nbeq_t h4
    subst h6
    obtain ⟨i, s2, h7, h8⟩ := ebind_ok h5
    obtain ⟨rfl, rfl⟩ := epure_ok h8
    obtain ⟨rfl, rfl⟩ := enew_ok h7
    have hn : ρ s1.nx = none := hf _ (Nat.le_refl _) (Nat.lt_succ_self _)
    obtain ⟨gc, hgc⟩ : ∃ gc, grownCap w (bsA b).size 0 e = gc := ⟨_, rfl⟩
    have hge : b.length ≤ gc := by rw [← hgc, ← bsA_size]; exact grownCap_ge _ _ _ _
    have hcells : Lib.bytesCells w e (bsA b) = (b.map fun n : Nat => Value.int .u8 (n : Int)).toArray ++ Array.replicate (gc - b.length) (.int .u8 0) := by
     unfold Lib.bytesCells
     rw [hgc, bsA_size]
     congr 1
     apply Array.ext'
     rw [Array.toList_map, bsA_cells h1]
    have hcs : (Lib.bytesCells w e (bsA b)).size = gc := by rw [hcells]; simp; omega
    have hrun := Lib.run_convert_string_bytes (P := P) w s d e (bsA b) hs hd he
    rw [hgc, bsA_size] at hrun
    refine ⟨eup ρ s1.nx ⟨w.heap.size, 0, gc - b.length⟩, _, _, hrun, ?_, ?_, EExt.one hn⟩
    ·rw [llen_eq]
     exact sl_new (Or.inr (by omega))
    ·refine hw.add hn hw.fp.size (Lib.bytesWorld_at_new w e (bsA b)) ⟨_, _, 1, rfl, hz, rfl, ⟨?_, ?_, fun h => ?_⟩, ?_⟩ ?_ ?_
     ·show 0 + (bytesA b).length + (gc - b.length) * 1 ≤ _
      rw [hcs, bytesA_vrs (ρ := ρ).length, List.length_map]
      omega
     ·intro k _ hk
      simp only
      omega
     ·exfalso
      have h' : b.length + 1 ≤ (bytesA b).length := by rw [← llen_eq]; exact h
      rw [(bytesA_vrs (ρ := ρ)).length, List.length_map] at h'
      omega
     ·intro j v hv
      obtain ⟨x, h9, h10⟩ := (bytesA_vrs (ρ := ρ)).nth hv
      refine ⟨x, ?_, h10.up (eup_le hn)⟩
      rw [hcells, Array.getElem?_append_left (by have := (List.getElem?_eq_some_iff.1 h9).1; simpa using this)]
      simpa using h9
     ·exact hw.fp.trans (⟨rfl, rfl, rfl, by rw [Lib.bytesWorld_size]; omega, fun k hk _ => Lib.bytesWorld_at_old w e (bsA b) k hk⟩ : Fp [] w (Lib.bytesWorld w e (bsA b))) (by simp)
     ·intro i c q hc hq
      obtain ⟨q1, o1, e1, _, h11, _⟩ := hw.blk i c hc
      rw [hq] at e1
      cases e1
      have := heap_lt h11
      exact ⟨by show q.b ≠ w.heap.size; omega, Lib.bytesWorld_at_old w e (bsA b) _ this⟩
   ·exact ev_fail
 ·rename_i e i o n c hs hd
  split
  ·rename_i he
   cases ha with
   |sl _ _ _ _ c' r hr hc =>
    refine ev_calm fun s0 v s' hm => ?_
    obtain ⟨y, s1, h1, h2⟩ := ebind_ok hm
    obtain ⟨hb, rfl⟩ := ecells_ok h1
    obtain ⟨bs, s2, h3, h4⟩ := ebind_ok h2
    obtain ⟨h5, rfl⟩ := eopt_ok h3
    obtain ⟨h6, h7⟩ := ecase_ok h4
    obtain ⟨rfl, rfl⟩ := epure_ok h7
    have h8 := nbeq_t h6
    rw [llen_eq] at h8
    rw [ltake_eq, ldrop_eq] at h5
    refine ⟨rfl, rfl, fun w hw => ?_⟩
    obtain ⟨cs, f, z, hcs, -, -, -, hl⟩ := hp_cells hw hb hr
    obtain ⟨h9, h10⟩ := bytes_in_row hl h5 h8
    refine ⟨.string (bsA bs), ?_, .st _ h9⟩
    have hload := run_loadCells_list (P := P) w ⟨r.b, r.d + o, none⟩ (bs.map fun n : Nat => Value.int .u8 (n : Int)) (fun j v hj => by
     rw [List.getElem?_map] at hj
     cases hq : bs[j]? with
     |none => rw [hq] at hj; cases hj
     |some q =>
      rw [hq] at hj
      cases hj
      rw [add_none, cell_of_block hcs, Nat.add_assoc]
      exact h10 j q hq)
    rw [List.length_map, h8] at hload
    have hcv := run_bytesToString (P := P) w ⟨r.b, r.d + o, none⟩ n c' (bs.map fun n : Nat => (n : Int)) (by rw [List.map_map]; exact hload)
    rw [foldl_push] at hcv
    have he0 : ByteArray.empty ++ bsA bs = bsA bs := by
     apply ByteArray.ext
     simp
    rw [he0] at hcv
    simp only [convert, Sem.run_bind, run_un hs, run_un hd, run_un he, Result.andThen_ok, hcv]
   |sz _ _ r hr ad =>
    refine ev_calm fun s0 v s' hm => ?_
    obtain ⟨y, s1, h1, h2⟩ := ebind_ok hm
    obtain ⟨hb, rfl⟩ := ecells_ok h1
    obtain ⟨bs, s2, h3, h4⟩ := ebind_ok h2
    obtain ⟨h5, rfl⟩ := eopt_ok h3
    obtain ⟨h6, h7⟩ := ecase_ok h4
    obtain ⟨rfl, rfl⟩ := epure_ok h7
    have h8 := nbeq_t h6
    rw [llen_eq] at h8
    have h9 : bs = [] := List.length_eq_zero_iff.1 h8
    subst h9
    refine ⟨rfl, rfl, fun w _ => ⟨.string (bsA []), ?_, .st _ (by simp)⟩⟩
    have hcv := run_bytesToString (P := P) w ad 0 0 [] (by simp [loadCells, loadCellsFrom])
    simp only [convert, Sem.run_bind, run_un hs, run_un hd, run_un he, Result.andThen_ok, hcv]
    rfl
  ·exact ev_fail
 ·rename_i e hs hd
  split
  ·rename_i he
   cases ha
   exact ev_pure fun w => ⟨.string (bsA []), by simp only [convert, Sem.run_bind, run_un hs, run_un hd, run_un he, Result.andThen_ok, Conv.bytesToString]; rfl, .st _ (by simp)⟩
  ·exact ev_fail
 ·exact ev_fail
end
end Go.Proofs.YtkjmgbifoaoefaaGreatDoor
