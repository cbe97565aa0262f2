/-
 The evaluator's operations are the model's: entries, iterators, bytes that a string shares. The evaluator's operations are the model's: one operation, whichever it is. The evaluator's operations are the model's: any operation. What a run of the evaluator looks at and turns: it runs alike on whatever memory agrees there.
-/
import Derived.Test.YtigajcabgaddgaaGreatDoorWEvX
import Derived.DefersIn
import Derived.Test.YtigajcabgaddgaaGreatDoorWEvL
set_option maxRecDepth 100000
set_option maxHeartbeats 8000000
namespace Go.Proofs.YtigajcabgaddgaaGreatDoor
section
set_option linter.unusedSectionVars false
open Go.RowKit
variable [Val]
variable {P : Program} {w0 : World} {ρ : ERho}
theorem two_vr {a b : AV} {x y : Value} (h : VR ρ a x) (k : VR ρ b y) : VR ρ (.tu [a, b]) (.tuple #[x, y]) := VR.tu [a, b] [x, y] (.cons _ _ _ _ h (.one k))
theorem three_vr {a b c : AV} {x y z : Value} (h : VR ρ a x) (k : VR ρ b y) (l : VR ρ c z) : VR ρ (.tu [a, b, c]) (.tuple #[x, y, z]) := VR.tu [a, b, c] [x, y, z] (.cons _ _ _ _ h (.cons _ _ _ _ k (.one l)))
theorem ev_mapEntry {t : TypeId} {a k : AV} {x y : Value} (ha : VR ρ a x) (hk : VR ρ k y) : EV P w0 ρ (emapEntry P t a k) (Instr.mapEntry t x y) := by
 intro s u s' hm w hw hf
 unfold emapEntry at hm
 cases hu : P.underlying t with
 |none => rw [hu] at hm; exact (efail_ok (e := [63]) (s := s) hm).elim
 |some d =>
  rw [hu] at hm
  cases d with
  |map kt et =>
   cases ha with
   |mp i r hr =>
    obtain ⟨mx, s1, h1, h2⟩ := ebind_ok (m := emap i) hm
    obtain ⟨hb, rfl⟩ := emap_ok h1
    obtain ⟨q, s2, h3, h4⟩ := ebind_ok h2
    obtain ⟨ms, h5, h6⟩ := hp_map hw hb hr
    obtain ⟨rfl, q', h7, h8, h9⟩ := ekeyed_run h3 hk h6
    cases q with
    |none =>
     have hq : q' = none := h8
     subst hq
     obtain ⟨z, s3, h20, h21⟩ := ebind_ok h4
     obtain ⟨rfl, zv, h22, h23⟩ := vzero_ok h20
     obtain ⟨u1, s4, h10, h11⟩ := ebind_ok h21
     obtain ⟨rfl, rfl⟩ := epure_ok h11
     have h12 := eset_ok h10
     subst h12
     obtain ⟨w', h13, h14⟩ := run_setMap (P := P) (o' := .map (ms.push { key := y, val := zv, born := mx.2 }) (mx.2 + 1)) h5 (by intros; simp)
     refine ⟨ρ, .tuple #[zv, .int .i64 (mx.2 : Int)], w', ?_, two_vr (h23 ρ) (.it _ _), hw.set hb hr h14 ⟨_, rfl, ents_push h6 ⟨hk, h23 ρ, rfl⟩⟩, EExt.refl _ _ _⟩
     unfold Instr.mapEntry
     rw [Sem.run_bind, run_un hu]
     simp [run_getMap h5, h9, h7, h13, h22, goInt]
    |some q =>
     obtain ⟨j, v', b⟩ := q
     obtain ⟨k', m, _, h15, h16, rfl, h17, h18, h19, h20⟩ := h8
     obtain ⟨u1, s3, h10, h11⟩ := ebind_ok h4
     obtain ⟨rfl, rfl⟩ := epure_ok h11
     have h12 := eset_ok h10
     subst h12
     rw [Nat.sub_zero] at h15 h16
     rw [Array.getElem?_toList] at h16
     obtain ⟨w', h13, h14⟩ := run_setMap (P := P) (o' := .map (ms.modify j fun e => { e with key := y }) mx.2) h5 (by intros; simp)
     refine ⟨ρ, .tuple #[m.val, .int .i64 (b : Int)], w', ?_, two_vr h19 (.it _ _), hw.set hb hr h14 ⟨_, rfl, ents_mod h6 h15 h16 ⟨hk, h19, h20⟩⟩, EExt.refl _ _ _⟩
     unfold Instr.mapEntry
     rw [Sem.run_bind, run_un hu]
     simp [run_getMap h5, h9, h7, h16, Instr.keyThatStays, h18, h13, goInt, h20]
   |_ => exact (efail_ok (e := [63]) (s := s) hm).elim
  |_ => cases ha <;> exact (efail_ok (e := [63]) (s := s) hm).elim
theorem stamp_run {b : Nat} : ∀ {es : List (AV × AV × Nat)} {ms : List MapEntry} {i j : Nat}, EntsR ρ es ms → estamp b es i = some j → i ≤ j ∧ ms.findIdx? (fun e => (e.born : Int) == (b : Int)) = some (j - i) ∧ ∃ e m, es[j - i]? = some e ∧ ms[j - i]? = some m ∧ EntR ρ e m
 |_, _, i, j, .nil, h => by cases h
 |_, _, i, j, .cons e m es ms hv hs, h => by
  have h' : (Bool.rec (estamp b es (i + 1)) (some i) (Nat.beq e.2.2 b) : Option Nat) = some j := h
  by_cases hb : e.2.2 = b
  ·rw [show Nat.beq e.2.2 b = true from by rw [nbeq]; simpa using hb] at h'
   cases h'
   have hbm : ((m.born : Int) == (b : Int)) = true := by rw [← hv.2.2, hb]; simp
   exact ⟨Nat.le_refl _, by rw [Nat.sub_self, List.findIdx?_cons, hbm]; rfl, e, m, by rw [Nat.sub_self]; rfl, by rw [Nat.sub_self]; rfl, hv⟩
  ·rw [nbeq_f hb] at h'
   obtain ⟨h1, h2, e', m', h3, h4, h5⟩ := stamp_run hs h'
   have hj : j - i = (j - (i + 1)) + 1 := by omega
   have hbm : ((m.born : Int) == (b : Int)) = false := by
    rw [← hv.2.2, beq_eq_false_iff_ne]
    intro hh
    exact hb (by omega)
   exact ⟨by omega, by rw [List.findIdx?_cons, hbm, h2, hj]; rfl, e', m', by rw [hj, List.getElem?_cons_succ]; exact h3, by rw [hj, List.getElem?_cons_succ]; exact h4, h5⟩
theorem ev_entryStore {t : TypeId} {a k v : AV} {x y z : Value} (ha : VR ρ a x) (hk : VR ρ k y) (hv : VR ρ v z) : EVU P w0 ρ (eentryStore a k v) (Instr.entryStore t x y z) := by
 intro s u s' hm w hw hf
 cases ha with
 |mp i r hr =>
  obtain ⟨b, s0, h1, h2⟩ := ebind_ok (m := eidx k) hm
  obtain ⟨rfl, jk, rfl⟩ := eidx_ok h1 hk
  obtain ⟨mx, s1, h3, h4⟩ := ebind_ok h2
  obtain ⟨hb, rfl⟩ := emap_ok h3
  obtain ⟨j, s2, h5, h6⟩ := ebind_ok h4
  obtain ⟨h7, rfl⟩ := eopt_ok h5
  obtain ⟨u1, s3, h8, h9⟩ := ebind_ok h6
  obtain ⟨rfl, rfl⟩ := epure_ok h9
  have h10 := eset_ok h8
  subst h10
  obtain ⟨ms, h11, h12⟩ := hp_map hw hb hr
  obtain ⟨_, h13, e, m, h14, h15, h16⟩ := stamp_run h12 h7
  rw [Nat.sub_zero] at h13 h14 h15
  rw [Array.getElem?_toList] at h15
  obtain ⟨w', h17, h18⟩ := run_setMap (P := P) (o' := .map (ms.modify j fun e => { e with val := z }) mx.2) h11 (by intros; simp)
  refine ⟨ρ, w', ?_, rfl, hw.set hb hr h18 ⟨_, rfl, ents_mod h12 h14 h15 ⟨h16.1, hv, h16.2.2⟩⟩, EExt.refl _ _ _⟩
  have hfi : ms.findIdx? (fun e => (e.born : Int) == (b : Int)) = some j := by
   rw [show ms = ms.toList.toArray from by simp, List.findIdx?_toArray]
   exact h13
  unfold Instr.entryStore
  simp only [Sem.run_bind, run_getMap h11, Result.andThen_ok, asInt, asIntOf, Sem.run_pure]
  rw [hfi]
  exact h17
 |_ => exact (efail_ok (e := [64]) (s := s) hm).elim
theorem ents_erase {es : List (AV × AV × Nat)} {ms : Array MapEntry} (h : EntsR ρ es ms.toList) {j : Nat} (hj : j < ms.size) : EntsR ρ (lapp (ltake es j) (ldrop es (j + 1))) (ms.eraseIdxIfInBounds j).toList := by
 have h1 : (ms.eraseIdxIfInBounds j).toList = ms.toList.take j ++ ms.toList.drop (j + 1) := by
  rw [Array.eraseIdxIfInBounds_eq, dif_pos hj, Array.toList_eraseIdx, List.eraseIdx_eq_take_drop_succ]
 rw [h1, lapp_eq, ltake_eq, ldrop_eq]
 have key : ∀ {a : List (AV × AV × Nat)} {b : List MapEntry}, EntsR ρ a b → ∀ j, EntsR ρ (a.take j ++ a.drop (j + 1)) (b.take j ++ b.drop (j + 1)) := fun {a b} h => by
  induction h with
  |nil => intro j; simpa using EntsR.nil
  |cons x y es ms hx hs ih =>
   intro j
   cases j with
   |zero => simpa using hs
   |succ j => exact .cons x y _ _ hx (ih j)
 exact key h j
theorem ev_delete {t : TypeId} {ts : List TypeId} {ty : TypeId} {a k : AV} {x y : Value} (ha : VR ρ a x) (hk : VR ρ k y) : EV P w0 ρ (edelete P t a k) (Builtin.delete_ (t :: ts).toArray ty #[x, y]) := by
 intro s u s' hm w hw hf
 unfold edelete at hm
 cases hu : P.underlying t with
 |none => rw [hu] at hm; exact (efail_ok (e := [65]) (s := s) hm).elim
 |some d =>
  rw [hu] at hm
  cases d with
  |map kt et =>
   cases ha with
   |mp i r hr =>
    obtain ⟨mx, s1, h1, h2⟩ := ebind_ok (m := emap i) hm
    obtain ⟨hb, rfl⟩ := emap_ok h1
    obtain ⟨q, s2, h3, h4⟩ := ebind_ok h2
    obtain ⟨ms, h5, h6⟩ := hp_map hw hb hr
    obtain ⟨rfl, q', h7, h8, h9⟩ := ekeyed_run h3 hk h6
    cases q with
    |none =>
     have hq : q' = none := h8
     subst hq
     obtain ⟨u1, s3, h10, h11⟩ := ebind_ok h4
     obtain ⟨rfl, rfl⟩ := epure_ok h11
     have h12 := eset_ok h10
     subst h12
     obtain ⟨w', h13, h14⟩ := run_setMap (P := P) (o' := .map ms mx.2) h5 (by intros; simp)
     refine ⟨ρ, .tuple #[], w', ?_, .un, hw.set hb hr h14 ⟨_, rfl, h6⟩, EExt.refl _ _ _⟩
     simp [Builtin.delete_, run_un hu, run_getMap h5, h9, h7, h13]
    |some q =>
     obtain ⟨j, v', b⟩ := q
     obtain ⟨k', m, _, h15, h16, rfl, h17, h18, h19, h20⟩ := h8
     obtain ⟨u1, s3, h10, h11⟩ := ebind_ok h4
     obtain ⟨rfl, rfl⟩ := epure_ok h11
     have h12 := eset_ok h10
     subst h12
     rw [Nat.sub_zero, Array.getElem?_toList] at h16
     obtain ⟨w', h13, h14⟩ := run_setMap (P := P) (o' := .map (ms.eraseIdxIfInBounds j) mx.2) h5 (by intros; simp)
     refine ⟨ρ, .tuple #[], w', ?_, .un, hw.set hb hr h14 ⟨_, rfl, ents_erase h6 (Array.getElem?_eq_some_iff.1 h16).1⟩, EExt.refl _ _ _⟩
     simp [Builtin.delete_, run_un hu, run_getMap h5, h9, h7, h13]
   |_ => exact (efail_ok (e := [65]) (s := s) hm).elim
  |_ => exact (efail_ok (e := [65]) (s := s) hm).elim
theorem new_obj {s s' : ESt} {i : Nat} {b : Blk} {o : Obj} {w : World} (h : enew b s = .ok i s') (hw : ERel P w0 ρ s.hp w) (hf : ρ s.nx = none) (ho : ∀ σ, ELe ρ σ → BR P σ ⟨w.heap.size, 0, 0⟩ b o) :
  i = s.nx ∧ s'.nx = s.nx + 1 ∧ ERel P w0 (eup ρ s.nx ⟨w.heap.size, 0, 0⟩) s'.hp (w.alloc o) ∧ EExt ρ (eup ρ s.nx ⟨w.heap.size, 0, 0⟩) s.nx s'.nx := by
 obtain ⟨rfl, rfl⟩ := enew_ok h
 exact ⟨rfl, rfl, hw.alloc hf (ho _ (eup_le hf)), EExt.one hf⟩
theorem ev_range {t : TypeId} {a : AV} {x : Value} (ha : VR ρ a x) : EV P w0 ρ (erange P t a) (Instr.range t x) := by
 intro s u s' hm w hw hf
 unfold erange at hm
 cases hu : P.underlying t with
 |none => rw [hu] at hm; exact (efail_ok (e := [66]) (s := s) hm).elim
 |some d =>
  rw [hu] at hm
  cases d <;> cases ha <;> try exact (efail_ok (e := [66]) (s := s) hm).elim
  ·rename_i sy b hb
   obtain ⟨i, s1, h1, h2⟩ := ebind_ok (m := enew (.si sy 0)) hm
   obtain ⟨rfl, rfl⟩ := epure_ok h2
   have hi := enew_ok h1
   have hn : ρ s.nx = none := hf _ (Nat.le_refl _) (by rw [hi.2]; exact Nat.lt_succ_self _)
   obtain ⟨rfl, h3, h4, h5⟩ := new_obj h1 hw hn (o := .stringIter (bsA b) 0) fun _ _ => ⟨⟨b, rfl, hb⟩, rfl⟩
   exact ⟨_, .pointer (some ⟨w.heap.size, 0, none⟩), _, by simp [Instr.range, run_un hu], pt_new, h4, h5⟩
  ·rename_i b hb
   obtain ⟨i, s1, h1, h2⟩ := ebind_ok (m := enew (.si b 0)) hm
   obtain ⟨rfl, rfl⟩ := epure_ok h2
   have hi := enew_ok h1
   have hn : ρ s.nx = none := hf _ (Nat.le_refl _) (by rw [hi.2]; exact Nat.lt_succ_self _)
   obtain ⟨rfl, h3, h4, h5⟩ := new_obj h1 hw hn (o := .stringIter (bsA b) 0) fun _ _ => ⟨⟨b, rfl, .conc hb⟩, rfl⟩
   exact ⟨_, .pointer (some ⟨w.heap.size, 0, none⟩), _, by simp [Instr.range, run_un hu], pt_new, h4, h5⟩
theorem run_getO {w : World} {b : Nat} {o : Obj} (h : w.heap[b]? = some o) (hc : ∀ c t f, o ≠ .cells c t f) : (getObj b).run P w = .ok o w := by
 cases o <;> first | (simp only [getObj, Sem.run, h]; done) | exact absurd rfl (hc _ _ _)
theorem ev_next {a : AV} {x : Value} {str : Bool} {ty : TypeId} (ha : VR ρ a x) : EV P w0 ρ (enext a str) (Instr.next x str ty) := by
 intro s u s' hm w hw hf
 cases ha with
 |pt i o r hr =>
  cases o with
  |succ o => exact (efail_ok (e := [69]) (s := s) hm).elim
  |zero =>
   obtain ⟨b, s1, h1, h2⟩ := ebind_ok (m := eget i) hm
   obtain ⟨hb, rfl⟩ := eget_ok h1
   obtain ⟨r1, ob, e1, _, h3, h4⟩ := hw.blk i _ hb
   rw [hr] at e1
   cases e1
   cases b with
   |si sy p =>
    obtain ⟨⟨b, rfl, hbs⟩, hd⟩ := h4
    rw [hd]
    cases str with
    |false => exact (efail_ok (e := [69]) h2).elim
    |true =>
     have h5 : (match lnth sy p with
       |none => epure (.tu [.bo false])
       |some c => ecase [67] (ior (Nat.blt c 128) (iand (Nat.ble 256 c) (Nat.blt (cHi c) 128))) (ebind (eset i (.si sy (Nat.succ p))) fun _ => epure (.tu [.bo true, .it .i64 (Int.ofNat p), cA .i32 c])) : EM AV) ⟨s.hp, s.nx, s.rd ||| (1 <<< i), s.wr⟩ = .ok u s' := h2
     rw [lnth_eq] at h5
     have hlen := hbs.length
     cases hp : sy[p]? with
     |none =>
      rw [hp] at h5
      obtain ⟨rfl, rfl⟩ := epure_ok h5
      refine ⟨ρ, .tuple #[.bool false], w, ?_, VR.tu [.bo false] [.bool false] (.one (.bo false)), hw, EExt.refl _ _ _⟩
      have hlt : ¬ p < (bsA b).size := by rw [bsA_size]; have := List.getElem?_eq_none_iff.1 hp; omega
      simp [Instr.next, run_getO h3, hlt]
     |some d =>
      rw [hp] at h5
      obtain ⟨h6, h7⟩ := ecase_ok h5
      obtain ⟨c, hpb, hdc⟩ := hbs.nth hp
      have hc : c < 128 := by
       rw [ior_eq, iand_eq, Bool.or_eq_true, Bool.and_eq_true, nblt_iff, nble_iff, nblt_iff] at h6
       rcases h6 with h6 | h6
       ·rw [hdc.2.1 (by omega)]; exact h6
       ·have := (hdc.2.2 h6.1).2.1
        omega
      obtain ⟨u1, s3, h8, h9⟩ := ebind_ok h7
      obtain ⟨rfl, rfl⟩ := epure_ok h9
      have h10 := eset_ok h8
      subst h10
      have hpl := (List.getElem?_eq_some_iff.1 hpb).1
      have hlt : p < (bsA b).size := by rw [bsA_size]; exact hpl
      obtain ⟨w', h11, h12⟩ := run_setMap (P := P) (o' := .stringIter (bsA b) (p + 1)) h3 (by intros; simp)
      have hget : ((bsA b).get! p).toNat = c := by
       have h13 := bsA_get hpb (by omega)
       rw [getElem?_pos (bsA b) p hlt] at h13
       have h14 : (bsA b).get! p = UInt8.ofNat c := by
        have : (bsA b).get! p = (bsA b)[p] := by
         show (bsA b).data.get!Internal p = (bsA b).data[p]
         simp [Array.get!Internal, Array.getD, hlt]
        rw [this]
        injection h13
       rw [h14]
       simp only [UInt8.toNat_ofNat']
       omega
      have hdec : Utf8.decode (bsA b) p = (c, 1) := by
       unfold Utf8.decode
       simp only [Nat.add_zero, hget]
       rw [if_pos (by omega)]
      refine ⟨ρ, .tuple #[.bool true, .int .i64 (p : Int), .int .i32 (c : Int)], w', ?_, three_vr (.bo true) (.it _ _) (cA_vr hdc .i32), hw.set hb hr h12 ⟨⟨b, rfl, hbs⟩, hd⟩, EExt.refl _ _ _⟩
      simp [Instr.next, run_getO h3, hlt, hdec, h11, goInt]
   |_ => exact (efail_ok (e := [69]) h2).elim
 |_ => exact (efail_ok (e := [69]) (s := s) hm).elim
theorem ev_sliceData {ts : Array TypeId} {ty : TypeId} {a : AV} {x : Value} (ha : VR ρ a x) : EV P w0 ρ (match a with
  |.sl i o _ c => Bool.rec (epure (.pt i o)) (efail [76]) (Nat.beq c 0)
  |.sn => epure .pn
  |_ => efail [76]) (Builtin.unsafeSliceData_ ts ty #[x]) := by
 cases ha with
 |sl i o n c c' r hr hc =>
  refine ev_calm fun s v s' hm => ?_
  by_cases h0 : c = 0
  ·subst h0
   exact (efail_ok (e := [76]) (s := s) hm).elim
  ·have hm2 : (Bool.rec (epure (.pt i o)) (efail [76]) (Nat.beq c 0) : EM AV) s = .ok v s' := hm
   rw [nbeq_f h0] at hm2
   obtain ⟨rfl, rfl⟩ := epure_ok (a := AV.pt i o) hm2
   refine ⟨rfl, rfl, fun w _ => ⟨.pointer (some ⟨r.b, r.d + o, none⟩), ?_, .pt i o r hr⟩⟩
   exact Lib.run_unsafeSliceData_row (P := P) w ts ty _ n c' (by rcases hc with rfl | rfl <;> omega)
 |sz i o r hr ad =>
  refine ev_calm fun s v s' hm => ?_
  exact (efail_ok (e := [76]) (s := s) hm).elim
 |sn => exact ev_pure fun w => ⟨.pointer none, Lib.run_unsafeSliceData_nil (P := P) w ts ty 0 0, .pn⟩
 |_ => exact ev_fail
theorem ev_unsafeString {t t2 : TypeId} {ty : TypeId} {a b : AV} {x y : Value} (ha : VR ρ a x) (hb : VR ρ b y) : EV P w0 ρ (eunsafeString P t a b) (Builtin.unsafeString_ #[t, t2] ty #[x, y]) := by
 unfold eunsafeString
 split
 ·rename_i n
  cases hb
  split
  ·rename_i e hu
   cases ha with
   |pn =>
    refine ev_case fun h => ?_
    have := nbeq_t h
    subst this
    exact ev_pure fun w => ⟨.string (bsA []), Lib.run_unsafeString_none (P := P) w t t2 ty none, .st _ (by simp)⟩
   |pt i o r hr =>
    refine ev_case fun h => ?_
    have := nbeq_t h
    subst this
    split
    ·rename_i he
     intro s u s' hm2 w hw hf
     unfold eunsafeBytes at hm2
     obtain ⟨z, s1, h1, h2⟩ := ebind_ok hm2
     obtain ⟨hz, rfl⟩ := esz_ok h1
     by_cases h0 : n = 0
     ·subst h0
      obtain ⟨rfl, rfl⟩ := epure_ok (a := AV.st []) h2
      exact ⟨ρ, .string (bsA []), w, Lib.run_unsafeString_none (P := P) w t t2 ty _, .st _ (by simp), hw, EExt.refl _ _ _⟩
     ·rw [nbeq_f h0] at h2
      obtain ⟨mx, s2, h3, h4⟩ := ebind_ok h2
      obtain ⟨hbk, rfl⟩ := ecells_ok h3
      obtain ⟨l, s3, h5, h6⟩ := ebind_ok h4
      obtain ⟨h7, rfl⟩ := eopt_ok h5
      obtain ⟨h8, h9⟩ := ecase_ok h6
      simp only [iand_eq, Bool.and_eq_true] at h8
      obtain ⟨e1, e2, e3, e4, e5⟩ := h8
      have hz1 := nbeq_t e1
      have hn6 := nblt_iff.1 e2
      have hln := nbeq_t e3
      have hte := nbeq_t e4
      have hfz := nble_iff.1 e5
      rw [llen_eq] at hln hfz
      obtain ⟨u1, s4, h10, h11⟩ := ebind_ok h9
      obtain ⟨rfl, rfl⟩ := epure_ok h11
      have h12 := eset_ok h10
      subst h12
      obtain ⟨c, f, z2, hc1, hz2, hd0, hr1, hl1⟩ := hp_cells hw hbk hr
      rw [ltake_eq] at h7
      obtain ⟨bt, hbt, hb2⟩ := bytesS_in_row (o := 0) (n := n) hl1 (by simpa using h7)
      have hb1 := hbt.lt
      have hltl := hbt.length
      rw [hln] at hltl
      rw [hd0] at hb2 hr1 ⊢
      have hsz : n ≤ c.size := by
       have h13 : bt[n - 1]? = some bt[n - 1] := List.getElem?_eq_getElem (by omega)
       have := (Array.getElem?_eq_some_iff.1 (hb2 (n - 1) _ h13)).1
       omega
      obtain ⟨ti, hti, hts⟩ := tySz_info hz
      have hco : P.cellsOf e = 1 := by unfold Program.cellsOf; rw [hti]; show ti.size = 1; omega
      have hrun := Lib.run_unsafeString_row (P := P) w t t2 ty e hu hco r.b c.size (by unfold World.shape?; rw [hc1, hte]) (bt.map UInt8.ofNat) (by intro h; have h19 := congrArg List.length h; rw [List.length_map, List.length_nil] at h19; omega) (by simp; omega) (by simp; omega) (fun j x hj => by
       rw [List.getElem?_map] at hj
       cases hq : bt[j]? with
       |none => rw [hq] at hj; cases hj
       |some q =>
        rw [hq] at hj
        cases hj
        have hq2 := hb1 q (List.mem_of_getElem? hq)
        rw [add_none, cell_of_block hc1]
        have := hb2 j q hq
        rw [Nat.zero_add] at this
        rw [this]
        simp only [UInt8.toNat_ofNat']
        rw [Nat.mod_eq_of_lt hq2])
      rw [List.length_map, ← hltl] at hrun
      refine ⟨ρ, .string (bsA bt), _, hrun, mkS_vr hbt, ?_, EExt.refl _ _ _⟩
      have hlt := heap_lt hc1
      have hfw : ∃ f', (w.freeze ⟨r.b, 0, none⟩ n).heap[r.b]? = some (.cells c mx.1 f') ∧ (∀ k, max mx.2.2 n ≤ k → k < c.size → ¬ (f'.1 ≤ k ∧ k < f'.2)) ∧ f'.1 = 0 := by
       obtain ⟨lo, hi⟩ := f
       refine ⟨if lo == hi then (0, 0 + n) else (min lo 0, max hi (0 + n)), ?_, ?_, ?_⟩
       ·unfold World.freeze
        rw [if_neg h0]
        simp only [Array.getElem?_modify, hc1]
        simp
       ·intro k hk hk2
        have h14 := hr1.2.1 k (fun _ => by omega) hk2
        have h15 := hr1.2.2 hfz
        simp only at h14 h15
        split
        ·simp only; omega
        ·rename_i hne
         simp only at hne ⊢
         have : lo ≠ hi := by simpa using hne
         omega
       ·split
        ·rfl
        ·simp
      obtain ⟨f', h16, h17, h18⟩ := hfw
      have hturn : Turn r.b (.cells c mx.1 f') w (w.freeze ⟨r.b, 0, none⟩ n) := by
       refine ⟨⟨?_, ?_, ?_, ?_, fun k hk hk2 => ?_⟩, ?_, h16⟩
       all_goals (unfold World.freeze; rw [if_neg h0]; try rfl)
       ·simp
       ·simp only [List.mem_singleton] at hk2
        rw [Array.getElem?_modify]
        simp [Ne.symm hk2]
       ·simp
      refine hw.set hbk hr hturn ⟨c, f', z2, rfl, hz2, hd0, ⟨by rw [hd0]; exact hr1.1, fun k hk hk2 => h17 k (by have h19 : Nat.max mx.2.2 n = max mx.2.2 n := rfl; have h20 := hk (by rw [h19]; have h21 := (omap_some h7).1; rw [List.length_take] at h21; omega); rw [hd0] at h20; omega) hk2, fun _ => Or.inr h18⟩, by rw [hd0] at hl1 ⊢; exact hl1⟩
    ·exact ev_fail
   |_ => exact ev_fail
  ·exact ev_fail
 ·exact ev_fail
end
section
set_option linter.unusedSectionVars false
open Go.RowKit
variable [Val]
def NX (P : Program) (K : Value → World → Prop) : Result Next → Prop
 |.ok (.value v) w => K v w
 |.ok .skip w => K undef w
 |.ok (.enter f args) w => ∀ n, CallsIn Fence.wide n P f args w fun e w' => ∃ v, e = .returned v ∧ K v w'
 |.ok (.round l f ts asg bo) w => ∀ n, RoundIn Fence.wide n P l f ts asg bo w fun e w' => ∃ v, e = .returned v ∧ K v w'
 |_ => False
def KOK (P : Program) (w0 : World) (ρ : ERho) (v : AV) (s s' : ESt) (x : Value) (w : World) : Prop := ∃ σ, VR σ v x ∧ ERel P w0 σ s'.hp w ∧ EExt ρ σ s.nx s'.nx
def EVN (P : Program) (w0 : World) (ρ : ERho) (m : EM AV) (S : Sem Next) : Prop := ∀ s v s', m s = .ok v s' → ∀ w, ERel P w0 ρ s.hp w → (∀ j, s.nx ≤ j → j < s'.nx → ρ j = none) → NX P (KOK P w0 ρ v s s') (S.run P w)
variable {P : Program} {w0 : World} {ρ : ERho}
theorem NX.mono {K K' : Value → World → Prop} (h : ∀ v w, K v w → K' v w) : ∀ {r : Result Next}, NX P K r → NX P K' r
 |.ok (.value v) w, hh => h _ _ hh
 |.ok .skip w, hh => h _ _ hh
 |.ok (.enter f args) w, hh => fun n => ⟨trivial, fun cs hr => by
  obtain ⟨e, w', fr, ⟨v, he, hk⟩, h2⟩ := (hh n).2 cs hr
  exact ⟨e, w', fr, ⟨v, he, h _ _ hk⟩, h2⟩⟩
 |.ok (.round l f ts asg bo) w, hh => fun n => (hh n).mono fun e w' ⟨v, he, hk⟩ => ⟨v, he, h _ _ hk⟩
theorem evn_v {m : EM AV} {S : Sem Value} (h : EV P w0 ρ m S) : EVN P w0 ρ m (do pure (.value (← S))) := fun s v s' hm w hw hf => by
 obtain ⟨σ, x, w', h1, h2, h3, h4⟩ := h s v s' hm w hw hf
 rw [Sem.run_bind, h1]
 exact ⟨σ, h2, h3, h4⟩
theorem evn_u {m : EM AV} {S : Sem Unit} (h : EVU P w0 ρ m S) : EVN P w0 ρ m (do S; pure .skip) := fun s v s' hm w hw hf => by
 obtain ⟨σ, w', h1, rfl, h3, h4⟩ := h s v s' hm w hw hf
 rw [Sem.run_bind, h1]
 exact ⟨σ, .un, h3, h4⟩
theorem evn_pure {v : AV} {x : Value} (h : VR ρ v x) : EVN P w0 ρ (epure v) (pure (.value x)) := fun s u s' hm w hw _ => by
 obtain ⟨rfl, rfl⟩ := epure_ok hm
 exact ⟨ρ, h, hw, EExt.refl _ _ _⟩
theorem evn_fail {e : List Nat} {S : Sem Next} : EVN P w0 ρ (efail e) S := fun _ _ _ h => (efail_ok h).elim
theorem evn_case {e : List Nat} {b : Bool} {m : EM AV} {S : Sem Next} (h : b = true → EVN P w0 ρ m S) : EVN P w0 ρ (ecase e b m) S := fun s v s' hm w hw hf =>
 let ⟨hb, hm'⟩ := ecase_ok hm
 h hb s v s' hm' w hw hf
structure RSound (P : Program) (w0 : World) (R : ERec) : Prop where
 fn : ∀ ρ f l xs, VRs ρ l xs → EVN P w0 ρ (R.fn f l) (callFunc f xs.toArray)
 rn : ∀ ρ i r l xs, ρ i = some r → VRs ρ l xs → EVN P w0 ρ (R.rn i l) (Instr.yield r.b xs.toArray)
 df : ∀ ρ f l xs, VRs ρ l xs → ∀ s v s', R.df f l s = .ok v s' → ∀ w, ERel P w0 ρ s.hp w → (∀ j, s.nx ≤ j → j < s'.nx → ρ j = none) →
  (callFunc f xs.toArray).run P w = .ok (.enter f xs.toArray) w ∧ ∀ n, CallsDIn Fence.wide n P f xs.toArray .returning w fun e u w' => u = .returning ∧ ∃ x, e = .returned x ∧ KOK P w0 ρ v s s' x w'
theorem args_vrs {tm : ET AV} {a : Act} (h : TR ρ tm a.tmps) (xs : Array Operand) : VRs ρ (lmap (evO tm) xs.toList) (xs.map a.eval).toList := by
 rw [lmap_eq, Array.toList_map]
 exact VRs.map fun x _ => evO_vr h x
theorem parts_vr {tm : ET AV} {a : Act} (h : TR ρ tm a.tmps) (ps : Array (Nat × Operand)) : PartsR ρ (lmap (fun p => (p.1, evO tm p.2)) ps.toList) (ps.map fun (i, x) => (i, a.eval x)).toList := by
 refine ⟨by rw [lmap_eq]; simp, fun i p q hp hq => ?_⟩
 rw [lmap_eq, List.getElem?_map] at hp
 rw [Array.toList_map, List.getElem?_map] at hq
 cases he : ps.toList[i]? with
 |none => rw [he] at hp; cases hp
 |some y =>
  rw [he] at hp hq
  cases hp
  cases hq
  exact ⟨rfl, evO_vr h y.2⟩
theorem or_map {tm : ET AV} {a : Act} (h : TR ρ tm a.tmps) (x : Option Operand) : OR ρ (x.map (evO tm)) (x.map a.eval) := by
 cases x with
 |none => trivial
 |some x => exact evO_vr h x
theorem call_next {R : ERec} (hR : RSound P w0 R) {tm : ET AV} {a : Act} (h : TR ρ tm a.tmps) (c : Call) (ty : TypeId) : EVN P w0 ρ (ecall P R tm c ty) (do let d ← resolve a.eval c ty; invoke d.target d.args) := by
 have hargs := args_vrs h c.args
 unfold ecall resolve
 cases hc : c.callee with
 |value f =>
  simp only
  have hf := evO_vr h f
  obtain ⟨fv, hfv⟩ : ∃ fv, evO tm f = fv := ⟨_, rfl⟩
  obtain ⟨fx, hfx⟩ : ∃ fx, a.eval f = fx := ⟨_, rfl⟩
  rw [hfv, hfx] at hf
  rw [hfv, hfx]
  cases hf with
  |fn k x y xs ys hx hy =>
   have := hR.fn ρ k (lapp x (lapp (lmap (evO tm) c.args.toList) y)) (xs ++ ((c.args.map a.eval).toList ++ ys)) (by rw [lapp_eq, lapp_eq]; exact hx.append (hargs.append hy))
   intro s v s' hm w hw hf
   have h2 := this s v s' hm w hw hf
   rw [Sem.run_bind]
   simp only [Deferred.ofValue, Sem.run_pure, Result.andThen_ok, invoke]
   rw [show (xs.toArray ++ c.args.map a.eval ++ ys.toArray) = (xs ++ ((c.args.map a.eval).toList ++ ys)).toArray from by apply Array.ext'; simp]
   exact h2
  |yl i r hr =>
   have := hR.rn ρ i r (lmap (evO tm) c.args.toList) (c.args.map a.eval).toList hr hargs
   intro s v s' hm w hw hf
   have h2 := this s v s' hm w hw hf
   rw [Sem.run_bind]
   simp only [Deferred.ofValue, Sem.run_pure, Result.andThen_ok, invoke]
   rw [show (#[] ++ c.args.map a.eval) = (c.args.map a.eval).toList.toArray from by apply Array.ext'; simp]
   exact h2
  |_ => exact evn_fail
 |invoke _ _ => exact evn_fail
 |builtin b =>
  simp only
  obtain ⟨xs, hxs⟩ : ∃ xs, c.args.map a.eval = xs := ⟨_, rfl⟩
  obtain ⟨ts, hts⟩ : ∃ ts, c.argTypes = ts := ⟨_, rfl⟩
  rw [hxs] at hargs
  obtain ⟨l, hl⟩ : ∃ l, lmap (evO tm) c.args.toList = l := ⟨_, rfl⟩
  rw [hl] at hargs
  rw [hl, hts, hxs]
  have hx0 : xs = xs.toList.toArray := by simp
  have ht0 : ts = ts.toList.toArray := by simp
  have lift : ∀ {m : EM AV} {S : Sem Value} {cs : Array Bool}, builtin b ts ty cs xs = (do pure (.value (← S))) → EV P w0 ρ m S → EVN P w0 ρ m (do let d ← (pure { target := Target.builtin b ts ty cs, args := xs } : Sem Deferred); invoke d.target d.args) := fun {m S cs} hb he s v s' hm w hw hf => by
   have := evn_v he s v s' hm w hw hf
   rw [Sem.run_bind]
   simp only [Sem.run_pure, Result.andThen_ok, invoke]
   rw [hb]
   exact this
  split
  ·rename_i s x t t2 ht2
   obtain ⟨xl, hxl⟩ : ∃ xl, xs.toList = xl := ⟨_, rfl⟩
   rw [hxl] at hargs
   cases hargs with
   |cons _ y _ _ h1 h2 => cases h2 with
    |cons _ z _ _ h3 h4 =>
     cases h4
     have e1 : xs = #[y, z] := by rw [hx0, hxl]
     have e2 : ts = #[t, t2] := by rw [ht0, ht2]
     exact lift rfl (by rw [e1, e2]; exact ev_append h1 h3)
  ·rename_i d x t tr ht2
   obtain ⟨xl, hxl⟩ : ∃ xl, xs.toList = xl := ⟨_, rfl⟩
   rw [hxl] at hargs
   cases hargs with
   |cons _ y _ _ h1 h2 => cases h2 with
    |cons _ z _ _ h3 h4 =>
     cases h4
     have e1 : xs = #[y, z] := by rw [hx0, hxl]
     have e2 : ts = (t :: tr).toArray := by rw [ht0, ht2]
     exact lift rfl (by rw [e1, e2]; exact ev_copy h1 h3)
  ·rename_i x t tr ht2
   obtain ⟨xl, hxl⟩ : ∃ xl, xs.toList = xl := ⟨_, rfl⟩
   rw [hxl] at hargs
   cases hargs with
   |cons _ y _ _ h1 h2 =>
    cases h2
    have e1 : xs = #[y] := by rw [hx0, hxl]
    have e2 : ts = (t :: tr).toArray := by rw [ht0, ht2]
    exact lift rfl (by rw [e1, e2]; exact ev_len h1)
  ·rename_i x t tr ht2
   obtain ⟨xl, hxl⟩ : ∃ xl, xs.toList = xl := ⟨_, rfl⟩
   rw [hxl] at hargs
   cases hargs with
   |cons _ y _ _ h1 h2 =>
    cases h2
    have e1 : xs = #[y] := by rw [hx0, hxl]
    have e2 : ts = (t :: tr).toArray := by rw [ht0, ht2]
    exact lift rfl (by rw [e1, e2]; exact ev_cap h1)
  ·exact lift (cs := _) rfl (by rw [hx0]; exact ev_min hargs)
  ·exact lift (cs := _) rfl (by rw [hx0]; exact ev_max hargs)
  ·rename_i m k t tr ht2
   obtain ⟨xl, hxl⟩ : ∃ xl, xs.toList = xl := ⟨_, rfl⟩
   rw [hxl] at hargs
   cases hargs with
   |cons _ y _ _ h1 h2 => cases h2 with
    |cons _ z _ _ h3 h4 =>
     cases h4
     have e1 : xs = #[y, z] := by rw [hx0, hxl]
     have e2 : ts = (t :: tr).toArray := by rw [ht0, ht2]
     exact lift rfl (by rw [e1, e2]; exact ev_delete h1 h3)
  ·rename_i x
   obtain ⟨xl, hxl⟩ : ∃ xl, xs.toList = xl := ⟨_, rfl⟩
   rw [hxl] at hargs
   cases hargs with
   |cons _ y _ _ h1 h2 =>
    cases h2
    have e1 : xs = #[y] := by rw [hx0, hxl]
    exact lift (S := Builtin.unsafeSliceData_ ts ty #[y]) (by rw [e1]; rfl) (by
     have h := ev_sliceData (P := P) (w0 := w0) (ts := ts) (ty := ty) h1
     cases x <;> exact h)
  ·rename_i p n t t2 ht2
   obtain ⟨xl, hxl⟩ : ∃ xl, xs.toList = xl := ⟨_, rfl⟩
   rw [hxl] at hargs
   cases hargs with
   |cons _ y _ _ h1 h2 => cases h2 with
    |cons _ z _ _ h3 h4 =>
     cases h4
     have e1 : xs = #[y, z] := by rw [hx0, hxl]
     have e2 : ts = #[t, t2] := by rw [ht0, ht2]
     exact lift rfl (by rw [e1, e2]; exact ev_unsafeString h1 h3)
  ·exact evn_fail
end
section
set_option linter.unusedSectionVars false
open Go.RowKit
variable [Val]
variable {P : Program} {w0 : World} {ρ : ERho}
theorem vrs_arr {tm : ET AV} {a : Act} (h : TR ρ tm a.tmps) (xs : Array Operand) : ∃ ys : List Value, xs.map a.eval = ys.toArray ∧ VRs ρ (lmap (evO tm) xs.toList) ys :=
 ⟨(xs.map a.eval).toList, by apply Array.ext'; simp, args_vrs h xs⟩
theorem ev_makeInterface {t : TypeId} {a : AV} {x : Value} (ha : VR ρ a x) : EV P w0 ρ (match P.underlying t with
  |some (.interface _) => efail [82]
  |some _ => epure (.ic t a)
  |none => efail [82]) (Instr.makeInterface t x) := by
 cases hu : P.underlying t with
 |none => exact ev_fail
 |some d => cases d <;> first | exact ev_fail | (exact ev_pure fun w => ⟨.iface t x, by simp [Instr.makeInterface, run_un hu], .ic _ _ _ ha⟩)
theorem ev_makeMap {t : TypeId} : EV P w0 ρ (ebind (enew (.ma [] 0)) fun i => epure (.mp i)) (Instr.makeMap t none) := by
 intro s u s' hm w hw hf
 obtain ⟨i, s1, h1, h2⟩ := ebind_ok hm
 obtain ⟨rfl, rfl⟩ := epure_ok h2
 have hi := enew_ok h1
 have hn : ρ s.nx = none := hf _ (Nat.le_refl _) (by rw [hi.2]; exact Nat.lt_succ_self _)
 obtain ⟨rfl, h3, h4, h5⟩ := new_obj h1 hw hn (o := .map #[] 0) fun _ _ => ⟨#[], rfl, .nil⟩
 exact ⟨_, .map (some w.heap.size), _, by simp [Instr.makeMap], .mp _ _ (eup_same _ _ _), h4, h5⟩
theorem ev_fieldM {s : TypeId} {f : Nat} {a : AV} {x : Value} : VR ρ a x → EV P w0 ρ (ebind (efield P s f) fun y => match a with
  |.ag cs => vpart P y.type cs y.offset
  |_ => efail [85]) (Instr.field s x f) := fun ha => by
 have h := ev_field (P := P) (w0 := w0) (s := s) (f := f) ha
 cases a <;> exact h
theorem ev_extractM {a : AV} {i : Nat} {x : Value} : VR ρ a x → EV P w0 ρ (match a with
  |.tu l => eopt [86] (lnth l i)
  |_ => efail [86]) (Instr.extract x i) := fun ha => by
 have h := ev_extract (P := P) (w0 := w0) (i := i) ha
 cases a <;> exact h
theorem mx_hi {mx hi : Option Operand} {tm : ET AV} (h : ior (Option.rec true (fun _ => false) mx) (Option.rec false (fun _ => true) hi) = true) : mx.map (evO tm) ≠ none → hi.map (evO tm) ≠ none := by
 cases mx with
 |none => intro h; exact absurd rfl h
 |some m => cases hi with
  |none => cases h
  |some x => intro _; simp
theorem op_next {R : ERec} (hR : RSound P w0 R) {G : Globs} (hG : GlobR w0 G) {tm : ET AV} {a : Act} (h : TR ρ tm a.tmps) (o : Oper) : EVN P w0 ρ (evOp P G R tm o) (execOp a.eval o) := by
 have e : ∀ x, VR ρ (evO tm x) (a.eval x) := evO_vr h
 unfold evOp execOp
 cases ho : o.op with
 |move x => exact evn_pure (e x)
 |assign x => exact evn_pure (e x)
 |pick c x y =>
  simp only
  have hc := e c
  obtain ⟨cv, hcv⟩ : ∃ cv, evO tm c = cv := ⟨_, rfl⟩
  obtain ⟨cx, hcx⟩ : ∃ cx, a.eval c = cx := ⟨_, rfl⟩
  rw [hcv, hcx] at hc
  rw [hcv, hcx]
  cases hc with
  |bo b =>
   cases b
   ·exact evn_pure (e y)
   ·exact evn_pure (e x)
  |_ => exact evn_fail
 |alloc t => exact evn_v ev_alloc
 |box t x => exact evn_v (ev_box (e x))
 |build t ps => exact evn_v (ev_build (parts_vr h ps))
 |buildSlice t n ps => exact evn_v (ev_buildSlice (parts_vr h ps))
 |load t x => exact evn_v (ev_load hG (e x))
 |store t x y => exact evn_u (ev_store (e x) (e y))
 |nilCheck x =>
  simp only
  have hc := e x
  obtain ⟨cv, hcv⟩ : ∃ cv, evO tm x = cv := ⟨_, rfl⟩
  obtain ⟨cx, hcx⟩ : ∃ cx, a.eval x = cx := ⟨_, rfl⟩
  rw [hcv, hcx] at hc
  rw [hcv, hcx]
  cases hc <;> first
   |exact evn_pure (.pt _ _ _ (by assumption))
   |exact evn_pure (.gp _ _)
   |exact evn_pure (.fn _ _ _ _ _ (by assumption) (by assumption))
   |exact evn_pure (.yl _ _ (by assumption))
   |exact evn_pure (.ic _ _ _ (by assumption))
   |exact evn_fail
 |binOp op t x y i => exact evn_v (ev_bin (e x) (e y))
 |unOp op t x => exact evn_v (ev_un (e x))
 |convert s d x => exact evn_v (ev_conv (e x))
 |makeInterface t x => exact evn_v (ev_makeInterface (e x))
 |makeFunc f x y =>
  cases f with
  |func k =>
   obtain ⟨xs, h1, h2⟩ := vrs_arr h x
   obtain ⟨ys, h3, h4⟩ := vrs_arr h y
   simp only
   rw [h1, h3]
   exact evn_v (ev_pure fun w => ⟨_, rfl, .fn k _ _ _ _ h2 h4⟩)
  |_ => exact evn_fail
 |makeMap t r =>
  cases r with
  |none => exact evn_v ev_makeMap
  |some r => exact evn_fail
 |makeSlice t n c => exact evn_v (ev_makeSlice (e n) (e c))
 |slice t x lo hi mx => exact evn_case fun hc => evn_v (ev_slice (e x) (or_map h lo) (or_map h hi) (or_map h mx) (mx_hi hc))
 |fieldAddr s x f => exact evn_v (ev_fieldAddr (e x))
 |field s x f =>
  simp only
  exact evn_v (ev_fieldM (e x))
 |indexAddr t x i => exact evn_v (ev_indexAddr (e x) (e i))
 |index t x i => exact evn_v (ev_index (e x) (e i))
 |lookup t x i ok => exact evn_v (ev_lookup (e x) (e i))
 |mapUpdate t m k x => exact evn_u (ev_mapUpdate (e m) (e k) (e x))
 |insert t m k x => exact evn_u (ev_mapUpdate (e m) (e k) (e x))
 |mapEntry t m k => exact evn_v (ev_mapEntry (e m) (e k))
 |entryStore t m s x => exact evn_u (ev_entryStore (e m) (e s) (e x))
 |range t x => exact evn_v (ev_range (e x))
 |next it s => exact evn_v (ev_next (e it))
 |typeAssert x t y ok => exact evn_v (ev_assert (e x))
 |extract t i =>
  simp only
  exact evn_v (ev_extractM (e t))
 |call c => exact call_next hR h c o.type
 |_ => exact evn_fail
end
section
open Go.RowKit
def Bit (m k : Nat) : Prop := m.testBit k = true
def Same (m : Nat) (a b : ET Blk) : Prop := ∀ k, Bit m k → a.get (k + 1) = b.get (k + 1)
structure Loc1 {α : Type} (m : EM α) (s : ESt) (v : α) (s' : ESt) : Prop where
 nx : s.nx ≤ s'.nx
 rd : ∀ k, Bit s.rd k → Bit s'.rd k
 wr : ∀ k, Bit s.wr k → Bit s'.wr k
 off : ∀ k, ¬ Bit s'.wr k → s'.hp.get (k + 1) = s.hp.get (k + 1)
 run : ∀ hp : ET Blk, Same s'.rd hp s.hp → Same s'.wr hp s.hp → ∃ hp', m ⟨hp, s.nx, s.rd, s.wr⟩ = .ok v ⟨hp', s'.nx, s'.rd, s'.wr⟩ ∧ Same s'.wr hp' s'.hp ∧ ∀ k, ¬ Bit s'.wr k → hp'.get (k + 1) = hp.get (k + 1)
def Loc {α : Type} (m : EM α) : Prop := ∀ s v s', m s = .ok v s' → Loc1 m s v s'
theorem bit_or {a b k : Nat} : Bit (a ||| b) k ↔ Bit a k ∨ Bit b k := by
 unfold Bit
 rw [Nat.testBit_or, Bool.or_eq_true]
theorem bit_one {i k : Nat} : Bit (1 <<< i) k ↔ k = i := by
 unfold Bit
 rw [Nat.one_shiftLeft, Nat.testBit_two_pow]
 simp [eq_comm]
section
variable {α β : Type}
theorem loc_calm {m : EM α} (h : ∀ s v s', m s = .ok v s' → s' = s ∧ ∀ t, m t = .ok v t) : Loc m := fun s v s' hm => by
 obtain ⟨rfl, ht⟩ := h s v s' hm
 exact ⟨Nat.le_refl _, fun _ h => h, fun _ h => h, fun _ _ => rfl, fun hp _ h2 => ⟨hp, ht _, h2, fun _ _ => rfl⟩⟩
theorem loc_pure (a : α) : Loc (epure a) := loc_calm fun s v s' h => by
 obtain ⟨rfl, rfl⟩ := epure_ok h
 exact ⟨rfl, fun _ => rfl⟩
theorem loc_fail (e : List Nat) : Loc (efail e : EM α) := fun _ _ _ h => (efail_ok h).elim
theorem loc_opt (e : List Nat) (x : Option α) : Loc (eopt e x) := by
 cases x with
 |none => exact loc_fail _
 |some a => exact loc_pure _
theorem loc_bind {m : EM α} {f : α → EM β} (hm : Loc m) (hf : ∀ a, Loc (f a)) : Loc (ebind m f) := fun s v s' h => by
 obtain ⟨a, s1, h1, h2⟩ := ebind_ok h
 have l1 := hm _ _ _ h1
 have l2 := hf a _ _ _ h2
 refine ⟨Nat.le_trans l1.nx l2.nx, fun k hk => l2.rd k (l1.rd k hk), fun k hk => l2.wr k (l1.wr k hk), fun k hk => (l2.off k hk).trans (l1.off k fun h => hk (l2.wr k h)), fun hp hr hw => ?_⟩
 obtain ⟨hp1, r1, w1, o1⟩ := l1.run hp (fun k hk => hr k (l2.rd k hk)) (fun k hk => hw k (l2.wr k hk))
 have same : ∀ k, hp.get (k + 1) = s.hp.get (k + 1) → hp1.get (k + 1) = s1.hp.get (k + 1) := fun k hk => by
  by_cases hb : Bit s1.wr k
  ·exact w1 k hb
  ·rw [o1 k hb, l1.off k hb, hk]
 obtain ⟨hp2, r2, w2, o2⟩ := l2.run hp1 (fun k hk => same k (hr k hk)) (fun k hk => same k (hw k hk))
 refine ⟨hp2, ?_, w2, fun k hk => (o2 k hk).trans (o1 k fun h => hk (l2.wr k h))⟩
 unfold ebind
 rw [r1]
 exact r2
theorem loc_case {e : List Nat} {b : Bool} {m : EM α} (h : Loc m) : Loc (ecase e b m) := by
 cases b
 ·exact loc_fail _
 ·exact h
theorem loc_bool {b : Bool} {m n : EM α} (hm : Loc m) (hn : Loc n) : Loc (Bool.rec m n b : EM α) := by
 cases b
 ·exact hm
 ·exact hn
theorem loc_get (i : Nat) : Loc (eget i) := fun s v s' h => by
 obtain ⟨h1, rfl⟩ := eget_ok h
 refine ⟨Nat.le_refl _, fun k hk => bit_or.2 (Or.inl hk), fun _ h => h, fun _ _ => rfl, fun hp hr hw => ⟨hp, ?_, hw, fun _ _ => rfl⟩⟩
 have := hr i (bit_or.2 (Or.inr (bit_one.2 rfl)))
 rw [h1] at this
 unfold eget
 simp only
 rw [show Nat.succ i = i + 1 from rfl, this]
 rfl
theorem loc_set (i : Nat) (b : Blk) : Loc (eset i b) := fun s v s' h => by
 have h1 := eset_ok h
 subst h1
 have hg : ∀ (hp : ET Blk) (k : Nat), (hp.set (i + 1) b).get (k + 1) = if k = i then some b else hp.get (k + 1) := fun hp k => by
  rw [ET.set_get _ _ _ _ (by omega) (by omega)]
  by_cases e : k = i
  ·rw [if_pos e, if_pos (by rw [e])]
  ·rw [if_neg e, if_neg (by omega)]
 refine ⟨Nat.le_refl _, fun _ h => h, fun k hk => bit_or.2 (Or.inl hk), fun k hk => ?_, fun hp hr hw => ⟨hp.set (i + 1) b, rfl, fun k hk => ?_, fun k hk => ?_⟩⟩
 ·rw [hg, if_neg fun e => hk (bit_or.2 (Or.inr (bit_one.2 e)))]
 ·rw [hg, hg, hw k hk]
 ·rw [hg, if_neg fun e => hk (bit_or.2 (Or.inr (bit_one.2 e)))]
theorem loc_del (i : Nat) : Loc (edel i) := fun s v s' h => by
 have h1 := edel_ok h
 subst h1
 have hg : ∀ (hp : ET Blk) (k : Nat), (hp.del (i + 1)).get (k + 1) = if k = i then none else hp.get (k + 1) := fun hp k => by
  rw [ET.del_get _ _ _ (by omega) (by omega)]
  by_cases e : k = i
  ·rw [if_pos e, if_pos (by rw [e])]
  ·rw [if_neg e, if_neg (by omega)]
 refine ⟨Nat.le_refl _, fun _ h => h, fun k hk => bit_or.2 (Or.inl hk), fun k hk => ?_, fun hp hr hw => ⟨hp.del (i + 1), rfl, fun k hk => ?_, fun k hk => ?_⟩⟩
 ·rw [hg, if_neg fun e => hk (bit_or.2 (Or.inr (bit_one.2 e)))]
 ·rw [hg, hg, hw k hk]
 ·rw [hg, if_neg fun e => hk (bit_or.2 (Or.inr (bit_one.2 e)))]
theorem loc_new (b : Blk) : Loc (enew b) := fun s v s' h => by
 obtain ⟨rfl, rfl⟩ := enew_ok h
 have hg : ∀ (hp : ET Blk) (k : Nat), (hp.set (s.nx + 1) b).get (k + 1) = if k = s.nx then some b else hp.get (k + 1) := fun hp k => by
  rw [ET.set_get _ _ _ _ (by omega) (by omega)]
  by_cases e : k = s.nx
  ·rw [if_pos e, if_pos (by rw [e])]
  ·rw [if_neg e, if_neg (by omega)]
 refine ⟨Nat.le_succ _, fun _ h => h, fun k hk => bit_or.2 (Or.inl hk), fun k hk => ?_, fun hp hr hw => ⟨hp.set (s.nx + 1) b, rfl, fun k hk => ?_, fun k hk => ?_⟩⟩
 ·rw [hg, if_neg fun e => hk (bit_or.2 (Or.inr (bit_one.2 e)))]
 ·rw [hg, hg, hw k hk]
 ·rw [hg, if_neg fun e => hk (bit_or.2 (Or.inr (bit_one.2 e)))]
theorem loc_code {m : EM α} (f : Nat) (h : Loc m) : Loc (fun s => ERes.rec (fun e => .no (f :: e)) (fun a s => .ok a s) (m s) : EM α) := fun s v s' hm => by
 have hs : m s = .ok v s' := by
  cases e : m s with
  |no x => simp only [e] at hm; cases hm
  |ok a t => simp only [e] at hm; exact hm
 have l := h _ _ _ hs
 refine ⟨l.nx, l.rd, l.wr, l.off, fun hp hr hw => ?_⟩
 obtain ⟨hp', r1, r2⟩ := l.run hp hr hw
 refine ⟨hp', ?_, r2⟩
 simp only [r1]
theorem loc_own {m : EM α} {f : α → ESt → EM β} (hm : Loc m) (hf : ∀ a s, Loc (f a s)) (he : ∀ a s t, s.nx = t.nx → s.rd = t.rd → s.wr = t.wr → f a s = f a t) :
  Loc (fun s => ERes.rec (fun e => .no e) (fun a s' => f a s' ⟨s'.hp, s'.nx, Nat.lor s.rd s'.rd, Nat.lor s.wr s'.wr⟩) (m ⟨s.hp, s.nx, 0, 0⟩) : EM β) := fun s v s' h => by
 cases e : m ⟨s.hp, s.nx, 0, 0⟩ with
 |no x => simp only [e] at h; cases h
 |ok a s1 =>
  simp only [e] at h
  have l1 := hm _ _ _ e
  have l2 := hf a s1 _ _ _ h
  have hr2 : ∀ k, Bit s.rd k ∨ Bit s1.rd k → Bit s'.rd k := fun k hk => l2.rd k (bit_or.2 hk)
  have hw2 : ∀ k, Bit s.wr k ∨ Bit s1.wr k → Bit s'.wr k := fun k hk => l2.wr k (bit_or.2 hk)
  refine ⟨Nat.le_trans l1.nx l2.nx, fun k hk => hr2 k (Or.inl hk), fun k hk => hw2 k (Or.inl hk), fun k hk => (l2.off k hk).trans (l1.off k fun h => hk (hw2 k (Or.inr h))), fun hp hr hw => ?_⟩
  obtain ⟨hp1, r1, w1, o1⟩ := l1.run hp (fun k hk => hr k (hr2 k (Or.inr hk))) (fun k hk => hw k (hw2 k (Or.inr hk)))
  have same : ∀ k, hp.get (k + 1) = s.hp.get (k + 1) → hp1.get (k + 1) = s1.hp.get (k + 1) := fun k hk => by
   by_cases hb : Bit s1.wr k
   ·exact w1 k hb
   ·rw [o1 k hb, l1.off k hb, hk]
  obtain ⟨hp2, r2, w2, o2⟩ := l2.run hp1 (fun k hk => same k (hr k hk)) (fun k hk => same k (hw k hk))
  refine ⟨hp2, ?_, w2, fun k hk => (o2 k hk).trans (o1 k fun h => hk (hw2 k (Or.inr h)))⟩
  simp only [r1]
  rw [he a ⟨hp1, s1.nx, s1.rd, s1.wr⟩ s1 rfl rfl rfl]
  exact r2
end
end
end Go.Proofs.YtigajcabgaddgaaGreatDoor
