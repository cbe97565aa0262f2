/-
 The evaluator's operations are the model's: slices, conversions, comparisons. The evaluator's operations are the model's: comparisons, conversions, appends. The evaluator's operations are the model's: appends, copies, lengths.
-/
import Derived.Test.YtigajcabgaddgaaGreatDoorWEvPs
set_option maxRecDepth 100000
set_option maxHeartbeats 8000000
namespace Go.Proofs.YtigajcabgaddgaaGreatDoor
section
set_option linter.unusedSectionVars false
open Go.RowKit
variable [Val]
variable {P : Program} {w0 : World} {ρ : ERho}
def OR (ρ : ERho) (v : Option AV) (x : Option Value) : Prop := match v, x with
 |none, none => True
 |some a, some y => VR ρ a y
 |_, _ => False
theorem or_bnd {v : Option AV} {d k : Nat} {s s' : ESt} (h : ebnd v d s = .ok k s') {x : Option Value} (hv : OR ρ v x) : s' = s ∧ ((v = none ∧ x = none ∧ k = d) ∨ ∃ j a, v = some a ∧ x = some (.int j (k : Int))) := by
 cases v with
 |none =>
  obtain ⟨rfl, rfl⟩ := epure_ok h
  cases x with
  |none => exact ⟨rfl, Or.inl ⟨rfl, rfl, rfl⟩⟩
  |some _ => exact hv.elim
 |some a =>
  cases x with
  |none => exact hv.elim
  |some y =>
   obtain ⟨rfl, j, rfl⟩ := eidx_ok h hv
   exact ⟨rfl, Or.inr ⟨j, a, rfl, rfl⟩⟩
theorem bounds_run {isS : Bool} {len cap c : Nat} {lo hi mx : Option AV} {l h m : Nat} {s s1 s2 s3 : ESt} {xl xh xm : Option Value} (hm : ebnd mx c s = .ok m s1) (hh : ebnd hi len s1 = .ok h s2) (hl : ebnd lo 0 s2 = .ok l s3)
  (vm : OR ρ mx xm) (vh : OR ρ hi xh) (vl : OR ρ lo xl) (h1 : l ≤ h) (h2 : h ≤ m) (h3 : m ≤ c) (hc : c ≤ cap) (hmh : mx ≠ none → hi ≠ none) (w : World) :
  ∃ m', (Instr.sliceBounds isS len cap xl xh xm).run P w = .ok (l, h, m') w ∧ ((mx = none ∧ m = c ∧ m' = cap) ∨ m' = m) := by
 obtain ⟨rfl, (⟨rfl, rfl, rfl⟩ | ⟨jm, am, rfl, rfl⟩)⟩ := or_bnd hm vm
 ·refine ⟨cap, ?_, Or.inl ⟨rfl, rfl, rfl⟩⟩
  obtain ⟨rfl, (⟨rfl, rfl, rfl⟩ | ⟨jh, ah, rfl, rfl⟩)⟩ := or_bnd hh vh
  ·obtain ⟨rfl, (⟨rfl, rfl, rfl⟩ | ⟨jl, al, rfl, rfl⟩)⟩ := or_bnd hl vl
   ·simp [Instr.sliceBounds]
   ·simp only [Instr.sliceBounds, Sem.run_bind, Sem.run_pure, Result.andThen_ok, run_sliceBound (P := P) w jl _ _ _ (show (0 : Int) ≤ (l : Int) by omega) (show (l : Int) ≤ (h : Int) by omega), Int.toNat_natCast]
  ·obtain ⟨rfl, (⟨rfl, rfl, rfl⟩ | ⟨jl, al, rfl, rfl⟩)⟩ := or_bnd hl vl
   ·simp only [Instr.sliceBounds, Sem.run_bind, Sem.run_pure, Result.andThen_ok, run_sliceBound (P := P) w jh _ _ _ (show (0 : Int) ≤ (h : Int) by omega) (show (h : Int) ≤ (cap : Int) by omega), Int.toNat_natCast]
   ·simp only [Instr.sliceBounds, Sem.run_bind, Sem.run_pure, Result.andThen_ok, run_sliceBound (P := P) w jh _ _ _ (show (0 : Int) ≤ (h : Int) by omega) (show (h : Int) ≤ (cap : Int) by omega), run_sliceBound (P := P) w jl _ _ _ (show (0 : Int) ≤ (l : Int) by omega) (show (l : Int) ≤ (h : Int) by omega), Int.toNat_natCast]
 ·refine ⟨m, ?_, Or.inr rfl⟩
  obtain ⟨rfl, (⟨rfl, rfl, rfl⟩ | ⟨jh, ah, rfl, rfl⟩)⟩ := or_bnd hh vh
  ·exact absurd rfl (hmh (by simp))
  ·obtain ⟨rfl, (⟨rfl, rfl, rfl⟩ | ⟨jl, al, rfl, rfl⟩)⟩ := or_bnd hl vl
   ·simp only [Instr.sliceBounds, Sem.run_bind, Sem.run_pure, Result.andThen_ok, run_sliceBound (P := P) w jm _ _ _ (show (0 : Int) ≤ (m : Int) by omega) (show (m : Int) ≤ (cap : Int) by omega), run_sliceBound (P := P) w jh _ _ _ (show (0 : Int) ≤ (h : Int) by omega) (show (h : Int) ≤ (m : Int) by omega), Int.toNat_natCast]
   ·simp only [Instr.sliceBounds, Sem.run_bind, Sem.run_pure, Result.andThen_ok, run_sliceBound (P := P) w jm _ _ _ (show (0 : Int) ≤ (m : Int) by omega) (show (m : Int) ≤ (cap : Int) by omega), run_sliceBound (P := P) w jh _ _ _ (show (0 : Int) ≤ (h : Int) by omega) (show (h : Int) ≤ (m : Int) by omega), run_sliceBound (P := P) w jl _ _ _ (show (0 : Int) ≤ (l : Int) by omega) (show (l : Int) ≤ (h : Int) by omega), Int.toNat_natCast]
theorem ev_slice {t : TypeId} {a : AV} {x : Value} {lo hi mx : Option AV} {xl xh xm : Option Value} (ha : VR ρ a x) (vl : OR ρ lo xl) (vh : OR ρ hi xh) (vm : OR ρ mx xm) (hmh : mx ≠ none → hi ≠ none) :
  EV P w0 ρ (eslice P t a lo hi mx) (Instr.sliceAt t x xl xh xm) := by
 unfold eslice
 split
 ·rename_i hu
  cases ha with
  |st s hs =>
   cases mx with
   |some _ => exact ev_fail
   |none =>
    have hxm : xm = none := by
     cases xm with
     |none => rfl
     |some _ => exact vm.elim
    subst hxm
    refine ev_calm fun s0 v s' hm => ?_
    obtain ⟨h, s1, h1, h2⟩ := ebind_ok hm
    obtain ⟨l, s2, h3, h4⟩ := ebind_ok h2
    obtain ⟨h5, h6⟩ := ecase_ok h4
    rw [iand_eq, Bool.and_eq_true] at h5
    have h7 := nble_iff.1 h5.1
    have h8 := nble_iff.1 h5.2
    rw [llen_eq] at h8 h1
    obtain ⟨rfl, rfl⟩ := epure_ok h6
    obtain ⟨r1, -⟩ := or_bnd h1 vh
    obtain ⟨r2, -⟩ := or_bnd h3 vl
    subst r1 r2
    refine ⟨rfl, rfl, fun w _ => ?_⟩
    obtain ⟨m', h9, -⟩ := bounds_run (P := P) (isS := false) (c := s.length) (cap := s.length) (mx := none) (m := s.length) (s := s') (s1 := s') rfl h1 h3 vm vh vl h7 h8 (Nat.le_refl _) (Nat.le_refl _) hmh w
    refine ⟨.string (bsA ((s.drop l).take (h - l))), ?_, ?_⟩
    ·simp only [Instr.sliceAt, Sem.run_bind, run_un hu, Result.andThen_ok, Instr.slice, Option.isSome_none, Bool.false_eq_true, if_false, Sem.run_pure, bsA_size, h9, bsA_extract]
    ·rw [ltake_eq, ldrop_eq]
     exact .st _ fun y hy => hs y (List.mem_of_mem_drop (List.mem_of_mem_take hy))
  |ss s b hs =>
   cases mx with
   |some _ => exact ev_fail
   |none =>
    have hxm : xm = none := by
     cases xm with
     |none => rfl
     |some _ => exact vm.elim
    subst hxm
    refine ev_calm fun s0 v s' hm => ?_
    obtain ⟨h, s1, h1, h2⟩ := ebind_ok hm
    obtain ⟨l, s2, h3, h4⟩ := ebind_ok h2
    obtain ⟨h5, h6⟩ := ecase_ok h4
    rw [iand_eq, Bool.and_eq_true] at h5
    have h7 := nble_iff.1 h5.1
    have h8 := nble_iff.1 h5.2
    have hlen := hs.length
    rw [llen_eq, hlen] at h8 h1
    obtain ⟨rfl, rfl⟩ := epure_ok h6
    obtain ⟨r1, -⟩ := or_bnd h1 vh
    obtain ⟨r2, -⟩ := or_bnd h3 vl
    subst r1 r2
    refine ⟨rfl, rfl, fun w _ => ?_⟩
    obtain ⟨m', h9, -⟩ := bounds_run (P := P) (isS := false) (c := b.length) (cap := b.length) (mx := none) (m := b.length) (s := s') (s1 := s') rfl h1 h3 vm vh vl h7 h8 (Nat.le_refl _) (Nat.le_refl _) hmh w
    refine ⟨.string (bsA ((b.drop l).take (h - l))), ?_, ?_⟩
    ·simp only [Instr.sliceAt, Sem.run_bind, run_un hu, Result.andThen_ok, Instr.slice, Option.isSome_none, Bool.false_eq_true, if_false, Sem.run_pure, bsA_size, h9, bsA_extract]
    ·rw [ltake_eq, ldrop_eq]
     exact mkS_vr ((hs.drop _).take _)
  |_ => exact ev_fail
 ·rename_i e hu
  cases ha with
  |sl i o n c c' r hr hc =>
   refine ev_calm fun s0 v s' hm => ?_
   obtain ⟨m, s1, h1, h2⟩ := ebind_ok hm
   obtain ⟨h, s2, h3, h4⟩ := ebind_ok h2
   obtain ⟨l, s3, h5, h6⟩ := ebind_ok h4
   obtain ⟨z, s4, h7, h8⟩ := ebind_ok h6
   obtain ⟨hz, r0⟩ := esz_ok h7
   obtain ⟨h9, h10⟩ := ecase_ok h8
   obtain ⟨rfl, rfl⟩ := epure_ok h10
   rw [iand_eq, iand_eq, Bool.and_eq_true, Bool.and_eq_true] at h9
   have h11 := nble_iff.1 h9.1
   have h12 := nble_iff.1 h9.2.1
   have h13 := nble_iff.1 h9.2.2
   obtain ⟨r1, -⟩ := or_bnd h1 vm
   obtain ⟨r2, -⟩ := or_bnd h3 vh
   obtain ⟨r3, -⟩ := or_bnd h5 vl
   subst r0 r3 r2 r1
   refine ⟨rfl, rfl, fun w _ => ?_⟩
   obtain ⟨m', h14, h15⟩ := bounds_run (P := P) (isS := true) (len := n) (cap := c') h1 h3 h5 vm vh vl h11 h12 h13 (by rcases hc with rfl | rfl <;> omega) hmh w
   refine ⟨.slice (if m' = l then some ⟨r.b, r.d + o, none⟩ else some ⟨r.b, r.d + (o + l * z), none⟩) (h - l) (m' - l), ?_, ?_⟩
   ·simp only [Instr.sliceAt, Sem.run_bind, run_un hu, Result.andThen_ok, Instr.slice, h14, run_sz hz, Sem.run_pure, Option.map_some, add_none, Nat.add_assoc]
   ·have hm' : m ≤ m' := by
     rcases h15 with ⟨_, h16, h17⟩ | h16
     ·rcases hc with rfl | rfl <;> omega
     ·omega
    by_cases he : m' = l
    ·rw [if_pos he]
     have e1 : h - l = 0 := by omega
     have e2 : m' - l = 0 := by omega
     have e3 : Nat.sub h l = 0 := e1
     have e4 : Nat.sub m l = 0 := by show m - l = 0; omega
     rw [e1, e2, e3, e4]
     exact .sz _ _ r hr _
    ·rw [if_neg he]
     refine .sl i (o + l * z) (h - l) (m - l) (m' - l) r hr ?_
     rcases h15 with ⟨_, h16, h17⟩ | h16
     ·rcases hc with rfl | rfl
      ·exact Or.inl (by omega)
      ·exact Or.inr (by omega)
     ·exact Or.inl (by omega)
  |sz i o r hr ad =>
   refine ev_calm fun s0 v s' hm => ?_
   obtain ⟨m, s1, h1, h2⟩ := ebind_ok hm
   obtain ⟨h, s2, h3, h4⟩ := ebind_ok h2
   obtain ⟨l, s3, h5, h6⟩ := ebind_ok h4
   obtain ⟨z, s4, h7, h8⟩ := ebind_ok h6
   obtain ⟨hz, r0⟩ := esz_ok h7
   obtain ⟨h9, h10⟩ := ecase_ok h8
   obtain ⟨rfl, rfl⟩ := epure_ok h10
   rw [iand_eq, iand_eq, Bool.and_eq_true, Bool.and_eq_true] at h9
   have h11 := nble_iff.1 h9.1
   have h12 := nble_iff.1 h9.2.1
   have h13 := nble_iff.1 h9.2.2
   obtain ⟨r1, -⟩ := or_bnd h1 vm
   obtain ⟨r2, -⟩ := or_bnd h3 vh
   obtain ⟨r3, -⟩ := or_bnd h5 vl
   subst r0 r3 r2 r1
   refine ⟨rfl, rfl, fun w _ => ?_⟩
   obtain ⟨m', h14, h15⟩ := bounds_run (P := P) (isS := true) (len := 0) (cap := 0) h1 h3 h5 vm vh vl h11 h12 h13 (Nat.le_refl _) hmh w
   have e0 : m' = 0 ∧ l = 0 ∧ h = 0 ∧ m = 0 := by
    rcases h15 with ⟨_, h16, h17⟩ | h16 <;> omega
   obtain ⟨rfl, rfl, rfl, rfl⟩ := e0
   refine ⟨.slice (some ad) 0 0, ?_, .sz _ _ r hr _⟩
   simp only [Instr.sliceAt, Sem.run_bind, run_un hu, Result.andThen_ok, Instr.slice, h14, run_sz hz, Sem.run_pure, if_true, Nat.sub_zero]
  |sn =>
   refine ev_calm fun s0 v s' hm => ?_
   obtain ⟨m, s1, h1, h2⟩ := ebind_ok hm
   obtain ⟨h, s2, h3, h4⟩ := ebind_ok h2
   obtain ⟨l, s3, h5, h6⟩ := ebind_ok h4
   obtain ⟨z, s4, h7, h8⟩ := ebind_ok h6
   obtain ⟨hz, r0⟩ := esz_ok h7
   obtain ⟨h9, h10⟩ := ecase_ok h8
   obtain ⟨rfl, rfl⟩ := epure_ok h10
   rw [iand_eq, iand_eq, Bool.and_eq_true, Bool.and_eq_true] at h9
   have h11 := nbeq_t h9.1
   have h12 := nbeq_t h9.2.1
   have h13 := nbeq_t h9.2.2
   obtain ⟨r1, -⟩ := or_bnd h1 vm
   obtain ⟨r2, -⟩ := or_bnd h3 vh
   obtain ⟨r3, -⟩ := or_bnd h5 vl
   subst r0 r3 r2 r1 h11 h12 h13
   refine ⟨rfl, rfl, fun w _ => ?_⟩
   obtain ⟨m', h14, h15⟩ := bounds_run (P := P) (isS := true) (len := 0) (cap := 0) h1 h3 h5 vm vh vl (Nat.le_refl _) (Nat.le_refl _) (Nat.le_refl _) (Nat.le_refl _) hmh w
   have e0 : m' = 0 := by rcases h15 with ⟨_, h16, h17⟩ | h16 <;> omega
   subst e0
   refine ⟨.slice none 0 0, ?_, .sn⟩
   simp only [Instr.sliceAt, Sem.run_bind, run_un hu, Result.andThen_ok, Instr.slice, h14, run_sz hz, Sem.run_pure, if_true, Nat.sub_zero]
  |_ => exact ev_fail
 ·rename_i a' hu
  split
  ·rename_i n e i o hu2 
   cases ha with
   |pt _ _ r hr =>
    refine ev_calm fun s0 v s' hm => ?_
    obtain ⟨m, s1, h1, h2⟩ := ebind_ok hm
    obtain ⟨h, s2, h3, h4⟩ := ebind_ok h2
    obtain ⟨l, s3, h5, h6⟩ := ebind_ok h4
    obtain ⟨z, s4, h7, h8⟩ := ebind_ok h6
    obtain ⟨hz, r0⟩ := esz_ok h7
    obtain ⟨h9, h10⟩ := ecase_ok h8
    obtain ⟨rfl, rfl⟩ := epure_ok h10
    rw [iand_eq, iand_eq, Bool.and_eq_true, Bool.and_eq_true] at h9
    have h11 := nble_iff.1 h9.1
    have h12 := nble_iff.1 h9.2.1
    have h13 := nble_iff.1 h9.2.2
    obtain ⟨r1, -⟩ := or_bnd h1 vm
    obtain ⟨r2, -⟩ := or_bnd h3 vh
    obtain ⟨r3, -⟩ := or_bnd h5 vl
    subst r0 r3 r2 r1
    refine ⟨rfl, rfl, fun w _ => ?_⟩
    obtain ⟨m', h14, h15⟩ := bounds_run (P := P) (isS := false) (len := n) (cap := n) h1 h3 h5 vm vh vl h11 h12 h13 (Nat.le_refl _) hmh w
    have hm' : m' = m := by rcases h15 with ⟨_, h16, h17⟩ | h16 <;> omega
    subst hm'
    refine ⟨.slice (some (if m' = l then ⟨r.b, r.d + o, none⟩ else ⟨r.b, r.d + (o + l * z), none⟩)) (h - l) (m' - l), ?_, ?_⟩
    ·simp only [Instr.sliceAt, Sem.run_bind, run_un hu, run_un hu2, Result.andThen_ok, Instr.slice, asAddr, h14, run_sz hz, Sem.run_pure, add_none, Nat.add_assoc]
    ·by_cases he : m' = l
     ·rw [if_pos he]
      have e1 : h - l = 0 := by omega
      have e2 : m' - l = 0 := by omega
      have e3 : Nat.sub h l = 0 := e1
      have e4 : Nat.sub m' l = 0 := e2
      rw [e1, e2, e3, e4]
      exact .sz _ _ r hr _
     ·rw [if_neg he]
      exact .sl i (o + l * z) (h - l) (m' - l) (m' - l) r hr (Or.inl rfl)
  ·exact ev_fail
 ·rename_i n e hu
  cases ha with
  |pt i o r hr =>
   refine ev_calm fun s0 v s' hm => ?_
   obtain ⟨m, s1, h1, h2⟩ := ebind_ok hm
   obtain ⟨h, s2, h3, h4⟩ := ebind_ok h2
   obtain ⟨l, s3, h5, h6⟩ := ebind_ok h4
   obtain ⟨z, s4, h7, h8⟩ := ebind_ok h6
   obtain ⟨hz, r0⟩ := esz_ok h7
   obtain ⟨h9, h10⟩ := ecase_ok h8
   obtain ⟨rfl, rfl⟩ := epure_ok h10
   rw [iand_eq, iand_eq, Bool.and_eq_true, Bool.and_eq_true] at h9
   have h11 := nble_iff.1 h9.1
   have h12 := nble_iff.1 h9.2.1
   have h13 := nble_iff.1 h9.2.2
   obtain ⟨r1, -⟩ := or_bnd h1 vm
   obtain ⟨r2, -⟩ := or_bnd h3 vh
   obtain ⟨r3, -⟩ := or_bnd h5 vl
   subst r0 r3 r2 r1
   refine ⟨rfl, rfl, fun w _ => ?_⟩
   obtain ⟨m', h14, h15⟩ := bounds_run (P := P) (isS := false) (len := n) (cap := n) h1 h3 h5 vm vh vl h11 h12 h13 (Nat.le_refl _) hmh w
   have hm' : m' = m := by rcases h15 with ⟨_, h16, h17⟩ | h16 <;> omega
   subst hm'
   refine ⟨.slice (some (if m' = l then ⟨r.b, r.d + o, none⟩ else ⟨r.b, r.d + (o + l * z), none⟩)) (h - l) (m' - l), ?_, ?_⟩
   ·simp only [Instr.sliceAt, Sem.run_bind, run_un hu, Result.andThen_ok, Instr.sureAddr, h14, run_sz hz, Sem.run_pure, add_none, Nat.add_assoc]
   ·by_cases he : m' = l
    ·rw [if_pos he]
     have e1 : h - l = 0 := by omega
     have e2 : m' - l = 0 := by omega
     have e3 : Nat.sub h l = 0 := e1
     have e4 : Nat.sub m' l = 0 := e2
     rw [e1, e2, e3, e4]
     exact .sz _ _ r hr _
    ·rw [if_neg he]
     exact .sl i (o + l * z) (h - l) (m' - l) (m' - l) r hr (Or.inl rfl)
  |_ => exact ev_fail
 ·exact ev_fail
end
section
set_option linter.unusedSectionVars false
open Go.RowKit
variable [Val]
variable {P : Program} {w0 : World} {ρ : ERho}
theorem veq_runN (m : Nat) {d : TypeDesc} {a b : AV} {r : Bool} (h : veq d a b = some r) {x y : Value} (ha : VR ρ a x) (hb : VR ρ b y) {t : TypeId} (hu : P.underlying t = some d) (w : World) : (Op.equalIn (m + 1) t x y).run P w = .ok r w := by
 unfold Op.equalIn
 rw [Sem.run_bind, run_un hu]
 simp only [Result.andThen_ok]
 unfold veq at h
 split at h <;> first | cases h | skip
 all_goals cases ha
 all_goals cases hb
 all_goals first | rfl | skip
 all_goals (first | (rename_i p q; cases p <;> cases q <;> rfl))
theorem veq_run {d : TypeDesc} {a b : AV} {r : Bool} (h : veq d a b = some r) {x y : Value} (ha : VR ρ a x) (hb : VR ρ b y) {t : TypeId} (hu : P.underlying t = some d) (w : World) : (Op.equal t x y).run P w = .ok r w := veq_runN 9999 h ha hb hu w
theorem eqs_run {m : Nat} {t : TypeId} (hu : P.underlying t = some .string) {a b x y : List Nat} (ha : BsR a x) (hb : BsR b y) {r : Bool} (h : seq a b = some r) (w : World) : (Op.equalIn (m + 1) t (.string (bsA x)) (.string (bsA y))).run P w = .ok r w := by
 rw [run_equalIn_string w m t _ _ hu, bsA_toList, bsA_toList, bsA_beq ha.lt hb.lt, seq_ok ha hb h]
theorem eqv_run {m : Nat} {t : TypeId} {k0 k j : IntKind} (hu : P.underlying t = some (.int k0)) {a b : Nat} {lo hi lo2 hi2 n q : Int} (h1 : IvR a lo hi n) (h2 : IvR b lo2 hi2 q) {r : Bool} (h : (Bool.rec none (ivcmp .eql a lo hi b lo2 hi2) (ikeq k j) : Option Bool) = some r) (w : World) : (Op.equalIn (m + 1) t (.int k n) (.int j q)).run P w = .ok r w := by
 cases hk : ikeq k j with
 |false => rw [hk] at h; cases h
 |true =>
  rw [hk] at h
  have := ikeq_eq hk
  subst this
  rw [run_equalIn_int w m t k k0 n q hu]
  rcases ivcmp_ok h1 h2 h with ⟨_, h5⟩ | ⟨h5, _⟩ | ⟨h5, _⟩ | ⟨h5, _⟩ | ⟨h5, _⟩ | ⟨h5, _⟩
  ·rw [h5]
  all_goals cases h5
theorem vfeq_run (m : Nat) {d : TypeDesc} {a b : AV} {r : Bool} (h : vfeq d a b = some r) {x y : Value} (ha : VR ρ a x) (hb : VR ρ b y) {t : TypeId} (hu : P.underlying t = some d) (w : World) : (Op.equalIn (m + 1) t x y).run P w = .ok r w := by
 unfold vfeq at h
 split at h
 ·cases ha
  cases hb
  rename_i k0 k n j q
  cases hk : ikeq k j with
  |false => rw [hk] at h; cases h
  |true =>
   rw [hk] at h
   cases h
   have := ikeq_eq hk
   subst this
   rw [run_equalIn_int w m t k k0 n q hu, ieq_eq]
 ·cases ha with
  |iv _ _ _ _ n h1 h2 h3 =>
   cases hb
   exact eqv_run hu ⟨h1, h2, h3⟩ (.one _) h w
 ·cases hb with
  |iv _ _ _ _ n h1 h2 h3 =>
   cases ha
   exact eqv_run hu (.one _) ⟨h1, h2, h3⟩ h w
 ·cases ha with
  |iv _ _ _ _ n h1 h2 h3 => cases hb with
   |iv _ _ _ _ q g1 g2 g3 => exact eqv_run hu ⟨h1, h2, h3⟩ ⟨g1, g2, g3⟩ h w
 ·cases ha with
  |st _ h1 => cases hb with
   |st _ h2 =>
    cases h
    rw [run_equalIn_string w m t _ _ hu, bsA_toList, bsA_toList, bsA_beq h1 h2, leq_iff]
 ·cases ha with
  |st _ h1 => cases hb with
   |ss _ y h2 => exact eqs_run hu (.conc h1) h2 h w
 ·cases ha with
  |ss _ x h1 => cases hb with
   |st _ h2 => exact eqs_run hu h1 (.conc h2) h w
 ·cases ha with
  |ss _ x h1 => cases hb with
   |ss _ y h2 => exact eqs_run hu h1 h2 h w
 ·exact veq_runN m h ha hb hu w
theorem efeq_run (m : Nat) {xs ys : List AV} {vs us : List Value} (hx : VRs ρ xs vs) (hy : VRs ρ ys us) : ∀ {fs : List Field} {s s' : ESt} {r : Bool}, efeq P xs ys fs s = .ok r s' → s' = s ∧ ∀ w, (Op.eqFields (m + 1) vs.toArray us.toArray fs).run P w = .ok r w
 |[], s, s', r, h => by
  obtain ⟨rfl, rfl⟩ := epure_ok (a := true) h
  exact ⟨rfl, fun w => rfl⟩
 |f :: fs, s, s', r, h => by
  obtain ⟨a, s1, h1, h2⟩ := ebind_ok (m := ecase [39] (Bool.not (f.name == "_")) (vpart P f.type xs f.offset)) h
  obtain ⟨h3, h4⟩ := ecase_ok h1
  obtain ⟨b, s2, h5, h6⟩ := ebind_ok h2
  have e1 := (vpart_ok h4).1
  have e2 := (vpart_ok h5).1
  subst e1
  subst e2
  have hn : f.name ≠ "_" := by simpa using h3
  cases hu : P.underlying f.type with
  |none => rw [hu] at h6; cases h6
  |some d =>
   rw [hu] at h6
   obtain ⟨q, s3, h7, h8⟩ := ebind_ok h6
   obtain ⟨h9, rfl⟩ := eopt_ok h7
   have step : ∀ w, ∃ x y, (part f.type vs.toArray f.offset).run P w = .ok x w ∧ (part f.type us.toArray f.offset).run P w = .ok y w ∧ (Op.equalIn (m + 1) f.type x y).run P w = .ok q w := fun w => by
    obtain ⟨x, r1, v1⟩ := part_run h4 hx w
    obtain ⟨y, r2, v2⟩ := part_run h5 hy w
    exact ⟨x, y, r1, r2, vfeq_run m h9 v1 v2 hu w⟩
   cases q with
   |false =>
    obtain ⟨rfl, rfl⟩ := epure_ok h8
    refine ⟨rfl, fun w => ?_⟩
    obtain ⟨x, y, r1, r2, r3⟩ := step w
    simp only [Op.eqFields, if_pos hn, Sem.run_bind, r1, r2, r3, Result.andThen_ok, Bool.not_false, if_true, Sem.run_pure]
   |true =>
    obtain ⟨rfl, h10⟩ := efeq_run m hx hy (fs := fs) h8
    refine ⟨rfl, fun w => ?_⟩
    obtain ⟨x, y, r1, r2, r3⟩ := step w
    simp only [Op.eqFields, if_pos hn, Sem.run_bind, r1, r2, r3, Result.andThen_ok, Bool.not_true, Bool.false_eq_true, if_false]
    exact h10 w
theorem eqst_run {t : TypeId} {fs : Array Field} (hu : P.underlying t = some (.struct fs)) (hc : iand (Bool.not (P.stoodInHeld t)) (Bool.not (P.eqGuardType P.depth t)) = true) {xs ys : List AV} {vs us : List Value} (hx : VRs ρ xs vs) (hy : VRs ρ ys us) {s s' : ESt} {r : Bool} (h : efeq P xs ys fs.toList s = .ok r s') {op : BinOp} {ox oy : Operand} (w : World) :
  (eqGuard op t ox oy (.agg vs.toArray) (.agg us.toArray)).run P w = .ok () w ∧ (Op.equalIn 10000 t (.agg vs.toArray) (.agg us.toArray)).run P w = .ok r w := by
 rw [iand_eq, Bool.and_eq_true, Bool.not_eq_true', Bool.not_eq_true'] at hc
 have hf : P.fieldsOf t = fs := by unfold Program.fieldsOf; rw [hu]
 refine ⟨run_eqGuard_agg w op t ox oy _ _ hc.2, ?_⟩
 have h1 := run_equalIn_agg w 9999 t vs.toArray us.toArray (by rw [hf]; exact hu) hc.1
 rw [hf] at h1
 exact h1.trans ((efeq_run 9998 hx hy h).2 w)
theorem guard_run {op : BinOp} {t : TypeId} {x y : Operand} {a b : Value} (h : ∀ p q, ¬ (a = .agg p ∧ b = .agg q)) (h2 : ¬ (a = .nilIface ∧ b = .nilIface)) (w : World) : (eqGuard op t x y a b).run P w = .ok () w := by
 cases op <;> first | rfl | skip
 all_goals (cases a <;> cases b <;> first | rfl | exact absurd ⟨rfl, rfl⟩ h2 | exact absurd ⟨rfl, rfl⟩ (h _ _))
theorem ev_bin {op : BinOp} {t : TypeId} {ox oy : Operand} {a b : AV} {x y : Value} (ha : VR ρ a x) (hb : VR ρ b y) : EV P w0 ρ (ebin P (kon ox oy) op t a b) (do eqGuard op t ox oy x y; binOp op t x y) := by
 have lift : ∀ {m : EM AV}, (∀ w, (eqGuard op t ox oy x y).run P w = .ok () w) → EV P w0 ρ m (binOp op t x y) → EV P w0 ρ m (do eqGuard op t ox oy x y; binOp op t x y) := fun hg he s v s' hm w hw hf => by
  obtain ⟨σ, z, w', h1, h2⟩ := he s v s' hm w hw hf
  exact ⟨σ, z, w', by rw [Sem.run_bind, hg]; exact h1, h2⟩
 unfold ebin
 split
 ·cases ha
  cases hb
  rename_i k a j b
  refine lift (guard_run (fun p q h => by cases h.1) (fun h => by cases h.1)) ?_
  split
  ·exact ev_shift (Or.inl rfl)
  ·exact ev_shift (Or.inr rfl)
  ·refine ev_case fun h => ?_
   have := ikeq_eq h
   subst this
   exact ev_ibin
 ·cases ha with
  |st a h1 => cases hb with
   |st b h2 => exact lift (guard_run (fun p q h => by cases h.1) (fun h => by cases h.1)) (ev_sbin h1 h2)
 ·cases ha with
  |st a h1 => cases hb with
   |ss b y h2 => exact lift (guard_run (fun p q h => by cases h.1) (fun h => by cases h.1)) (ev_ssbin (.conc h1) h2)
 ·cases ha with
  |ss a x h1 => cases hb with
   |st b h2 => exact lift (guard_run (fun p q h => by cases h.1) (fun h => by cases h.1)) (ev_ssbin h1 (.conc h2))
 ·cases ha with
  |ss a x h1 => cases hb with
   |ss b y h2 => exact lift (guard_run (fun p q h => by cases h.1) (fun h => by cases h.1)) (ev_ssbin h1 h2)
 ·cases ha with
  |iv k a lo hi n h1 h2 h3 =>
   cases hb
   refine lift (guard_run (fun p q h => by cases h.1) (fun h => by cases h.1)) ?_
   split
   ·exact ev_ivshift ⟨h1, h2, h3⟩
   ·exact ev_ivshift ⟨h1, h2, h3⟩
   ·refine ev_case fun h => ?_
    have := ikeq_eq h
    subst this
    exact ev_ivbin ⟨h1, h2, h3⟩ (.one _)
 ·cases hb with
  |iv k a lo hi n h1 h2 h3 =>
   cases ha
   refine lift (guard_run (fun p q h => by cases h.1) (fun h => by cases h.1)) ?_
   split
   ·exact ev_fail
   ·exact ev_fail
   ·refine ev_case fun h => ?_
    have := ikeq_eq h
    subst this
    exact ev_ivbin (.one _) ⟨h1, h2, h3⟩
 ·cases ha with
  |iv k a lo hi n h1 h2 h3 => cases hb with
   |iv j b lo2 hi2 m g1 g2 g3 =>
    refine lift (guard_run (fun p q h => by cases h.1) (fun h => by cases h.1)) ?_
    split
    ·exact ev_fail
    ·exact ev_fail
    ·refine ev_case fun h => ?_
     have := ikeq_eq h
     subst this
     exact ev_ivbin ⟨h1, h2, h3⟩ ⟨g1, g2, g3⟩
 ·cases ha with
  |ag xs vs hx => cases hb with
   |ag ys us hy =>
    split
    ·rename_i fs hu
     refine ev_calm fun s v s' hm => ?_
     obtain ⟨h1, h2⟩ := ecase_ok hm
     obtain ⟨r, s1, h3, h4⟩ := ebind_ok h2
     obtain ⟨rfl, rfl⟩ := epure_ok h4
     have := (efeq_run 0 hx hy h3).1
     subst this
     refine ⟨rfl, rfl, fun w _ => ⟨.bool r, ?_, .bo _⟩⟩
     obtain ⟨g1, g2⟩ := eqst_run hu h1 hx hy h3 (op := .eql) (ox := ox) (oy := oy) w
     rw [Sem.run_bind, g1, Result.andThen_ok, run_eql_struct, g2]
     rfl
    ·rename_i fs hu
     refine ev_calm fun s v s' hm => ?_
     obtain ⟨h1, h2⟩ := ecase_ok hm
     obtain ⟨r, s1, h3, h4⟩ := ebind_ok h2
     obtain ⟨rfl, rfl⟩ := epure_ok h4
     have := (efeq_run 0 hx hy h3).1
     subst this
     refine ⟨rfl, rfl, fun w _ => ⟨.bool (!r), ?_, by cases r <;> exact .bo _⟩⟩
     obtain ⟨g1, g2⟩ := eqst_run hu h1 hx hy h3 (op := .neq) (ox := ox) (oy := oy) w
     rw [Sem.run_bind, g1, Result.andThen_ok, run_neq_struct, g2]
     rfl
    ·exact ev_fail
 ·cases ha
  cases hb
  have hg : kon ox oy = true → (op = .eql ∨ op = .neq) → ∀ w, (eqGuard op t ox oy .nilIface .nilIface).run P w = .ok () w := fun hk ho w => by
   cases ox <;> cases oy <;> first | (rcases ho with rfl | rfl <;> rfl) | cases hk
  have he : ∀ {l}, P.underlying t = some (.interface l) → ∀ w, (Op.equal t .nilIface .nilIface).run P w = .ok true w := fun hu w => by
   unfold Op.equal Op.maxDepth Op.equalIn
   rw [Sem.run_bind, run_un hu]
   rfl
  split
  ·rename_i hu
   refine ev_case fun hk => ev_pure fun w => ⟨_, ?_, .bo _⟩
   rw [Sem.run_bind, hg hk (.inl rfl), Result.andThen_ok]
   show (do pure (Value.bool (← Op.equal t .nilIface .nilIface)) : Sem Value).run P w = _
   rw [Sem.run_bind, he hu]
   rfl
  ·rename_i hu
   refine ev_case fun hk => ev_pure fun w => ⟨_, ?_, .bo _⟩
   rw [Sem.run_bind, hg hk (.inr rfl), Result.andThen_ok]
   show (do pure (Value.bool (!(← Op.equal t .nilIface .nilIface))) : Sem Value).run P w = _
   rw [Sem.run_bind, he hu]
   rfl
  ·exact ev_fail
 ·rename_i n1 n2
  have key : ∀ d r, P.underlying t = some d → veq d a b = some r → ∀ w, (op = .eql → (do eqGuard op t ox oy x y; binOp op t x y).run P w = .ok (.bool r) w) ∧ (op = .neq → (do eqGuard op t ox oy x y; binOp op t x y).run P w = .ok (.bool (!r)) w) := fun d r hu hv w => by
   have he := veq_run hv ha hb hu w
   have hg : (eqGuard op t ox oy x y).run P w = .ok () w := guard_run (fun p q h => by
    obtain ⟨rfl, rfl⟩ := h
    cases ha <;> cases hb <;> (unfold veq at hv; split at hv <;> contradiction)) (fun h => by
    obtain ⟨rfl, rfl⟩ := h
    cases ha <;> cases hb <;> (unfold veq at hv; split at hv <;> contradiction)) w
   rw [Sem.run_bind, hg]
   simp only [Result.andThen_ok]
   have hb1 : (op = .eql → binOp op t x y = (do pure (.bool (← Op.equal t x y)))) ∧ (op = .neq → binOp op t x y = (do pure (.bool (!(← Op.equal t x y))))) := by
    constructor
    ·rintro rfl
     unfold veq at hv
     split at hv <;> first | contradiction | (cases ha <;> cases hb <;> rfl)
    ·rintro rfl
     unfold veq at hv
     split at hv <;> first | contradiction | (cases ha <;> cases hb <;> rfl)
   exact ⟨fun e => by rw [hb1.1 e, Sem.run_bind, he]; rfl, fun e => by rw [hb1.2 e, Sem.run_bind, he]; rfl⟩
  split
  ·rename_i d hu
   refine ev_opt fun r hr => ev_pure fun w => ⟨_, ((key d r hu hr) w).1 rfl, .bo _⟩
  ·rename_i d hu
   refine ev_opt fun r hr => ev_pure fun w => ⟨_, ((key d r hu hr) w).2 rfl, .bo _⟩
  ·exact ev_fail
theorem wrap_cong {k : IntKind} {x y : Int} (h : x % (2 ^ k.bits : Int) = y % (2 ^ k.bits : Int)) : k.wrap x = k.wrap y := by
 unfold IntKind.wrap
 rw [h]
theorem not_cong (m : Nat) (n : Int) : ((BitVec.ofInt m (-1) ^^^ BitVec.ofInt m n).toNat : Int) % (2 ^ m : Int) = (Int.sub (.negSucc 0) n) % (2 ^ m : Int) := by
 have hM : (0 : Int) < 2 ^ m := Int.pow_pos (by decide)
 obtain ⟨M, hMe⟩ : ∃ M : Int, (2 : Int) ^ m = M := ⟨_, rfl⟩
 have e : BitVec.ofInt m (-1) ^^^ BitVec.ofInt m n = ~~~ (BitVec.ofInt m n) := by
  rw [show BitVec.ofInt m (-1) = BitVec.allOnes m from by show BitVec.ofInt m (Int.negSucc 0) = _; rw [BitVec.ofInt_negSucc_eq_not_ofNat]; exact BitVec.not_zero, BitVec.allOnes_xor]
 have h0 := Int.emod_nonneg n (b := M) (by omega)
 have h1 := Int.emod_lt_of_pos n (b := M) (by omega)
 have hN : ((2 ^ m : Nat) : Int) = M := by rw [← hMe]; simp
 have e2 : ((~~~ (BitVec.ofInt m n)).toNat : Int) = M - 1 - n % M := by
  rw [BitVec.toNat_not, BitVec.toNat_ofInt, hN]
  have : ((n % M).toNat : Int) = n % M := Int.toNat_of_nonneg h0
  omega
 rw [e, e2, hMe]
 have h2 := Int.emod_add_mul_ediv n M
 have e3 : Int.sub (.negSucc 0) n = M - 1 - n % M + M * (- (n / M) - 1) := by
  show -1 - n = _
  rw [Int.mul_sub, Int.mul_neg]
  omega
 rw [e3, Int.add_mul_emod_self_left]
theorem ev_un {op : UnOp} {a : AV} {x : Value} (ha : VR ρ a x) : EV P w0 ρ (eun op a) (Op.unary op x) := by
 cases op
 case not => cases ha <;> first | exact ev_fail | exact ev_pure fun w => ⟨_, rfl, .bo _⟩
 case neg => cases ha <;> first | exact ev_fail | exact ev_pure fun w => ⟨_, rfl, by rw [iwrap_eq]; exact .it _ _⟩
 case xor =>
  cases ha <;> try exact ev_fail
  rename_i k n
  have sg : k.signed = true → ∀ w, (Op.unary .xor (.int k n)).run P w = .ok (.int k (iwrap k (Int.sub (.negSucc 0) n))) w := fun hs w => by
   simp only [Op.unary, Op.intBits, hs, if_true, Sem.run_pure]
   rw [iwrap_eq]
   congr 2
   exact wrap_cong (not_cong _ _)
  cases n with
  |negSucc n =>
   show EV P w0 ρ (Bool.rec (efail [32]) (epure (.it k (iwrap k (Int.sub (.negSucc 0) (.negSucc n))))) k.signed) _
   cases hs : k.signed with
   |false => exact ev_fail
   |true => exact ev_pure fun w => ⟨_, sg hs w, .it _ _⟩
  |ofNat n =>
   show EV P w0 ρ (Bool.rec (ecase [32] (iand (Bool.not k.signed) (Nat.blt n (Nat.pow 2 k.bits))) (epure (.it k (iwrap k (Int.ofNat (Nat.xor (Nat.sub (Nat.pow 2 k.bits) 1) n)))))) (epure (.it k (iwrap k (Int.sub (.negSucc 0) (.ofNat n))))) k.signed) _
   cases hs : k.signed with
   |true => exact ev_pure fun w => ⟨_, sg hs w, .it _ _⟩
   |false =>
    refine ev_case fun h => ev_pure fun w => ⟨_, ?_, .it _ _⟩
    rw [iand_eq, Bool.and_eq_true, nblt_iff, show Nat.pow 2 k.bits = 2 ^ k.bits from rfl] at h
    rw [iwrap_eq]
    have hmax : k.max = ((2 ^ k.bits - 1 : Nat) : Int) := by cases k <;> first | rfl | cases hs
    simp only [Op.unary, Op.intBits, hs, Bool.false_eq_true, if_false, hmax]
    simp only [Sem.run_pure, Int.ofNat_eq_natCast, BitVec.ofInt_natCast, BitVec.toNat_xor, BitVec.toNat_ofNat]
    rw [Nat.mod_eq_of_lt h.2, Nat.mod_eq_of_lt (by have := Nat.two_pow_pos k.bits; omega)]
    rfl
 case plus => exact ev_fail
theorem bytesA_vrs {s : List Nat} : VRs ρ (bytesA s) (s.map fun n : Nat => Value.int .u8 (n : Int)) := by
 unfold bytesA
 rw [lmap_eq]
 exact VRs.map fun n _ => .it _ _
theorem bsA_cells {s : List Nat} (h : ∀ x ∈ s, x < 256) : (bsA s).data.toList.map (fun b => Value.int .u8 b.toNat) = s.map fun n : Nat => Value.int .u8 (n : Int) := by
 show (s.map UInt8.ofNat).toArray.toList.map _ = _
 rw [List.map_map]
 refine List.map_congr_left fun n hn => ?_
 have := h n hn
 simp only [Function.comp, UInt8.toNat_ofNat']
 rw [Nat.mod_eq_of_lt this]
theorem cMk_parts {a lo hi : Nat} (h1 : lo < 256) (h2 : hi < 256) : cNm (cMk a lo hi) = a ∧ cLo (cMk a lo hi) = lo ∧ cHi (cMk a lo hi) = hi ∧ 256 ≤ cMk a lo hi := by
 have e : cMk a lo hi = 256 + (a * 65536 + (lo * 256 + hi)) := rfl
 rw [e]
 unfold cNm cLo cHi
 have e1 : Nat.sub (256 + (a * 65536 + (lo * 256 + hi))) 256 = a * 65536 + (lo * 256 + hi) := by
  show 256 + (a * 65536 + (lo * 256 + hi)) - 256 = _
  omega
 rw [e1]
 refine ⟨?_, ?_, ?_, by omega⟩
 ·show (a * 65536 + (lo * 256 + hi)) / 65536 = a
  omega
 ·show (a * 65536 + (lo * 256 + hi)) / 256 % 256 = lo
  omega
 ·show (a * 65536 + (lo * 256 + hi)) % 256 = hi
  omega
theorem byteS_ok {v : AV} {n : Nat} (h : byteS v = some n) {x : Value} (hv : VR ρ v x) : ∃ m : Nat, x = .int .u8 (m : Int) ∧ ByR n m := by
 unfold byteS at h
 split at h
 ·rename_i m
  cases hb : Nat.blt m 256 with
  |false => rw [hb] at h; cases h
  |true =>
   rw [hb] at h
   cases h
   cases hv
   exact ⟨_, rfl, .conc (nblt_iff.1 hb)⟩
 ·rename_i a lo hi
  cases hb : iand (Nat.blt lo 256) (Nat.blt hi 256) with
  |false => rw [hb] at h; cases h
  |true =>
   rw [hb] at h
   cases h
   rw [iand_eq, Bool.and_eq_true, nblt_iff, nblt_iff] at hb
   cases hv with
   |iv _ _ _ _ k h1 h2 h3 =>
    rw [Int.ofNat_eq_natCast] at h1 h2
    obtain ⟨m, rfl⟩ : ∃ m : Nat, k = m := ⟨k.toNat, by omega⟩
    obtain ⟨c1, c2, c3, c4⟩ := cMk_parts (a := a) hb.1 hb.2
    refine ⟨m, rfl, by omega, fun h => by omega, fun _ => ?_⟩
    rw [c1, c2, c3]
    exact ⟨by omega, by omega, h3⟩
 ·cases h
theorem bytesS_vrs : ∀ {s b : List Nat}, BsR s b → VRs ρ (bytesS s) (b.map fun n : Nat => Value.int .u8 (n : Int))
 |_, _, .nil => .nil
 |_, _, .cons c x s b h hs => .cons _ _ _ _ (cA_vr h .u8) (bytesS_vrs hs)
theorem bytesS_at : ∀ {vs : List AV} {bs : List Nat} {g : Nat → Option Value}, omap byteS vs = some bs → (∀ (i : Nat) (v : AV), vs[i]? = some v → ∃ x, g i = some x ∧ VR ρ v x) → ∃ b, BsR bs b ∧ ∀ (j x : Nat), b[j]? = some x → g j = some (.int .u8 (x : Int))
 |[], bs, g, h, _ => by cases h; exact ⟨[], .nil, fun j x h => by simp at h⟩
 |v :: vs, bs, g, h, hg => by
  have h' : (Option.rec none (fun y => Option.rec none (fun ys => some (y :: ys)) (omap byteS vs)) (byteS v) : Option (List Nat)) = some bs := h
  cases e1 : byteS v with
  |none => rw [e1] at h'; cases h'
  |some c => cases e2 : omap byteS vs with
   |none => rw [e1, e2] at h'; cases h'
   |some cs =>
    rw [e1, e2] at h'
    cases h'
    obtain ⟨x, hx, hv⟩ := hg 0 v rfl
    obtain ⟨m, rfl, hm⟩ := byteS_ok e1 hv
    obtain ⟨b, hb, hj⟩ := bytesS_at (g := fun i => g (i + 1)) e2 fun i u hu => hg (i + 1) u (by simpa using hu)
    refine ⟨m :: b, .cons _ _ _ _ hm hb, fun j y hy => ?_⟩
    cases j with
    |zero => simp only [List.getElem?_cons_zero, Option.some.injEq] at hy; subst hy; exact hx
    |succ j => exact hj j y (by simpa using hy)
theorem bytesS_in_row {l : List AV} {c : Array Value} {d o n : Nat} {bs : List Nat} (hl : ∀ (i : Nat) (v : AV), l[i]? = some v → ∃ x, c[d + i]? = some x ∧ VR ρ v x) (h : omap byteS ((l.drop o).take n) = some bs) :
  ∃ b, BsR bs b ∧ ∀ (j x : Nat), b[j]? = some x → c[d + (o + j)]? = some (.int .u8 (x : Int)) :=
 bytesS_at (g := fun j => c[d + (o + j)]?) h fun i v hv => by
  rw [List.getElem?_take] at hv
  split at hv
  ·rw [List.getElem?_drop] at hv
   exact hl _ _ hv
  ·cases hv
theorem foldl_push : ∀ (l : List Nat) (r : ByteArray), (l.map (fun n : Nat => (n : Int))).foldl (fun r n => r.push (UInt8.ofNat n.toNat)) r = r ++ bsA l
 |[], r => by
  apply ByteArray.ext
  simp [bsA, ByteArray.data_append]
 |n :: l, r => by
  rw [List.map_cons, List.foldl_cons, foldl_push l]
  apply ByteArray.ext
  simp [bsA, ByteArray.data_append, ByteArray.data_push]
theorem ev_conv {s d : TypeId} {a : AV} {x : Value} (ha : VR ρ a x) : EV P w0 ρ (econv P s d a) (convert s d x) := by
 unfold econv
 split
 ·rename_i u k _ n hs hd
  cases ha
  exact ev_pure fun w => ⟨.int k (k.wrap n), by simp [convert, run_un hs, run_un hd, Conv.intToInt], by rw [iwrap_eq]; exact .it _ _⟩
 ·rename_i u k _ a lo hi hs hd
  cases ha with
  |iv _ _ _ _ n h1 h2 h3 => exact ev_pure fun w => ⟨.int k (k.wrap n), by simp [convert, run_un hs, run_un hd, Conv.intToInt], ivconv_vr ⟨h1, h2, h3⟩⟩
 ·rename_i u b hs hd
  cases ha with
  |st _ h1 => exact ev_pure fun w => ⟨.string (bsA b), by simp [convert, run_un hs, run_un hd], .st _ h1⟩
 ·rename_i u sy hs hd
  cases ha with
  |ss _ b h1 => exact ev_pure fun w => ⟨.string (bsA b), by simp [convert, run_un hs, run_un hd], .ss _ _ h1⟩
 ·rename_i u e sy hs hd
  cases ha with
  |ss _ b hb0 =>
   have h1 := hb0.lt
   have hlen := hb0.length
   split
   ·rename_i he
    intro s0 v s' hm w hw hf
    obtain ⟨z, s1, h2, h3⟩ := ebind_ok hm
    obtain ⟨hz, rfl⟩ := esz_ok h2
    obtain ⟨h4, h5⟩ := ecase_ok h3
    have h6 := nbeq_t h4
    subst h6
    obtain ⟨i, s2, h7, h8⟩ := ebind_ok h5
    obtain ⟨rfl, rfl⟩ := epure_ok h8
    obtain ⟨rfl, rfl⟩ := enew_ok h7
    have hn : ρ s1.nx = none := hf _ (Nat.le_refl _) (Nat.lt_succ_self _)
    obtain ⟨gc, hgc⟩ : ∃ gc, grownCap w (bsA b).size 0 e = gc := ⟨_, rfl⟩
    have hge : b.length ≤ gc := by rw [← hgc, ← bsA_size]; exact grownCap_ge _ _ _ _
    have hcells : Lib.bytesCells w e (bsA b) = (b.map fun n : Nat => Value.int .u8 (n : Int)).toArray ++ Array.replicate (gc - b.length) (.int .u8 0) := by
     unfold Lib.bytesCells
     rw [hgc, bsA_size]
     congr 1
     apply Array.ext'
     rw [Array.toList_map, bsA_cells h1]
    have hcs : (Lib.bytesCells w e (bsA b)).size = gc := by rw [hcells]; simp; omega
    have hrun := Lib.run_convert_string_bytes (P := P) w s d e (bsA b) hs hd he
    rw [hgc, bsA_size] at hrun
    refine ⟨eup ρ s1.nx ⟨w.heap.size, 0, gc - b.length⟩, _, _, hrun, ?_, ?_, EExt.one hn⟩
    ·rw [llen_eq, hlen]
     exact sl_new (Or.inr (by omega))
    ·refine hw.add hn hw.fp.size (Lib.bytesWorld_at_new w e (bsA b)) ⟨_, _, 1, rfl, hz, rfl, ⟨?_, ?_, fun h => ?_⟩, ?_⟩ ?_ ?_
     ·show 0 + (bytesS sy).length + (gc - b.length) * 1 ≤ _
      rw [hcs, (bytesS_vrs (ρ := ρ) hb0).length, List.length_map]
      omega
     ·intro k _ hk
      simp only
      omega
     ·exfalso
      have h' : sy.length + 1 ≤ (bytesS sy).length := by rw [← llen_eq]; exact h
      rw [(bytesS_vrs (ρ := ρ) hb0).length, List.length_map] at h'
      omega
     ·intro j v hv
      obtain ⟨x, h9, h10⟩ := (bytesS_vrs (ρ := ρ) hb0).nth hv
      refine ⟨x, ?_, h10.up (eup_le hn)⟩
      rw [hcells, Array.getElem?_append_left (by have := (List.getElem?_eq_some_iff.1 h9).1; simpa using this)]
      simpa using h9
     ·exact hw.fp.trans (⟨rfl, rfl, rfl, by rw [Lib.bytesWorld_size]; omega, fun k hk _ => Lib.bytesWorld_at_old w e (bsA b) k hk⟩ : Fp [] w (Lib.bytesWorld w e (bsA b))) (by simp)
     ·intro i c q hc hq
      obtain ⟨q1, o1, e1, _, h11, _⟩ := hw.blk i c hc
      rw [hq] at e1
      cases e1
      have := heap_lt h11
      exact ⟨by show q.b ≠ w.heap.size; omega, Lib.bytesWorld_at_old w e (bsA b) _ this⟩
   ·exact ev_fail
 ·rename_i u e b hs hd
  cases ha with
  |st _ h1 =>
   split
   ·rename_i he
    intro s0 v s' hm w hw hf
    obtain ⟨z, s1, h2, h3⟩ := ebind_ok hm
    obtain ⟨hz, rfl⟩ := esz_ok h2
    obtain ⟨h4, h5⟩ := ecase_ok h3
    have h6 := nbeq_t h4
    subst h6
    obtain ⟨i, s2, h7, h8⟩ := ebind_ok h5
    obtain ⟨rfl, rfl⟩ := epure_ok h8
    obtain ⟨rfl, rfl⟩ := enew_ok h7
    have hn : ρ s1.nx = none := hf _ (Nat.le_refl _) (Nat.lt_succ_self _)
    obtain ⟨gc, hgc⟩ : ∃ gc, grownCap w (bsA b).size 0 e = gc := ⟨_, rfl⟩
    have hge : b.length ≤ gc := by rw [← hgc, ← bsA_size]; exact grownCap_ge _ _ _ _
    have hcells : Lib.bytesCells w e (bsA b) = (b.map fun n : Nat => Value.int .u8 (n : Int)).toArray ++ Array.replicate (gc - b.length) (.int .u8 0) := by
     unfold Lib.bytesCells
     rw [hgc, bsA_size]
     congr 1
     apply Array.ext'
     rw [Array.toList_map, bsA_cells h1]
    have hcs : (Lib.bytesCells w e (bsA b)).size = gc := by rw [hcells]; simp; omega
    have hrun := Lib.run_convert_string_bytes (P := P) w s d e (bsA b) hs hd he
    rw [hgc, bsA_size] at hrun
    refine ⟨eup ρ s1.nx ⟨w.heap.size, 0, gc - b.length⟩, _, _, hrun, ?_, ?_, EExt.one hn⟩
    ·rw [llen_eq]
     exact sl_new (Or.inr (by omega))
    ·refine hw.add hn hw.fp.size (Lib.bytesWorld_at_new w e (bsA b)) ⟨_, _, 1, rfl, hz, rfl, ⟨?_, ?_, fun h => ?_⟩, ?_⟩ ?_ ?_
     ·show 0 + (bytesA b).length + (gc - b.length) * 1 ≤ _
      rw [hcs, bytesA_vrs (ρ := ρ).length, List.length_map]
      omega
     ·intro k _ hk
      simp only
      omega
     ·exfalso
      have h' : b.length + 1 ≤ (bytesA b).length := by rw [← llen_eq]; exact h
      rw [(bytesA_vrs (ρ := ρ)).length, List.length_map] at h'
      omega
     ·intro j v hv
      obtain ⟨x, h9, h10⟩ := (bytesA_vrs (ρ := ρ)).nth hv
      refine ⟨x, ?_, h10.up (eup_le hn)⟩
      rw [hcells, Array.getElem?_append_left (by have := (List.getElem?_eq_some_iff.1 h9).1; simpa using this)]
      simpa using h9
     ·exact hw.fp.trans (⟨rfl, rfl, rfl, by rw [Lib.bytesWorld_size]; omega, fun k hk _ => Lib.bytesWorld_at_old w e (bsA b) k hk⟩ : Fp [] w (Lib.bytesWorld w e (bsA b))) (by simp)
     ·intro i c q hc hq
      obtain ⟨q1, o1, e1, _, h11, _⟩ := hw.blk i c hc
      rw [hq] at e1
      cases e1
      have := heap_lt h11
      exact ⟨by show q.b ≠ w.heap.size; omega, Lib.bytesWorld_at_old w e (bsA b) _ this⟩
   ·exact ev_fail
 ·rename_i e i o n c hs hd
  split
  ·rename_i he
   cases ha with
   |sl _ _ _ _ c' r hr hc =>
    refine ev_calm fun s0 v s' hm => ?_
    obtain ⟨y, s1, h1, h2⟩ := ebind_ok hm
    obtain ⟨hb, rfl⟩ := ecells_ok h1
    obtain ⟨bs, s2, h3, h4⟩ := ebind_ok h2
    obtain ⟨h5, rfl⟩ := eopt_ok h3
    obtain ⟨h6, h7⟩ := ecase_ok h4
    obtain ⟨rfl, rfl⟩ := epure_ok h7
    have h8 := nbeq_t h6
    rw [llen_eq] at h8
    rw [ltake_eq, ldrop_eq] at h5
    refine ⟨rfl, rfl, fun w hw => ?_⟩
    obtain ⟨cs, f, z, hcs, -, -, -, hl⟩ := hp_cells hw hb hr
    obtain ⟨bt, h9, h10⟩ := bytesS_in_row hl h5
    have hbl := h9.length
    refine ⟨.string (bsA bt), ?_, mkS_vr h9⟩
    have hload := run_loadCells_list (P := P) w ⟨r.b, r.d + o, none⟩ (bt.map fun n : Nat => Value.int .u8 (n : Int)) (fun j v hj => by
     rw [List.getElem?_map] at hj
     cases hq : bt[j]? with
     |none => rw [hq] at hj; cases hj
     |some q =>
      rw [hq] at hj
      cases hj
      rw [add_none, cell_of_block hcs, Nat.add_assoc]
      exact h10 j q hq)
    rw [List.length_map, ← hbl, h8] at hload
    have hcv := run_bytesToString (P := P) w ⟨r.b, r.d + o, none⟩ n c' (bt.map fun n : Nat => (n : Int)) (by rw [List.map_map]; exact hload)
    rw [foldl_push] at hcv
    have he0 : ByteArray.empty ++ bsA bt = bsA bt := by
     apply ByteArray.ext
     simp
    rw [he0] at hcv
    simp only [convert, Sem.run_bind, run_un hs, run_un hd, run_un he, Result.andThen_ok, hcv]
   |sz _ _ r hr ad =>
    refine ev_calm fun s0 v s' hm => ?_
    obtain ⟨y, s1, h1, h2⟩ := ebind_ok hm
    obtain ⟨hb, rfl⟩ := ecells_ok h1
    obtain ⟨bs, s2, h3, h4⟩ := ebind_ok h2
    obtain ⟨h5, rfl⟩ := eopt_ok h3
    obtain ⟨h6, h7⟩ := ecase_ok h4
    obtain ⟨rfl, rfl⟩ := epure_ok h7
    have h8 := nbeq_t h6
    rw [llen_eq] at h8
    have h9 : bs = [] := List.length_eq_zero_iff.1 h8
    subst h9
    refine ⟨rfl, rfl, fun w _ => ⟨.string (bsA []), ?_, .st _ (by simp)⟩⟩
    have hcv := run_bytesToString (P := P) w ad 0 0 [] (by simp [loadCells, loadCellsFrom])
    simp only [convert, Sem.run_bind, run_un hs, run_un hd, run_un he, Result.andThen_ok, hcv]
    rfl
  ·exact ev_fail
 ·rename_i e hs hd
  split
  ·rename_i he
   cases ha
   exact ev_pure fun w => ⟨.string (bsA []), by simp only [convert, Sem.run_bind, run_un hs, run_un hd, run_un he, Result.andThen_ok, Conv.bytesToString]; rfl, .st _ (by simp)⟩
  ·exact ev_fail
 ·exact ev_fail
end
section
set_option linter.unusedSectionVars false
open Go.RowKit
variable [Val]
variable {P : Program} {w0 : World} {ρ : ERho}
theorem esrc_run {z m : Nat} {x : AV} {l : List AV} {s s' : ESt} (h : esrc z x s = .ok (l, m) s') {y : Value} (hx : VR ρ x y) {w : World} (hw : ERel P w0 ρ s.hp w) (hst : ∀ b, x = .st b ∨ x = .ss b → z = 1) :
  s'.hp = s.hp ∧ s'.nx = s.nx ∧ ∃ news, VRs ρ l news ∧ news.length = m * z ∧ (∀ w' : World, (Builtin.lenOf y).run P w' = .ok m w') ∧ ∀ k, k ≤ m → ∀ w' : World, w'.heap = w.heap → (Builtin.firstCells z k y).run P w' = .ok (news.take (k * z)).toArray w' := by
 cases hx with
 |sn =>
  obtain ⟨e, rfl⟩ := epure_ok h
  cases e
  exact ⟨rfl, rfl, [], .nil, by simp, fun _ => rfl, fun k hk w' _ => by
   have : k = 0 := by omega
   subst this
   simp [Builtin.firstCells]⟩
 |sl i o n c c' r hr hc =>
  obtain ⟨y, s1, h1, h2⟩ := ebind_ok h
  obtain ⟨hb, rfl⟩ := ecells_ok h1
  obtain ⟨h3, h4⟩ := ecase_ok h2
  obtain ⟨e, rfl⟩ := epure_ok h4
  cases e
  have h5 : o + m * z ≤ llen y.2.1 := nble_iff.1 h3
  rw [llen_eq] at h5
  obtain ⟨cs, f, z2, hcs, -, -, -, hl⟩ := hp_cells hw hb hr
  have hcell : ∀ j, j < m * z → ∃ u x, y.2.1[o + j]? = some u ∧ cs[r.d + (o + j)]? = some x ∧ VR ρ u x := fun j hj => by
   obtain ⟨x, hx, hv⟩ := hl (o + j) _ (List.getElem?_eq_getElem (by omega))
   exact ⟨_, x, List.getElem?_eq_getElem (by omega), hx, hv⟩
  refine ⟨rfl, rfl, (List.range (m * z)).map fun j => cs.getD (r.d + (o + j)) undef, ?_, by simp, fun _ => rfl, fun k hk w' hw' => ?_⟩
  ·rw [ltake_eq, ldrop_eq]
   refine VRs.mk (by simp; omega) fun j u x hu hx => ?_
   have hj : j < m * z := by
    have := (List.getElem?_eq_some_iff.1 hx).1
    simpa using this
   obtain ⟨u', x', h6, h7, h8⟩ := hcell j hj
   rw [List.getElem?_take, if_pos (by exact hj), List.getElem?_drop, h6] at hu
   cases hu
   rw [List.getElem?_map, List.getElem?_range hj] at hx
   simp only [Option.map_some, Option.some.injEq] at hx
   rw [Array.getD_eq_getD_getElem?, h7] at hx
   cases hx
   exact h8
  ·have hkz : k * z ≤ m * z := Nat.mul_le_mul_right _ hk
   have := run_loadCells (P := P) w' ⟨r.b, r.d + o, none⟩ (k * z) (fun j => cs.getD (r.d + (o + j)) undef) (fun j hj => by
    obtain ⟨u, x, _, hx, _⟩ := hcell j (by omega)
    rw [add_none, cell_of_block (by rw [hw']; exact hcs), Array.getD_eq_getD_getElem?, Nat.add_assoc, hx]; rfl)
   simp only [Builtin.firstCells, this]
   rw [← List.map_take, List.take_range, Nat.min_eq_left hkz]
 |sz i o r hr ad =>
  obtain ⟨y, s1, h1, h2⟩ := ebind_ok h
  obtain ⟨hb, rfl⟩ := ecells_ok h1
  obtain ⟨h3, h4⟩ := ecase_ok h2
  obtain ⟨e, rfl⟩ := epure_ok h4
  cases e
  refine ⟨rfl, rfl, [], ?_, by simp, fun _ => rfl, fun k hk w' _ => ?_⟩
  ·rw [ltake_eq, show Nat.mul 0 z = 0 from Nat.zero_mul z]
   simpa using VRs.nil
  ·have : k = 0 := by omega
   subst this
   simp [Builtin.firstCells, loadCells, loadCellsFrom]
 |st b hb =>
  have hz := hst b (Or.inl rfl)
  subst hz
  obtain ⟨e, rfl⟩ := epure_ok h
  cases e
  refine ⟨rfl, rfl, b.map fun n : Nat => Value.int .u8 (n : Int), bytesA_vrs, by simp [llen_eq], fun _ => by show Result.ok (bsA b).size _ = _; rw [bsA_size, llen_eq], fun k hk w' _ => ?_⟩
  simp only [Builtin.firstCells, Sem.run_pure, bsA_extract, Nat.mul_one, List.drop_zero, Nat.sub_zero]
  congr 1
  apply Array.ext'
  rw [Array.toList_map, bsA_cells (fun x hx => hb x (List.mem_of_mem_take hx)), List.map_take]
 |ss sy b hb =>
  have hz := hst sy (Or.inr rfl)
  subst hz
  obtain ⟨e, rfl⟩ := epure_ok h
  cases e
  have hlen := hb.length
  refine ⟨rfl, rfl, b.map fun n : Nat => Value.int .u8 (n : Int), bytesS_vrs hb, by simp [llen_eq, hlen], fun _ => by show Result.ok (bsA b).size _ = _; rw [bsA_size, llen_eq, hlen], fun k hk w' _ => ?_⟩
  simp only [Builtin.firstCells, Sem.run_pure, bsA_extract, Nat.mul_one, List.drop_zero, Nat.sub_zero]
  congr 1
  apply Array.ext'
  rw [Array.toList_map, bsA_cells (fun x hx => hb.lt x (List.mem_of_mem_take hx)), List.map_take]
 |_ => exact (efail_ok (e := [51]) (s := s) h).elim
theorem ev_appendZ {t t2 e : TypeId} {k : IntKind} {a x : AV} {ya yx : Value} {ty : TypeId} (ht : P.underlying t = some (.slice e)) (ht2 : P.underlying t2 = some (.int k)) (ha : VR ρ a ya) (hx : VR ρ x yx) :
  EV P w0 ρ (eappendZ P e a x) (Builtin.append_ #[t, t2] ty #[ya, yx]) := by
 unfold eappendZ
 split
 ·cases ha
  cases hx
  rename_i n
  intro s v s' hm w hw hf
  obtain ⟨z, s1, h1, h2⟩ := ebind_ok hm
  obtain ⟨hz, rfl⟩ := esz_ok h1
  obtain ⟨h3, h4⟩ := ecase_ok h2
  obtain ⟨h5, ti, hi, hb1, hb2⟩ := esmall_ok h3
  have hw63 : IntKind.i64.wrap (n : Int) = (n : Int) := wrap_small h5
  have hl0 : ¬ (n : Int) < 0 := by omega
  have hmul : n * ti.bytes ≤ 1000000 * 1000 := Nat.mul_le_mul (by omega) hb2
  have h48 : ¬ (281474976710656 : Int) < (n : Int) * (ti.bytes : Int) := by
   rw [← Int.natCast_mul]; omega
  have h48' : ¬ 281474976710656 < n * ti.bytes := by omega
  have h63 : ¬ (9223372036854775807 : Int) < (n : Int) := by omega
  by_cases h0 : n = 0
  ·subst h0
   obtain ⟨rfl, rfl⟩ := epure_ok (a := AV.sn) h4
   refine ⟨ρ, .slice none 0 0, w, ?_, .sn, hw, EExt.refl _ _ _⟩
   simp [Builtin.append_, run_un ht, run_un ht2, run_sz hz, asInt, asIntOf, show IntKind.i64.wrap 0 = 0 from by decide, typeInfo, hi]
  ·rw [nbeq_f h0] at h4
   obtain ⟨l, s2, h6, h7⟩ := ebind_ok h4
   obtain ⟨rfl, hzl⟩ := ezero_ok h6
   obtain ⟨h8, h9⟩ := ecase_ok h7
   have h10 := nbeq_t h8
   rw [llen_eq] at h10
   obtain ⟨i, s3, h11, h12⟩ := ebind_ok h9
   obtain ⟨rfl, rfl⟩ := epure_ok h12
   obtain ⟨rfl, h13⟩ := enew_ok h11
   have hn : ρ s2.nx = none := hf _ (Nat.le_refl _) (by rw [h13]; exact Nat.lt_succ_self _)
   obtain ⟨ti2, u, hi2, hu2, hvs⟩ := tyZero_ok hzl
   rw [hi] at hi2
   cases hi2
   have hlu : u.cells.size = z := by rw [← h10, (hvs ρ).length, Array.length_toList]
   have hrep := rep_vrs (hvs ρ) h10 n
   obtain ⟨gc, hgc⟩ : ∃ gc, grownCap w n 0 e = gc := ⟨_, rfl⟩
   have hge : n ≤ gc := by rw [← hgc]; exact grownCap_ge _ _ _ _
   have hzc : ∀ m, Builtin.zeroCells u.cells m = (Array.range (m * z)).map (u.cells[· % u.cells.size]!) := fun m => by unfold Builtin.zeroCells; rw [hlu]
   obtain ⟨-, h17, h18, h19⟩ := new_cells (w := w.drew) (c := Builtin.zeroCells u.cells n ++ Builtin.zeroCells u.cells (gc - n)) (k := gc - n) h11 hw.drew hn hz (by
    rw [hzc, hzc, hrep.length]; simp) (fun j v hv => by
     obtain ⟨x, hx1, hx2⟩ := hrep.nth hv
     refine ⟨x, ?_, hx2⟩
     rw [hzc, Array.getElem?_append_left (by have := (List.getElem?_eq_some_iff.1 hx1).1; simpa using this), ← Array.getElem?_toList]
     exact hx1)
   refine ⟨_, .slice (some ⟨w.heap.size, 0, none⟩) n gc, _, ?_, sl_new (Or.inr (by omega)), h18, h19⟩
   have hnc : Builtin.nextslicecap n 0 = n := by unfold Builtin.nextslicecap; rw [if_pos (by omega)]
   by_cases hnz : n * z = 0
   ·have hz0 : z = 0 := by
     rcases Nat.mul_eq_zero.1 hnz with h | h
     ·exact absurd h h0
     ·exact h
    have e1 : Builtin.zeroCells u.cells n = #[] := by rw [hzc, hnz]; simp [show Array.range 0 = #[] from rfl]
    rw [e1]
    simp [Builtin.append_, run_un ht, run_un ht2, run_sz hz, asInt, asIntOf, hw63, typeInfo, hi, hl0, h48, h0, h63, hnc, h48', hnz, Question.forced, newRow, zeroValue, hu2, Builtin.firstCells, ← hgc, grownCap]
   ·simp [Builtin.append_, run_un ht, run_un ht2, run_sz hz, asInt, asIntOf, hw63, typeInfo, hi, hl0, h48, h0, h63, hnc, h48', hnz, Question.forced, newRow, zeroValue, hu2, Builtin.firstCells, ← hgc, grownCap]
 ·exact ev_fail
theorem growBy_le (n : Nat) : ∀ r c, Builtin.growBy n r c ≤ max c (n + (n + 768) / 4)
 |0, c => Nat.le_max_left _ _
 |r + 1, c => by
  unfold Builtin.growBy
  split
  ·exact Nat.le_max_left _ _
  ·have := growBy_le n r (c + (c + 768) / 4)
   omega
theorem nextcap_le {n c : Nat} (h : c < n) : Builtin.nextslicecap n c ≤ 2 * n + 768 := by
 unfold Builtin.nextslicecap
 split
 ·omega
 ·split
  ·omega
  ·have := growBy_le n 4 c
   omega
theorem grow_run {t t2 e ty : TypeId} {z : Nat} {ti : TypeInfo} {u : Value} (ht : P.underlying t = some (.slice e)) (hz : tySz P e = some z) (hi : P.info? e = some ti) (hu : ti.zero = some u) (hb : ti.bytes ≤ 1000) (base : Option Addr) (n cp m : Nat) (y : Value) (olds news : List Value) (w : World)
  (hs : Src P z t2 y m news w) (hold : (Builtin.firstCells z n (.slice base n cp)).run P w.drew = .ok olds.toArray w.drew) (hg : cp < n + m) (hsm : n + m < 1000000) :
  ∃ gc rest, n + m ≤ gc ∧ rest.size = (gc - (n + m)) * u.cells.size ∧ (Builtin.append_ #[t, t2] ty #[.slice base n cp, y]).run P w = .ok (.slice (some ⟨w.heap.size, 0, none⟩) (n + m) gc) (w.drew.alloc (.cells ((olds ++ news).toArray ++ rest) e)) := by
 obtain ⟨ti2, hi2, hsz⟩ := tySz_info hz
 rw [hi] at hi2
 cases hi2
 subst hsz
 have hnc := nextcap_le hg
 have hmul : Builtin.nextslicecap (n + m) cp * ti.bytes ≤ (2 * 1000000 + 768) * 1000 := Nat.mul_le_mul (by omega) hb
 have h := run_append_grow_src (P := P) w t t2 ty e ti u ht hi hu base n cp olds hold y m news hs hg (by omega) (by omega)
 exact ⟨grownCap w (n + m) cp e, _, grownCap_ge _ _ _ _, by unfold Builtin.zeroCells; simp, h⟩
end
end Go.Proofs.YtigajcabgaddgaaGreatDoor
