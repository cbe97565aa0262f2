/-
 Every operation of the evaluator runs alike on memory that agrees where it looks. Code, functions and rounds of the evaluator run alike on memory that agrees where they look. One operation of a region, carried out: the evaluator's step and the calculus's. A region that draws its order: any order comes to what the written order comes to, where each operation is apart from those that it may change places with. A region that draws its order: the evaluator's run of it is sound.
-/
import Derived.Test.YtigajcabgaddgaaGreatDoorWEwA
import Derived.Test.YtigajcabgaddgaaGreatDoorWRegionG
set_option maxRecDepth 100000
set_option maxHeartbeats 8000000
namespace Go.Proofs.YtigajcabgaddgaaGreatDoor
section
open Go.RowKit
variable (P : Program)
theorem loc_sz (t : TypeId) : Loc (esz P t) := loc_opt _ _
theorem loc_zero (t : TypeId) : Loc (ezero P t) := loc_opt _ _
theorem loc_vc (v : AV) : Loc (evc v) := loc_case (loc_pure _)
theorem loc_part (t : TypeId) (cs : List AV) (o : Nat) : Loc (vpart P t cs o) := loc_bind (loc_opt _ _) fun _ => loc_bool (loc_opt _ _) (loc_bind (loc_opt _ _) fun _ => loc_case (loc_pure _))
theorem loc_cells (i : Nat) : Loc (ecells i) := loc_bind (loc_get _) fun b => by cases b <;> first | exact loc_pure _ | exact loc_fail _
theorem loc_load (G : Globs) (t : TypeId) (a : AV) : Loc (eload P G t a) := by
 unfold eload
 split
 ·exact loc_bind (loc_cells _) fun _ => loc_part P _ _ _
 ·repeat' first | exact loc_pure _ | exact loc_fail _ | exact loc_opt _ _ | exact loc_get _ | exact loc_set _ _ | exact loc_del _ | exact loc_new _ | assumption | exact loc_bind (loc_opt _ _) (fun _ => by assumption) | (refine loc_bind ?_ (fun _ => ?_)) | refine loc_case ?_ | refine loc_bool ?_ ?_ | split
 ·exact loc_fail _
theorem loc_put (i o : Nat) (vs : List AV) : Loc (eput i o vs) := loc_bind (loc_cells _) fun _ => loc_case (loc_set _ _)
theorem loc_store (t : TypeId) (a v : AV) : Loc (estore P t a v) := by
 unfold estore
 split
 ·exact loc_bind (loc_sz P _) fun _ => loc_bind (loc_vc _) fun _ => loc_case (loc_bind (loc_put _ _ _) fun _ => loc_pure _)
 ·exact loc_fail _
theorem loc_field (s : TypeId) (f : Nat) : Loc (efield P s f) := by unfold efield; repeat' first | exact loc_pure _ | exact loc_fail _ | exact loc_opt _ _ | exact loc_get _ | exact loc_set _ _ | exact loc_del _ | exact loc_new _ | assumption | exact loc_bind (loc_opt _ _) (fun _ => by assumption) | (refine loc_bind ?_ (fun _ => ?_)) | refine loc_case ?_ | refine loc_bool ?_ ?_ | split
theorem loc_addr (a : AV) (n : Nat) : Loc (eaddr a n) := by unfold eaddr; repeat' first | exact loc_pure _ | exact loc_fail _ | exact loc_opt _ _ | exact loc_get _ | exact loc_set _ _ | exact loc_del _ | exact loc_new _ | assumption | exact loc_bind (loc_opt _ _) (fun _ => by assumption) | (refine loc_bind ?_ (fun _ => ?_)) | refine loc_case ?_ | refine loc_bool ?_ ?_ | split
theorem loc_idx (v : AV) : Loc (eidx v) := loc_opt _ _
theorem loc_indexAddr (t : TypeId) (x i : AV) : Loc (eindexAddr P t x i) := by
 unfold eindexAddr
 split
 ·split
  ·exact loc_bind (loc_idx _) fun _ => loc_bind (loc_sz P _) fun _ => loc_case (loc_pure _)
  ·exact loc_fail _
 ·exact loc_bind (loc_idx _) fun _ => loc_bind (loc_sz P _) fun _ => loc_case (loc_addr _ _)
 ·exact loc_fail _
theorem loc_index (t : TypeId) (x i : AV) : Loc (eindex P t x i) := by
 unfold eindex
 split
 ·split
  ·exact loc_bind (loc_idx _) fun _ => loc_bind (loc_opt _ _) fun _ => loc_pure _
  ·exact loc_bind (loc_idx _) fun _ => loc_bind (loc_opt _ _) fun _ => loc_pure _
  ·exact loc_fail _
 ·split
  ·exact loc_bind (loc_idx _) fun _ => loc_bind (loc_sz P _) fun _ => loc_case (loc_part P _ _ _)
  ·exact loc_fail _
 ·exact loc_fail _
theorem loc_fill (pl : Nat → Option (Nat × Nat)) : ∀ (ps : List (Nat × AV)) (c : List AV), Loc (efill pl ps c)
 |[], _ => loc_pure _
 |_ :: ps, _ => loc_bind (loc_opt _ _) fun _ => loc_bind (loc_vc _) fun _ => loc_case (loc_fill pl ps _)
theorem loc_places : ∀ fs : List Field, Loc (eplaces P fs)
 |[] => loc_pure _
 |_ :: fs => loc_bind (loc_sz P _) fun _ => loc_bind (loc_places fs) fun _ => loc_pure _
theorem loc_build (t : TypeId) (ps : List (Nat × AV)) : Loc (ebuild P t ps) := by
 unfold ebuild
 split
 ·exact loc_bind (loc_zero P _) fun _ => loc_bind (loc_places P _) fun _ => loc_bind (loc_fill _ _ _) fun _ => loc_pure _
 ·exact loc_bind (loc_zero P _) fun _ => loc_bind (loc_sz P _) fun _ => loc_bind (loc_fill _ _ _) fun _ => loc_pure _
 ·exact loc_fail _
theorem loc_buildSlice (t : TypeId) (n : Nat) (ps : List (Nat × AV)) : Loc (ebuildSlice P t n ps) := by
 unfold ebuildSlice
 split
 ·exact loc_bind (loc_zero P _) fun _ => loc_bind (loc_sz P _) fun _ => loc_bind (loc_fill _ _ _) fun _ => loc_case (loc_bind (loc_new _) fun _ => loc_pure _)
 ·exact loc_fail _
theorem loc_makeSlice (t : TypeId) (n c : AV) : Loc (emakeSlice P t n c) := by
 unfold emakeSlice
 split
 ·exact loc_bind (loc_zero P _) fun _ => loc_bind (loc_sz P _) fun _ => loc_bind (loc_idx _) fun _ => loc_bind (loc_idx _) fun _ => loc_case (loc_bind (loc_new _) fun _ => loc_pure _)
 ·exact loc_fail _
theorem loc_bnd (x : Option AV) (d : Nat) : Loc (ebnd x d) := by
 cases x
 ·exact loc_pure _
 ·exact loc_idx _
theorem loc_slice (t : TypeId) (x : AV) (lo hi mx : Option AV) : Loc (eslice P t x lo hi mx) := by
 unfold eslice
 split
 ·split
  ·exact loc_bind (loc_bnd _ _) fun _ => loc_bind (loc_bnd _ _) fun _ => loc_case (loc_pure _)
  ·exact loc_bind (loc_bnd _ _) fun _ => loc_bind (loc_bnd _ _) fun _ => loc_case (loc_pure _)
  ·exact loc_fail _
 ·split
  ·exact loc_bind (loc_bnd _ _) fun _ => loc_bind (loc_bnd _ _) fun _ => loc_bind (loc_bnd _ _) fun _ => loc_bind (loc_sz P _) fun _ => loc_case (loc_pure _)
  ·exact loc_bind (loc_bnd _ _) fun _ => loc_bind (loc_bnd _ _) fun _ => loc_bind (loc_bnd _ _) fun _ => loc_bind (loc_sz P _) fun _ => loc_case (loc_pure _)
  ·exact loc_fail _
 ·split
  ·exact loc_bind (loc_bnd _ _) fun _ => loc_bind (loc_bnd _ _) fun _ => loc_bind (loc_bnd _ _) fun _ => loc_bind (loc_sz P _) fun _ => loc_case (loc_pure _)
  ·exact loc_fail _
 ·split
  ·exact loc_bind (loc_bnd _ _) fun _ => loc_bind (loc_bnd _ _) fun _ => loc_bind (loc_bnd _ _) fun _ => loc_bind (loc_sz P _) fun _ => loc_case (loc_pure _)
  ·exact loc_fail _
 ·exact loc_fail _
theorem loc_ibin (op : BinOp) (k : IntKind) (a b : Int) : Loc (ibin op k a b) := by unfold ibin; repeat' first | exact loc_pure _ | exact loc_fail _ | exact loc_opt _ _ | exact loc_get _ | exact loc_set _ _ | exact loc_del _ | exact loc_new _ | assumption | exact loc_bind (loc_opt _ _) (fun _ => by assumption) | (refine loc_bind ?_ (fun _ => ?_)) | refine loc_case ?_ | refine loc_bool ?_ ?_ | split
theorem loc_shift (op : BinOp) (k : IntKind) (a b : Int) : Loc (ishift op k a b) := by unfold ishift; repeat' first | exact loc_pure _ | exact loc_fail _ | exact loc_opt _ _ | exact loc_get _ | exact loc_set _ _ | exact loc_del _ | exact loc_new _ | assumption | exact loc_bind (loc_opt _ _) (fun _ => by assumption) | (refine loc_bind ?_ (fun _ => ?_)) | refine loc_case ?_ | refine loc_bool ?_ ?_ | split
theorem loc_sbin (op : BinOp) (a b : List Nat) : Loc (sbin op a b) := by unfold sbin; repeat' first | exact loc_pure _ | exact loc_fail _ | exact loc_opt _ _ | exact loc_get _ | exact loc_set _ _ | exact loc_del _ | exact loc_new _ | assumption | exact loc_bind (loc_opt _ _) (fun _ => by assumption) | (refine loc_bind ?_ (fun _ => ?_)) | refine loc_case ?_ | refine loc_bool ?_ ?_ | split
theorem loc_ssbin (op : BinOp) (a b : List Nat) : Loc (ssbin op a b) := by
 unfold ssbin
 repeat' first | exact loc_pure _ | exact loc_fail _ | exact loc_opt _ _ | refine loc_case ?_ | refine loc_bind ?_ (fun _ => ?_) | split
theorem loc_ivbin (op : BinOp) (k : IntKind) (a : Nat) (lo hi : Int) (b : Nat) (lo2 hi2 : Int) : Loc (ivbin op k a lo hi b lo2 hi2) := by
 unfold ivbin
 repeat' first | exact loc_pure _ | exact loc_fail _ | exact loc_opt _ _ | refine loc_case ?_ | refine loc_bool ?_ ?_ | refine loc_bind ?_ (fun _ => ?_) | split
theorem loc_ivshift (op : BinOp) (k : IntKind) (a : Nat) (lo hi b : Int) : Loc (ivshift op k a lo hi b) := by
 unfold ivshift
 repeat' first | exact loc_pure _ | exact loc_fail _ | refine loc_bool ?_ ?_ | split
theorem loc_feq (xs ys : List AV) : ∀ fs : List Field, Loc (efeq P xs ys fs)
 |[] => loc_pure _
 |f :: fs => loc_bind (loc_case (loc_part P _ _ _)) fun _ => loc_bind (loc_part P _ _ _) fun _ => by
  split
  ·exact loc_bind (loc_opt _ _) fun _ => loc_bool (loc_pure _) (loc_feq xs ys fs)
  ·exact loc_fail _
theorem loc_bin (kn : Bool) (op : BinOp) (t : TypeId) (x y : AV) : Loc (ebin P kn op t x y) := by
 unfold ebin
 repeat' first | exact loc_pure _ | exact loc_feq P _ _ _ | exact loc_fail _ | exact loc_ibin _ _ _ _ | exact loc_shift _ _ _ _ | exact loc_sbin _ _ _ | exact loc_ssbin _ _ _ | exact loc_ivbin _ _ _ _ _ _ _ _ | exact loc_ivshift _ _ _ _ _ _ | exact loc_opt _ _ | refine loc_case ?_ | refine loc_bool ?_ ?_ | refine loc_bind ?_ (fun _ => ?_) | split
theorem loc_un (op : UnOp) (x : AV) : Loc (eun op x) := by unfold eun; repeat' first | exact loc_pure _ | exact loc_fail _ | exact loc_opt _ _ | exact loc_get _ | exact loc_set _ _ | exact loc_del _ | exact loc_new _ | assumption | exact loc_bind (loc_opt _ _) (fun _ => by assumption) | (refine loc_bind ?_ (fun _ => ?_)) | refine loc_case ?_ | refine loc_bool ?_ ?_ | split
theorem loc_conv (s d : TypeId) (x : AV) : Loc (econv P s d x) := by
 unfold econv
 repeat' first | exact loc_pure _ | exact loc_fail _ | exact loc_cells _ | exact loc_new _ | exact loc_sz P _ | exact loc_opt _ _ | refine loc_case ?_ | refine loc_bool ?_ ?_ | refine loc_bind ?_ (fun _ => ?_) | split
theorem loc_src (z : Nat) (x : AV) : Loc (esrc z x) := by
 unfold esrc
 repeat' first | exact loc_pure _ | exact loc_fail _ | exact loc_cells _ | refine loc_case ?_ | refine loc_bind ?_ (fun _ => ?_) | split
theorem loc_appendZ (e : TypeId) (s x : AV) : Loc (eappendZ P e s x) := by
 unfold eappendZ
 repeat' first | exact loc_pure _ | exact loc_fail _ | exact loc_sz P _ | exact loc_zero P _ | exact loc_new _ | refine loc_case ?_ | refine loc_bool ?_ ?_ | refine loc_bind ?_ (fun _ => ?_) | split
theorem loc_appendC (e : TypeId) (z : Nat) (s : AV) (c : List AV × Nat) : Loc (eappendC P e z s c) := by
 unfold eappendC
 repeat' first | exact loc_pure _ | exact loc_fail _ | exact loc_cells _ | exact loc_put _ _ _ | exact loc_new _ | exact loc_del _ | refine loc_case ?_ | refine loc_bool ?_ ?_ | refine loc_bind ?_ (fun _ => ?_) | split
theorem loc_append (t t2 : TypeId) (s x : AV) : Loc (eappend P t t2 s x) := by
 unfold eappend
 repeat' first | exact loc_fail _ | exact loc_appendZ P _ _ _ | exact loc_sz P _ | exact loc_src _ _ | exact loc_appendC P _ _ _ _ | refine loc_case ?_ | refine loc_bind ?_ (fun _ => ?_) | split
theorem loc_copy (t : TypeId) (d s : AV) : Loc (ecopy P t d s) := by
 unfold ecopy
 repeat' first | exact loc_pure _ | exact loc_fail _ | exact loc_sz P _ | exact loc_src _ _ | exact loc_put _ _ _ | refine loc_case ?_ | refine loc_bind ?_ (fun _ => ?_) | split
theorem loc_map (i : Nat) : Loc (emap i) := loc_bind (loc_get _) fun b => by cases b <;> first | exact loc_pure _ | exact loc_fail _
theorem loc_len (t : TypeId) (x : AV) : Loc (elen P t x) := by
 unfold elen
 repeat' first | exact loc_pure _ | exact loc_fail _ | exact loc_map _ | refine loc_bind ?_ (fun _ => ?_) | split
theorem loc_cap (t : TypeId) (x : AV) : Loc (ecap P t x) := by unfold ecap; repeat' first | exact loc_pure _ | exact loc_fail _ | exact loc_opt _ _ | exact loc_get _ | exact loc_set _ _ | exact loc_del _ | exact loc_new _ | assumption | exact loc_bind (loc_opt _ _) (fun _ => by assumption) | (refine loc_bind ?_ (fun _ => ?_)) | refine loc_case ?_ | refine loc_bool ?_ ?_ | split
theorem loc_minmax (mx : Bool) (l : List AV) : Loc (eminmax mx l) := by unfold eminmax; repeat' first | exact loc_pure _ | exact loc_fail _ | exact loc_opt _ _ | exact loc_get _ | exact loc_set _ _ | exact loc_del _ | exact loc_new _ | assumption | exact loc_bind (loc_opt _ _) (fun _ => by assumption) | (refine loc_bind ?_ (fun _ => ?_)) | refine loc_case ?_ | refine loc_bool ?_ ?_ | split
theorem loc_vzero (t : TypeId) : Loc (vzero P t) := loc_opt _ _
theorem loc_keyed (t : TypeId) (k : AV) (es : List (AV × AV × Nat)) : Loc (ekeyed P t k es) := by unfold ekeyed; repeat' first | exact loc_pure _ | exact loc_fail _ | exact loc_opt _ _ | exact loc_get _ | exact loc_set _ _ | exact loc_del _ | exact loc_new _ | assumption | exact loc_bind (loc_opt _ _) (fun _ => by assumption) | (refine loc_bind ?_ (fun _ => ?_)) | refine loc_case ?_ | refine loc_bool ?_ ?_ | split
theorem loc_look (es : List (AV × AV × Nat)) (kt e : TypeId) (k : AV) (ok : Bool) : Loc (elook P es kt e k ok) := by
 unfold elook
 repeat' first | exact loc_pure _ | exact loc_keyed P _ _ _ | exact loc_vzero P _ | refine loc_bind ?_ (fun _ => ?_) | split
theorem loc_lookup (t : TypeId) (m k : AV) (ok : Bool) : Loc (elookup P t m k ok) := by
 unfold elookup
 repeat' first | exact loc_fail _ | exact loc_look P _ _ _ _ _ | exact loc_map _ | refine loc_bind ?_ (fun _ => ?_) | split
theorem loc_mapUpdate (t : TypeId) (m k v : AV) : Loc (emapUpdate P t m k v) := by
 unfold emapUpdate
 repeat' first | exact loc_pure _ | exact loc_fail _ | exact loc_keyed P _ _ _ | exact loc_map _ | exact loc_set _ _ | refine loc_bind ?_ (fun _ => ?_) | split
theorem loc_mapEntry (t : TypeId) (m k : AV) : Loc (emapEntry P t m k) := by
 unfold emapEntry
 repeat' first | exact loc_pure _ | exact loc_fail _ | exact loc_keyed P _ _ _ | exact loc_map _ | exact loc_set _ _ | exact loc_vzero P _ | refine loc_bind ?_ (fun _ => ?_) | split
theorem loc_entryStore (m s v : AV) : Loc (eentryStore m s v) := by
 unfold eentryStore
 repeat' first | exact loc_pure _ | exact loc_fail _ | exact loc_idx _ | exact loc_map _ | exact loc_set _ _ | exact loc_opt _ _ | refine loc_bind ?_ (fun _ => ?_) | split
theorem loc_delete (t : TypeId) (m k : AV) : Loc (edelete P t m k) := by
 unfold edelete
 repeat' first | exact loc_pure _ | exact loc_fail _ | exact loc_keyed P _ _ _ | exact loc_map _ | exact loc_set _ _ | refine loc_bind ?_ (fun _ => ?_) | split
theorem loc_range (t : TypeId) (x : AV) : Loc (erange P t x) := by unfold erange; repeat' first | exact loc_pure _ | exact loc_fail _ | exact loc_opt _ _ | exact loc_get _ | exact loc_set _ _ | exact loc_del _ | exact loc_new _ | assumption | exact loc_bind (loc_opt _ _) (fun _ => by assumption) | (refine loc_bind ?_ (fun _ => ?_)) | refine loc_case ?_ | refine loc_bool ?_ ?_ | split
theorem loc_next (it : AV) (str : Bool) : Loc (enext it str) := by unfold enext; repeat' first | exact loc_pure _ | exact loc_fail _ | exact loc_opt _ _ | exact loc_get _ | exact loc_set _ _ | exact loc_del _ | exact loc_new _ | assumption | exact loc_bind (loc_opt _ _) (fun _ => by assumption) | (refine loc_bind ?_ (fun _ => ?_)) | refine loc_case ?_ | refine loc_bool ?_ ?_ | split
theorem loc_assert (x : AV) (a : TypeId) (ok : Bool) : Loc (eassert P x a ok) := by
 unfold eassert
 repeat' first | exact loc_pure _ | exact loc_fail _ | exact loc_vzero P _ | exact loc_opt _ _ | refine loc_case ?_ | refine loc_bool ?_ ?_ | refine loc_bind ?_ (fun _ => ?_) | split
theorem loc_nil (x : AV) : Loc (enil x) := by unfold enil; repeat' first | exact loc_pure _ | exact loc_fail _ | exact loc_opt _ _ | exact loc_get _ | exact loc_set _ _ | exact loc_del _ | exact loc_new _ | assumption | exact loc_bind (loc_opt _ _) (fun _ => by assumption) | (refine loc_bind ?_ (fun _ => ?_)) | refine loc_case ?_ | refine loc_bool ?_ ?_ | split
theorem loc_unsafeBytes (e : TypeId) (i n : Nat) : Loc (eunsafeBytes P e i n) := by
 unfold eunsafeBytes
 repeat' first | exact loc_pure _ | exact loc_sz P _ | exact loc_cells _ | exact loc_set _ _ | exact loc_opt _ _ | refine loc_case ?_ | refine loc_bool ?_ ?_ | refine loc_bind ?_ (fun _ => ?_)
theorem loc_unsafeString (t : TypeId) (p n : AV) : Loc (eunsafeString P t p n) := by
 unfold eunsafeString
 repeat' first | exact loc_pure _ | exact loc_fail _ | exact loc_unsafeBytes P _ _ _ | refine loc_case ?_ | split
structure RLoc (R : ERec) : Prop where
 fn : ∀ f l, Loc (R.fn f l)
 rn : ∀ i l, Loc (R.rn i l)
 df : ∀ f l, Loc (R.df f l)
variable {R : ERec} (hR : RLoc R)
include hR
theorem loc_call (tm : ET AV) (c : Call) (t : TypeId) : Loc (ecall P R tm c t) := by
 unfold ecall
 split
 ·split
  ·exact hR.fn _ _
  ·exact hR.rn _ _
  ·exact loc_fail _
 ·exact loc_fail _
 ·repeat' first | exact loc_fail _ | exact loc_append P _ _ _ _ | exact loc_copy P _ _ _ | exact loc_len P _ _ | exact loc_cap P _ _ | exact loc_minmax _ _ | exact loc_delete P _ _ _ | exact loc_unsafeString P _ _ _ | exact loc_pure _ | refine loc_bool ?_ ?_ | split
theorem loc_op (G : Globs) (tm : ET AV) (o : Oper) : Loc (evOp P G R tm o) := by
 unfold evOp
 split <;> first
  |exact loc_pure _ | exact loc_fail _ | exact loc_load P G _ _ | exact loc_store P _ _ _ | exact loc_nil _ | exact loc_bin P _ _ _ _ _ | exact loc_un _ _ | exact loc_conv P _ _ _ | exact loc_build P _ _ | exact loc_buildSlice P _ _ _
  |exact loc_makeSlice P _ _ _ | exact loc_case (loc_slice P _ _ _ _ _) | exact loc_indexAddr P _ _ _ | exact loc_index P _ _ _ | exact loc_lookup P _ _ _ _ | exact loc_mapUpdate P _ _ _ _ | exact loc_mapEntry P _ _ _
  |exact loc_entryStore _ _ _ | exact loc_range P _ _ | exact loc_next _ _ | exact loc_assert P _ _ _ | exact loc_call P hR _ _ _
  |exact loc_bind (loc_field P _ _) fun _ => loc_bind (loc_sz P _) fun _ => loc_case (loc_addr _ _)
  |(repeat' first | exact loc_pure _ | exact loc_fail _ | exact loc_sz P _ | exact loc_zero P _ | exact loc_vc _ | exact loc_new _ | exact loc_field P _ _ | exact loc_part P _ _ _ | exact loc_opt _ _ | refine loc_bind ?_ (fun _ => ?_) | split)
theorem loc_step (G : Globs) (N : Nat) (l : List Oper) (tm : ET AV) (o : Oper) : Loc (estep P G R N l tm o) := by
 have hp : ∀ v, Loc (eput1 N tm o.dst v) := fun v => by
  unfold eput1
  split
  ·exact loc_pure _
  ·exact loc_bool (loc_fail _) (loc_pure _)
 unfold estep
 cases ewant l tm o with
 |none => exact loc_fail _
 |some g => exact loc_bool (hp _) (loc_bind (loc_op P hR G tm o) fun _ => hp _)
end
section
open Go.RowKit
variable (P : Program) {R : ERec}
theorem loc_jump (r : ERun) (j : Option (Option Nat)) : Loc (ejump r j) := by
 unfold ejump
 split <;> exact loc_pure _
section
variable (hR : RLoc R) (G : Globs) (N : Nat) (l : List Oper)
include hR
theorem loc_ops : ∀ (r : List Oper) (tm : ET AV), Loc (eops P G R N l r tm)
 |[], _ => loc_pure _
 |o :: r, tm => loc_bind (loc_step P hR G N l tm o) fun tm' => loc_ops r tm'
theorem loc_draws (bs : List Nat) : ∀ (r : List Oper) (i : Nat) (ms : List (Nat × Nat)) (tm : ET AV), Loc (edraws P G R N l bs r i ms tm)
 |[], _, _, _ => loc_pure _
 |o :: r, i, ms, tm => by
  have h := loc_own (f := fun (tm' : ET AV) (s' : ESt) => (Bool.rec (efail [90, i]) (edraws P G R N l bs r (Nat.succ i) (lapp ms [(s'.rd, s'.wr)]) tm') (eapart (Option.rec 0 (fun x => x) (lnth bs i)) s'.rd s'.wr ms) : EM (ET AV)))
   (loc_step P hR G N l tm o) (fun _ _ => loc_bool (loc_fail _) (loc_draws bs r _ _ _)) (fun a s t h1 h2 h3 => by simp only [h2, h3])
  exact h
theorem loc_draw (tm : ET AV) : Loc (edraw P G R N l tm) := loc_bool (loc_fail _) (loc_draws P hR G N l _ _ _ _ _)
end
theorem loc_defer (tm : ET AV) (c : Call) : Loc (edefer tm c) := by
 unfold edefer
 repeat' first | exact loc_pure _ | exact loc_fail _ | split
theorem loc_put1 (N : Nat) (tm : ET AV) (d : Option Tmp) (v : AV) : Loc (eput1 N tm d v) := by
 unfold eput1
 split
 ·exact loc_pure _
 ·exact loc_bool (loc_fail _) (loc_pure _)
section
variable (hR : RLoc R) (G : Globs) (N : Nat) (l : List Oper)
include hR
theorem loc_stepD (tm : ET AV) (mk : List AV) (o : Oper) : Loc (estepD P G R N l tm mk o) := by
 unfold estepD
 split
 ·split
  ·exact loc_bind (loc_defer _ _) fun _ => loc_bind (loc_put1 N _ _ _) fun _ => loc_pure _
  ·exact loc_fail _
 ·exact loc_bind (loc_step P hR G N l tm o) fun _ => loc_pure _
theorem loc_opsD : ∀ (r : List Oper) (tm : ET AV) (mk : List AV), Loc (eopsD P G R N l r tm mk)
 |[], _, _ => loc_pure _
 |o :: r, tm, mk => loc_bind (loc_stepD P hR G N l tm mk o) fun _ => loc_opsD r _ _
theorem loc_region (inr draw : Bool) (tm : ET AV) (mk : List AV) : Loc (eregion P G R N inr draw l tm mk) :=
 loc_bool (loc_bool (loc_bind (loc_ops P hR G N l _ _) fun _ => loc_pure _) (loc_bind (loc_opsD P hR G N l _ _ _) fun _ => loc_pure _)) (loc_bind (loc_draw P hR G N l _) fun _ => loc_pure _)
end
theorem loc_loop {body : ET AV → List AV → EM ERun} (hb : ∀ tm mk, Loc (body tm mk)) : ∀ (n : Nat) (tm : ET AV) (mk : List AV), Loc (eloop body n tm mk)
 |0, _, _ => loc_fail _
 |n + 1, tm, mk => loc_bind (hb tm mk) fun r => by
  split
  ·exact loc_loop hb n _ _
  ·exact loc_pure _
section
variable (hR : RLoc R) (G : Globs) (f N : Nat) (inr : Bool)
include hR
theorem loc_rangeFunc (g : Operand) (ps : List Tmp) (assign body : Code) (tm : ET AV) (mk : List AV) : Loc (erangeFunc R f N inr g ps assign body tm mk) := by
 unfold erangeFunc
 refine loc_bool ?_ (loc_fail _)
 split
 ·refine loc_case (loc_bind (loc_new _) fun _ => loc_bind (loc_new _) fun _ => loc_bind (hR.fn _ _) fun _ => loc_bind (loc_get _) fun b => ?_)
  split
  ·exact loc_bool (loc_bind (loc_set _ _) fun _ => loc_jump _ _) (loc_fail _)
  ·exact loc_fail _
 ·exact loc_fail _
theorem loc_code' (c : Code) : ∀ (tm : ET AV) (mk : List AV), Loc (evCode P G R f N inr c tm mk) := by
 induction c with
 |skip => exact fun _ _ => loc_pure _
 |region id ops draw => exact fun tm mk => loc_region P hR G N _ _ _ _ _
 |seq a b iha ihb =>
  intro tm mk
  refine loc_bind (iha tm mk) fun r => ?_
  split
  ·exact ihb _ _
  ·exact loc_pure _
 |cond c a b iha ihb =>
  intro tm mk
  show Loc (match evO tm c with
   |.bo t => Bool.rec (evCode P G R f N inr b tm mk) (evCode P G R f N inr a tm mk) t
   |_ => efail [94])
  split
  ·exact loc_bool (ihb _ _) (iha _ _)
  ·exact loc_fail _
 |block id c ih =>
  intro tm mk
  refine loc_bind (ih tm mk) fun r => ?_
  split
  ·exact loc_bool (loc_pure _) (loc_pure _)
  ·exact loc_pure _
 |loop c ih => exact fun tm mk => loc_loop ih 100000 tm mk
 |rangeFunc g ps a b _ _ => exact fun tm mk => loc_rangeFunc hR f N inr _ _ _ _ _ _
 |_ => first | exact fun _ _ => loc_pure _ | exact fun _ _ => loc_fail _
end
theorem loc_marks (hR : RLoc R) : ∀ l : List AV, Loc (emarks R l)
 |[] => loc_pure _
 |x :: l => by
  show Loc (match x with
   |.yl d => ebind (eget d) fun
    |.df => ebind (eset d .dn) fun _ => emarks R l
    |_ => efail [99]
   |.fn k a y => ebind (R.df k (lapp a y)) fun _ => emarks R l
   |_ => efail [99])
  split
  ·refine loc_bind (loc_get _) fun b => ?_
   cases b <;> first | exact loc_fail _ | exact loc_bind (loc_set _ _) fun _ => loc_marks hR l
  ·exact loc_bind (hR.df _ _) fun _ => loc_marks hR l
  ·exact loc_fail _
theorem loc_results (G : Globs) (tm : ET AV) : ∀ rs : List ResultVar, Loc (eresults P G rs tm)
 |[] => loc_pure _
 |r :: rs => by
  refine loc_bind ?_ fun _ => loc_bind (loc_results G tm rs) fun _ => loc_pure _
  split
  ·exact loc_pure _
  ·exact loc_load P G _ _
def ILoc (I : Intr) : Prop := ∀ f g, I f = some g → ∀ l, Loc (g l)
theorem loc_fun (hR : RLoc R) (G : Globs) {I : Intr} (hI : ILoc I) (f : FuncId) (args : List AV) : Loc (evFun P G R I f args) := by
 unfold evFun
 split
 ·rename_i g hg
  exact hI f g hg _
 ·split
  ·split
   ·refine loc_bool (loc_fail _) (loc_bind (loc_code' P hR G _ _ _ _ _ _) fun r => ?_)
    split
    ·exact loc_fail _
    ·exact loc_bind (loc_marks hR _) fun _ => loc_bind (loc_results P G _ _) fun _ => loc_pure _
   ·exact loc_fail _
  ·exact loc_fail _
theorem loc_def (hR : RLoc R) (G : Globs) (f : FuncId) (args : List AV) : Loc (evDef P G R f args) := by
 unfold evDef
 split
 ·split
  ·refine loc_bool (loc_fail _) (loc_bind (loc_code' P hR G _ _ _ _ _ _) fun r => ?_)
   split
   ·exact loc_bind (loc_results P G _ _) fun _ => loc_pure _
   ·exact loc_bind (loc_results P G _ _) fun _ => loc_pure _
   ·exact loc_fail _
  ·exact loc_fail _
 ·exact loc_fail _
theorem loc_pars (N : Nat) (ps : List Tmp) (args : List AV) (tm : ET AV) : Loc (epars N ps args tm) := by
 unfold epars
 split <;> first | exact loc_pure _ | exact loc_fail _ | exact loc_case (loc_pure _)
theorem loc_round (hR : RLoc R) (G : Globs) (l : Nat) (args : List AV) : Loc (evRound P G R l args) := by
 unfold evRound
 refine loc_bind (loc_get _) fun b => ?_
 split
 ·refine loc_bool (loc_fail _) (loc_bind (loc_pars _ _ _ _) fun _ => loc_bind (loc_code' P hR G _ _ _ _ _ _) fun _ => ?_)
  split
  ·refine loc_bind (loc_get _) fun b2 => ?_
   split
   ·refine loc_bind (loc_set _ _) fun _ => loc_bind (loc_code' P hR G _ _ _ _ _ _) fun _ => loc_bind (loc_get _) fun b3 => ?_
    split
    ·split <;> exact loc_bind (loc_set _ _) fun _ => loc_pure _
    ·exact loc_fail _
   ·exact loc_fail _
  ·exact loc_fail _
 ·exact loc_fail _
theorem loc_D (G : Globs) {I : Intr} (hI : ILoc I) : ∀ d, RLoc (evD P G I d)
 |0 => ⟨fun _ _ => loc_fail _, fun _ _ => loc_fail _, fun _ _ => loc_fail _⟩
 |d + 1 => ⟨fun f l => loc_code f (loc_fun P (loc_D G hI d) G hI f l), fun i l => loc_round P (loc_D G hI d) G i l, fun f l => loc_def P (loc_D G hI d) G f l⟩
end
section
set_option linter.unusedSectionVars false
open Go.RowKit
variable [Val]
variable {P : Program} {w0 : World} {ρ : ERho}
theorem lmap_same {α β : Type} {f g : α → β} : ∀ {l : List α}, (∀ x ∈ l, f x = g x) → lmap f l = lmap g l
 |[], _ => rfl
 |a :: l, h => by
  rw [lmap_eq, lmap_eq]
  exact List.map_congr_left h
theorem map_same {α β : Type} {f g : α → β} {x : Option α} (h : ∀ y, x = some y → f y = g y) : x.map f = x.map g := by
 cases x with
 |none => rfl
 |some y => exact congrArg some (h y rfl)
theorem evOp_same {G : Globs} {R : ERec} {tm tm' : ET AV} {o : Oper} (h : ∀ x ∈ o.op.operands, evO tm x = evO tm' x) : evOp P G R tm o = evOp P G R tm' o := by
 have ps : ∀ qs : Array (Nat × Operand), (∀ x ∈ qs.map (·.2), evO tm x = evO tm' x) → lmap (fun p => (p.1, evO tm p.2)) qs.toList = lmap (fun p => (p.1, evO tm' p.2)) qs.toList := fun qs hq =>
  lmap_same fun p hp => by rw [hq p.2 (Array.mem_map.2 ⟨p, by simpa using hp, rfl⟩)]
 have asg : ∀ xs : Array Operand, (∀ x ∈ xs, evO tm x = evO tm' x) → lmap (evO tm) xs.toList = lmap (evO tm') xs.toList := fun xs hx => lmap_same fun x hx' => hx x (by simpa using hx')
 unfold evOp
 obtain ⟨dst, op, type, pos, after, guard⟩ := o
 cases op <;> simp only [Op.operands] at h <;> try simp only
 case build t qs => rw [ps qs fun x hx => h x (by simpa using hx)]
 case buildSlice t n qs => rw [ps qs fun x hx => h x (by simpa using hx)]
 case makeFunc fn x y =>
  cases fn <;> try rfl
  simp only
  rw [asg x fun z hz => h z (by simp [hz]), asg y fun z hz => h z (by simp [hz])]
 case call c =>
  have hargs : ∀ x ∈ c.args, evO tm x = evO tm' x := fun x hx => h x (by
   cases hc : c.callee <;> simp [Call.operands, hc, hx])
  unfold ecall
  rw [asg c.args hargs]
  cases hc : c.callee with
  |value f => simp only; rw [h f (by simp [Call.operands, hc])]
  |_ => rfl
 case slice t x lo hi mx =>
  rw [h x (by simp), map_same (f := evO tm) (g := evO tm') (x := lo) fun y hy => h y (by simp [hy]), map_same (f := evO tm) (g := evO tm') (x := hi) fun y hy => h y (by simp [hy]), map_same (f := evO tm) (g := evO tm') (x := mx) fun y hy => h y (by simp [hy])]
 all_goals (first | rfl | (simp_all; done))
def Fen (F : Fence) : Prop := F = Fence.wide ∨ ∃ l, F = Fence.wide.inRound l
theorem Fen.fn {F : Fence} (h : Fen F) (f : FuncId) : F.fn f := by rcases h with rfl | ⟨l, rfl⟩ <;> trivial
theorem Fen.depth {F : Fence} (h : Fen F) (n : Nat) : F.depth.isSome = true → 1 ≤ n := by rcases h with rfl | ⟨l, rfl⟩ <;> (intro e; cases e)
theorem Fen.calls {F : Fence} (h : Fen F) {n : Nat} {f : FuncId} {args : Array Value} {w : World} {K : Ending → World → Prop} (hc : CallsIn Fence.wide n P f args w K) : CallsIn F n P f args w K := by
 rcases h with rfl | ⟨l, rfl⟩
 ·exact hc
 ·exact CallsIn.inRound l hc
theorem Fen.round {F : Fence} (h : Fen F) {n : Nat} {l : Nat} {f : FuncId} {ts : Array Value} {asg bo : Code} {w : World} {K : Ending → World → Prop} (hc : RoundIn Fence.wide n P l f ts asg bo w K) : RoundIn F n P l f ts asg bo w K := by
 rcases h with rfl | ⟨l, rfl⟩
 ·exact hc
 ·exact hc
theorem upon_of {F : Fence} (hF : Fen F) {n : Nat} {o : Oper} {a : Act} {next : Act → World → Prop} {Q : Exit → Act → World → Prop} {K : Value → World → Prop} (hK : ∀ x w, K x w → next (a.put o.dst x) w) :
  ∀ {r : Result Next}, NX P K r → o.uponIn F n P a next Q r
 |.ok (.value v) w, h => hK v w h
 |.ok .skip w, h => hK undef w h
 |.ok (.enter f args) w, h => ⟨hF.depth n, (hF.calls (h (n - 1))).mono fun e w' ⟨v, he, hk⟩ => by subst he; exact hK v w' hk⟩
 |.ok (.round l f ts asg bo) w, h => ⟨hF.depth n, (hF.round (h (n - 1))).mono fun e w' ⟨v, he, hk⟩ => by subst he; exact hK v w' hk⟩
theorem op_defer {G : Globs} {R : ERec} {tm : ET AV} {o : Oper} {s s' : ESt} {v : AV} (h : evOp P G R tm o s = .ok v s') : ∀ c, o.op ≠ .defer c := fun c e => by
 unfold evOp at h
 rw [e] at h
 exact (efail_ok (e := [87]) (s := s) h).elim
noncomputable def eputT (tm : ET AV) (d : Option Tmp) (v : AV) : ET AV := match d with
 |none => tm
 |some d => tm.set (d + 1) v
theorem eput1_ok {N : Nat} {tm tm' : ET AV} {d : Option Tmp} {v : AV} {s s' : ESt} (h : eput1 N tm d v s = .ok tm' s') : s' = s ∧ tm' = eputT tm d v ∧ ∀ e, d = some e → e < N := by
 cases d with
 |none =>
  obtain ⟨rfl, rfl⟩ := epure_ok h
  exact ⟨rfl, rfl, fun _ e => by cases e⟩
 |some d =>
  unfold eput1 at h
  simp only at h
  cases hb : Nat.blt d N with
  |false => rw [hb] at h; exact (efail_ok (e := [88]) (s := s) h).elim
  |true =>
   rw [hb] at h
   obtain ⟨rfl, rfl⟩ := epure_ok (s := s) h
   exact ⟨rfl, rfl, fun e he => by cases he; exact nblt_iff.1 hb⟩
theorem eput1_run {N : Nat} {d : Option Tmp} (h : ∀ e, d = some e → e < N) (tm : ET AV) (v : AV) (s : ESt) : eput1 N tm d v s = .ok (eputT tm d v) s := by
 cases d with
 |none => rfl
 |some d =>
  unfold eput1
  simp only
  rw [nblt_iff.2 (h d rfl)]
  rfl
theorem TR.putT {tm : ET AV} {a : Act} (h : TR ρ tm a.tmps) {d : Option Tmp} {N : Nat} (hN : a.tmps.size = N) (hd : ∀ e, d = some e → e < N) {v : AV} {x : Value} (hv : VR ρ v x) : TR ρ (eputT tm d v) (a.put d x).tmps := by
 cases d with
 |none => exact h
 |some d => exact h.put (by rw [hN]; exact hd d rfl) hv
theorem want_ok {l : List Oper} {tm : ET AV} {o : Oper} {g : Bool} (h : ewant l tm o = some g) {a : Act} (ht : TR ρ tm a.tmps) : Region.wanted o (yielded l.toArray a.tmps) = g := by
 unfold ewant at h
 unfold Region.wanted yielded
 cases hg : o.guard with
 |none => rw [hg] at h; cases h; rfl
 |some jb =>
  obtain ⟨j, b⟩ := jb
  rw [hg] at h
  simp only at h ⊢
  rw [List.getElem?_toArray]
  cases hj : l[j]? with
  |none => rw [hj] at h; cases h; rfl
  |some oj =>
   rw [hj] at h
   simp only [Option.bind_some] at h ⊢
   cases hd : oj.dst with
   |none => rw [hd] at h; cases h; rfl
   |some d =>
    rw [hd] at h
    simp only [Option.bind_some] at h ⊢
    have hv := ht d
    obtain ⟨v, hvv⟩ : ∃ v, tmGet tm d = v := ⟨_, rfl⟩
    rw [hvv] at h hv
    rw [Array.getD_eq_getD_getElem?] at hv
    cases hx : a.tmps[d]? with
    |none =>
     rw [hx] at hv
     cases hv <;> first | (cases h; rfl) | (cases h; done)
    |some y =>
     rw [hx] at hv
     simp only [Option.getD_some] at hv
     cases hv <;> first | (cases h; rfl) | (cases h; done) | (rename_i c; cases c <;> cases b <;> cases h <;> rfl)
theorem step_parts {G : Globs} {R : ERec} {N : Nat} {l : List Oper} {tm tm' : ET AV} {o : Oper} {s s' : ESt} (h : estep P G R N l tm o s = .ok tm' s') : (∀ e, o.dst = some e → e < N) ∧ ∃ g v, ewant l tm o = some g ∧ tm' = eputT tm o.dst v ∧
  if g = true then evOp P G R tm o s = .ok v s' else v = .un ∧ s' = s := by
 unfold estep at h
 cases hg : ewant l tm o with
 |none => rw [hg] at h; exact (efail_ok (e := [109]) (s := s) h).elim
 |some g =>
  rw [hg] at h
  cases g with
  |false =>
   obtain ⟨rfl, rfl, hd⟩ := eput1_ok (s := s) h
   exact ⟨hd, false, .un, rfl, rfl, by simp⟩
  |true =>
   obtain ⟨v, s1, h1, h2⟩ := ebind_ok (s := s) h
   obtain ⟨rfl, rfl, hd⟩ := eput1_ok h2
   exact ⟨hd, true, v, rfl, rfl, by simpa using h1⟩
theorem step_same {G : Globs} {R : ERec} {N : Nat} {l : List Oper} {tm tm' tD : ET AV} {o : Oper} {s s' : ESt} (h : estep P G R N l tm o s = .ok tm' s') (hx : ∀ x ∈ o.op.operands, evO tm x = evO tD x) (hg : ewant l tm o = ewant l tD o) :
  (∀ e, o.dst = some e → e < N) ∧ ∃ v, tm' = eputT tm o.dst v ∧ estep P G R N l tD o s = .ok (eputT tD o.dst v) s' := by
 obtain ⟨hd, g, v, h1, h2, h3⟩ := step_parts h
 refine ⟨hd, v, h2, ?_⟩
 unfold estep
 rw [← hg, h1]
 cases g with
 |false =>
  obtain ⟨rfl, rfl⟩ : v = .un ∧ s' = s := by simpa using h3
  exact eput1_run hd _ _ _
 |true =>
  have h4 : evOp P G R tm o s = .ok v s' := by simpa using h3
  rw [evOp_same hx] at h4
  show ebind (evOp P G R tD o) (fun v => eput1 N tD o.dst v) s = _
  unfold ebind
  rw [h4]
  exact eput1_run hd _ _ _
theorem step_ok {R : ERec} (hR : RSound P w0 R) {G : Globs} (hG : GlobR w0 G) {F : Fence} (hF : Fen F) {n N : Nat} {l : List Oper} {i : Nat} {o : Oper} (hi : l[i]? = some o) {tm tm' : ET AV} {s s' : ESt} (h : estep P G R N l tm o s = .ok tm' s')
  {a : Act} (ht : TR ρ tm a.tmps) (hn : a.tmps.size = N) {w : World} (hw : ERel P w0 ρ s.hp w) (hf : ∀ j, s.nx ≤ j → j < s'.nx → ρ j = none) {K : Act → World → Prop} {Q : Exit → Act → World → Prop}
  (hK : ∀ σ x w', EExt ρ σ s.nx s'.nx → ERel P w0 σ s'.hp w' → TR σ tm' (a.put o.dst x).tmps → K (a.put o.dst x) w') : wpOpIn F n P l.toArray Q i K a w := by
 obtain ⟨hd, g, v, h1, rfl, h3⟩ := step_parts h
 unfold wpOpIn
 rw [List.getElem?_toArray, hi]
 simp only
 rw [want_ok h1 ht]
 cases g with
 |false =>
  obtain ⟨rfl, rfl⟩ : v = .un ∧ s' = s := by simpa using h3
  exact ⟨fun f _ => hF.fn f, hK ρ undef w (EExt.refl _ _ _) hw (ht.putT hn hd .un)⟩
 |true =>
  have h4 : evOp P G R tm o s = .ok v s' := by simpa using h3
  refine ⟨fun f _ => hF.fn f, ?_⟩
  rw [Oper.semAt_eq _ _ _ (op_defer h4)]
  refine upon_of hF (K := KOK P w0 ρ v s s') (fun x w' hk => ?_) (op_next hR hG ht o s v s' h4 w hw hf)
  obtain ⟨σ, hv, hw', he⟩ := hk
  exact hK σ x w' he hw' ((ht.up he.1).putT hn hd hv)
end
section
open Go.RowKit
section
variable {P : Program} {l : List Oper}
theorem any_sched {F : Fence} {n N : Nat} {Q : Exit → Act → World → Prop} (hform : relForm l N = true) (Inv : Array Bool → Act → World → Prop)
  (hstep : ∀ (listed : Array Bool) (a : Act) (w : World) (i : Nat) (o : Oper), listed.size = l.length → Inv listed a w → l[i]? = some o → listed.getD i false = false → (∀ e ∈ o.after, Region.binds .any e = true → listed.getD e.on false = true) →
   ∀ K : Act → World → Prop, (∀ a' w', Inv (listed.setIfInBounds i true) a' w' → K a' w') → wpOpIn F n P l.toArray Q i K a w)
  (fin : ∀ (listed : Array Bool) (a : Act) (w : World), listed.size = l.length → Inv listed a w → (∀ j, j < l.length → listed.getD j false = true) → Q .normal a w) :
  ∀ (fuel : Nat) (listed : Array Bool) (a : Act) (w : World), unlisted listed = fuel → listed.size = l.length → Inv listed a w → wpAnyIn F n P .any l.toArray Q fuel listed a w := by
 intro fuel
 induction fuel with
 |zero =>
  intro listed a w hu hsz inv
  have hall := unlisted_zero hu
  rw [hsz] at hall
  refine ⟨?_, fin listed a w hsz inv hall⟩
  apply List.eq_nil_iff_forall_not_mem.2
  intro j hj
  obtain ⟨h1, o, ho, _⟩ := mem_ready.1 hj
  have hlt : j < l.length := by simpa using (Array.getElem?_eq_some_iff.1 ho).1
  have h2 := hall j hlt
  have hls : j < listed.size := by rw [hsz]; exact hlt
  simp [hls] at h1 h2
  rw [h1] at h2
  cases h2
 |succ fuel ih =>
  intro listed a w hu hsz inv
  refine ⟨fun hr => ?_, fun i hi => ?_⟩
  ·exfalso
   have hex : ∃ j, j < l.length ∧ listed.getD j false = false := by
    by_cases hex : ∃ j, j < l.length ∧ listed.getD j false = false
    ·exact hex
    ·exfalso
     have hall : ∀ j, j < l.length → listed.getD j false = true := fun j hj => by
      cases h : listed.getD j false
      ·exact absurd ⟨j, hj, h⟩ hex
      ·rfl
     have : unlisted listed = 0 := by
      unfold unlisted
      rw [List.length_eq_zero_iff, List.filter_eq_nil_iff]
      intro b hb
      obtain ⟨j, hj, rfl⟩ := List.getElem_of_mem hb
      have hj' : j < listed.size := by simpa using hj
      have := hall j (by rw [← hsz]; exact hj')
      simp [hj'] at this ⊢
      exact this
     omega
   obtain ⟨j, hj, hleast⟩ : ∃ j, (j < l.length ∧ listed.getD j false = false) ∧ ∀ k, k < j → ¬ (k < l.length ∧ listed.getD k false = false) := by
    obtain ⟨j0, h0⟩ := hex
    induction j0 using Nat.strongRecOn with
    |_ n ih2 =>
     by_cases hk : ∃ k, k < n ∧ (k < l.length ∧ listed.getD k false = false)
     ·obtain ⟨k, hk1, hk2⟩ := hk
      exact ih2 k hk1 hk2
     ·exact ⟨n, h0, fun k hk1 hk2 => hk ⟨k, hk1, hk2⟩⟩
   have hjs : j < listed.size := by rw [hsz]; exact hj.1
   have : j ∈ Region.ready .any l.toArray listed := by
    refine mem_ready.2 ⟨by have := hj.2; simp [hjs] at this ⊢; exact this, l[j], by simp [hj.1], fun e he hb => ?_⟩
    have hlt := relForm_edge hform (List.getElem?_eq_getElem hj.1) e he hb
    cases h : listed.getD e.on false
    ·exact absurd ⟨by omega, h⟩ (hleast e.on hlt)
    ·rfl
   rw [hr] at this
   cases this
  ·obtain ⟨h1, o, ho, hpre⟩ := mem_ready.1 hi
   have ho' : l[i]? = some o := by simpa using ho
   have hls : i < listed.size := by rw [hsz]; exact (List.getElem?_eq_some_iff.1 ho').1
   refine hstep listed a w i o hsz inv ho' (by simp [hls] at h1 ⊢; exact h1) hpre _ fun a' w' hi' => ?_
   exact ih _ _ _ (by have := unlisted_set hls h1; omega) (by simp [hsz]) hi'
end
noncomputable def befN (l : List Oper) (i : Nat) : Nat := Option.rec 0 (fun x => x) (lnth (ebefore l) i)
def Bef (l : List Oper) (i j : Nat) : Prop := Bit (befN l i) j
noncomputable def aheadRow (acc : List Nat) (o : Oper) : Nat := o.after.toList.foldl (fun s e => Bool.rec s (Nat.lor s (Nat.lor (Nat.shiftLeft 1 e.on) (Option.rec 0 (fun x => x) (lnth acc e.on)))) (Region.binds .any e)) 0
theorem aheadRow_bits (acc : List Nat) (j : Nat) : ∀ (es : List Edge) (s : Nat), Bit (es.foldl (fun s e => Bool.rec s (Nat.lor s (Nat.lor (Nat.shiftLeft 1 e.on) (Option.rec 0 (fun x => x) (lnth acc e.on)))) (Region.binds .any e)) s) j →
  Bit s j ∨ ∃ e ∈ es, Region.binds .any e = true ∧ (j = e.on ∨ ∃ b, acc[e.on]? = some b ∧ Bit b j)
 |[], s, h => Or.inl h
 |e :: es, s, h => by
  rw [List.foldl_cons] at h
  rcases aheadRow_bits acc j es _ h with h1 | ⟨e', he, h1⟩
  ·cases hb : Region.binds .any e with
   |false => rw [hb] at h1; exact Or.inl h1
   |true =>
    rw [hb] at h1
    rcases bit_or.1 h1 with h2 | h2
    ·exact Or.inl h2
    ·refine Or.inr ⟨e, by simp, hb, ?_⟩
     rcases bit_or.1 h2 with h3 | h3
     ·exact Or.inl (bit_one.1 h3)
     ·rw [lnth_eq] at h3
      cases ha : acc[e.on]? with
      |none => rw [ha] at h3; simp [Bit] at h3
      |some b => rw [ha] at h3; exact Or.inr ⟨b, rfl, h3⟩
  ·exact Or.inr ⟨e', by simp [he], h1⟩
theorem rows_fold (f : List Nat → Oper → Nat) : ∀ (l : List Oper) (acc : List Nat), ∃ r, l.foldl (fun acc o => acc ++ [f acc o]) acc = acc ++ r ∧ r.length = l.length ∧ ∀ k o, l[k]? = some o → ∃ p, r[k]? = some (f p o) ∧ p = (acc ++ r).take (acc.length + k)
 |[], acc => ⟨[], by simp, rfl, fun k o h => by simp at h⟩
 |o :: l, acc => by
  obtain ⟨r, h1, h2, h3⟩ := rows_fold f l (acc ++ [f acc o])
  refine ⟨f acc o :: r, by rw [List.foldl_cons, h1]; simp, by simp [h2], fun k o' hk => ?_⟩
  cases k with
  |zero =>
   simp only [List.getElem?_cons_zero, Option.some.injEq] at hk
   subst hk
   exact ⟨acc, by simp, by simp⟩
  |succ k =>
   rw [List.getElem?_cons_succ] at hk
   obtain ⟨p, h4, h5⟩ := h3 k o' hk
   refine ⟨p, by simpa using h4, ?_⟩
   rw [h5]
   simp only [List.length_append, List.length_cons, List.length_nil, List.append_assoc, List.cons_append, List.nil_append]
   congr 1
   omega
theorem bef_edge {l : List Oper} {i j : Nat} {o : Oper} (ho : l[i]? = some o) (h : Bef l i j) : ∃ e ∈ o.after, Region.binds .any e = true ∧ (j = e.on ∨ Bef l e.on j) := by
 obtain ⟨r, h1, h2, h3⟩ := rows_fold aheadRow l []
 obtain ⟨p, h4, h5⟩ := h3 i o ho
 have he : ebefore l = r := by
  have : ebefore l = l.foldl (fun acc o => acc ++ [aheadRow acc o]) [] := rfl
  rw [this, h1]
  simp
 unfold Bef befN at h
 rw [lnth_eq, he, h4] at h
 have h6 : Bit (aheadRow p o) j := h
 rcases aheadRow_bits p j _ 0 h6 with h7 | ⟨e, he1, he2, h7⟩
 ·simp [Bit] at h7
 ·refine ⟨e, by simpa using he1, he2, ?_⟩
  rcases h7 with h7 | ⟨b, h8, h9⟩
  ·exact Or.inl h7
  ·refine Or.inr ?_
   unfold Bef befN
   rw [lnth_eq, he]
   have h10 : r[e.on]? = some b := by
    rw [h5] at h8
    simp only [List.nil_append, List.length_nil, Nat.zero_add] at h8
    rw [List.getElem?_take] at h8
    split at h8
    ·exact h8
    ·cases h8
   rw [h10]
   exact h9
theorem bef_lt {l : List Oper} {N : Nat} (hform : relForm l N = true) : ∀ (i j : Nat) (o : Oper), l[i]? = some o → Bef l i j → j < i := by
 intro i
 induction i using Nat.strongRecOn with
 |_ i ih =>
  intro j o ho h
  obtain ⟨e, he, hb, h1⟩ := bef_edge ho h
  have hlt := relForm_edge hform ho e he hb
  rcases h1 with rfl | h1
  ·exact hlt
  ·cases hoe : l[e.on]? with
   |none =>
    exfalso
    have := (List.getElem?_eq_some_iff.1 ho).1
    rw [List.getElem?_eq_none_iff] at hoe
    omega
   |some oe => exact Nat.lt_trans (ih e.on hlt j oe hoe h1) hlt
theorem bef_done {l : List Oper} {N : Nat} (hform : relForm l N = true) (D : Nat → Prop) (hD : ∀ k o, l[k]? = some o → D k → ∀ e ∈ o.after, Region.binds .any e = true → D e.on) :
  ∀ (i j : Nat) (o : Oper), l[i]? = some o → (∀ e ∈ o.after, Region.binds .any e = true → D e.on) → Bef l i j → D j := by
 intro i
 induction i using Nat.strongRecOn with
 |_ i ih =>
  intro j o ho hr h
  obtain ⟨e, he, hb, h1⟩ := bef_edge ho h
  rcases h1 with rfl | h1
  ·exact hr e he hb
  ·have hlt := relForm_edge hform ho e he hb
   cases hoe : l[e.on]? with
   |none =>
    exfalso
    have := (List.getElem?_eq_some_iff.1 ho).1
    rw [List.getElem?_eq_none_iff] at hoe
    omega
   |some oe => exact ih e.on hlt j oe hoe (hD e.on oe hoe (hr e he hb)) h1
theorem form_slot {l : List Oper} {N i j : Nat} {o oj : Oper} {t : Tmp} (h : eform l N = true) (ho : l[i]? = some o) (hj : l[j]? = some oj) (ht : t ∈ eslots o ++ eguardSlot l o) (hd : oj.dst = some t) : i = j ∨ Bef l i j ∨ Bef l j i := by
 unfold eform at h
 rw [Bool.and_eq_true] at h
 have h1 := List.all_eq_true.1 h.2 i (List.mem_range.2 (List.getElem?_eq_some_iff.1 ho).1)
 rw [ho] at h1
 have h2 := List.all_eq_true.1 (List.all_eq_true.1 h1 t ht) j (List.mem_range.2 (List.getElem?_eq_some_iff.1 hj).1)
 rw [hj] at h2
 simp only [hd, bne_self_eq_false, Bool.false_or, Bool.or_eq_true, beq_iff_eq] at h2
 rcases h2 with (h2 | h2) | h2
 ·exact Or.inl h2
 ·exact Or.inr (Or.inl h2)
 ·exact Or.inr (Or.inr h2)
end
section
set_option linter.unusedSectionVars false
open Go.RowKit
variable [Val]
theorem apart_from (b r w : Nat) : ∀ (ms : List (Nat × Nat)) (k : Nat), (List.rec (fun _ => true) (fun m _ ih k => iand (ior (Nat.testBit b k) (iand (Nat.beq (Nat.land w (Nat.lor m.1 m.2)) 0) (Nat.beq (Nat.land r m.2) 0))) (ih (Nat.succ k))) ms : Nat → Bool) k = true →
  ∀ j m, ms[j]? = some m → Bit b (k + j) ∨ ((∀ x, Bit w x → ¬ (Bit m.1 x ∨ Bit m.2 x)) ∧ ∀ x, Bit r x → ¬ Bit m.2 x)
 |[], _, _, j, m, hm => by simp at hm
 |m0 :: ms, k, h, j, m, hm => by
  have h' : iand (ior (Nat.testBit b k) (iand (Nat.beq (Nat.land w (Nat.lor m0.1 m0.2)) 0) (Nat.beq (Nat.land r m0.2) 0))) ((List.rec (fun _ => true) (fun m _ ih k => iand (ior (Nat.testBit b k) (iand (Nat.beq (Nat.land w (Nat.lor m.1 m.2)) 0) (Nat.beq (Nat.land r m.2) 0))) (ih (Nat.succ k))) ms : Nat → Bool) (k + 1)) = true := h
  rw [iand_eq, Bool.and_eq_true] at h'
  cases j with
  |zero =>
   simp only [List.getElem?_cons_zero, Option.some.injEq] at hm
   subst hm
   have h1 := h'.1
   rw [ior_eq, Bool.or_eq_true, iand_eq, Bool.and_eq_true] at h1
   rcases h1 with h1 | ⟨h1, h2⟩
   ·exact Or.inl h1
   ·refine Or.inr ⟨fun x hx hm => ?_, fun x hx hm => ?_⟩
    ·have h3 : w &&& (m0.1 ||| m0.2) = 0 := nbeq_t h1
     have h4 : Bit (w &&& (m0.1 ||| m0.2)) x := by
      unfold Bit
      rw [Nat.testBit_and, Bool.and_eq_true]
      exact ⟨hx, bit_or.2 hm⟩
     rw [h3] at h4
     simp [Bit] at h4
    ·have h3 : r &&& m0.2 = 0 := nbeq_t h2
     have h4 : Bit (r &&& m0.2) x := by
      unfold Bit
      rw [Nat.testBit_and, Bool.and_eq_true]
      exact ⟨hx, hm⟩
     rw [h3] at h4
     simp [Bit] at h4
  |succ j =>
   rw [List.getElem?_cons_succ] at hm
   have := apart_from b r w ms (k + 1) h'.2 j m hm
   rwa [show k + 1 + j = k + (j + 1) by omega] at this
theorem apart_ok {b r w : Nat} {ms : List (Nat × Nat)} (h : eapart b r w ms = true) {j : Nat} {m : Nat × Nat} (hm : ms[j]? = some m) : Bit b j ∨ ((∀ x, Bit w x → ¬ (Bit m.1 x ∨ Bit m.2 x)) ∧ ∀ x, Bit r x → ¬ Bit m.2 x) := by
 have := apart_from b r w ms 0 h j m hm
 rwa [Nat.zero_add] at this
structure Trace (P : Program) (G : Globs) (R : ERec) (N : Nat) (l : List Oper) (r : List Oper) (i : Nat) (T : Nat → ET AV) (H : Nat → ET Blk) (X : Nat → Nat) (M : Nat → Nat × Nat) : Prop where
 step : ∀ k o, r[k]? = some o → estep P G R N l (T (i + k)) o ⟨H (i + k), X (i + k), 0, 0⟩ = .ok (T (i + k + 1)) ⟨H (i + k + 1), X (i + k + 1), (M (i + k)).1, (M (i + k)).2⟩
 apart : ∀ k o, r[k]? = some o → ∀ j, j < i + k → Bef l (i + k) j ∨ ((∀ x, Bit (M (i + k)).2 x → ¬ (Bit (M j).1 x ∨ Bit (M j).2 x)) ∧ ∀ x, Bit (M (i + k)).1 x → ¬ Bit (M j).2 x)
theorem draws_trace {P : Program} {G : Globs} {R : ERec} {N : Nat} {l : List Oper} : ∀ (r : List Oper) (i : Nat) (ms : List (Nat × Nat)) (tm : ET AV) (s : ESt) (tm' : ET AV) (s' : ESt), edraws P G R N l (ebefore l) r i ms tm s = .ok tm' s' → ms.length = i →
  ∃ T H X M, T i = tm ∧ H i = s.hp ∧ X i = s.nx ∧ T (i + r.length) = tm' ∧ H (i + r.length) = s'.hp ∧ X (i + r.length) = s'.nx ∧ (∀ j m, ms[j]? = some m → M j = m) ∧ Trace P G R N l r i T H X M
 |[], i, ms, tm, s, tm', s', h, _ => by
  obtain ⟨rfl, rfl⟩ := epure_ok (a := tm) h
  exact ⟨fun _ => tm', fun _ => s'.hp, fun _ => s'.nx, fun j => ms.getD j (0, 0), rfl, rfl, rfl, rfl, rfl, rfl, fun j m hm => by simp [List.getD_eq_getElem?_getD, hm], ⟨fun k o hk => by simp at hk, fun k o hk => by simp at hk⟩⟩
 |o :: r, i, ms, tm, s, tm', s', h, hl => by
  have h' : (ERes.rec (fun e => .no e) (fun tm1 s1 => (Bool.rec (efail [90, i]) (edraws P G R N l (ebefore l) r (Nat.succ i) (lapp ms [(s1.rd, s1.wr)]) tm1)
   (eapart (Option.rec 0 (fun x => x) (lnth (ebefore l) i)) s1.rd s1.wr ms) : EM (ET AV)) ⟨s1.hp, s1.nx, Nat.lor s.rd s1.rd, Nat.lor s.wr s1.wr⟩) (estep P G R N l tm o ⟨s.hp, s.nx, 0, 0⟩) : ERes (ET AV)) = .ok tm' s' := h
  cases hs : estep P G R N l tm o ⟨s.hp, s.nx, 0, 0⟩ with
  |no e => simp only [hs] at h'; cases h'
  |ok tm1 s1 =>
   simp only [hs] at h'
   cases ha : eapart (befN l i) s1.rd s1.wr ms with
   |false =>
    unfold befN at ha
    rw [ha] at h'
    exact (efail_ok (e := [90, i]) h').elim
   |true =>
    have ha' := ha
    unfold befN at ha
    rw [ha] at h'
    have h2 : edraws P G R N l (ebefore l) r (i + 1) (lapp ms [(s1.rd, s1.wr)]) tm1 ⟨s1.hp, s1.nx, Nat.lor s.rd s1.rd, Nat.lor s.wr s1.wr⟩ = .ok tm' s' := h'
    rw [lapp_eq] at h2
    obtain ⟨T, H, X, M, e1, e2, e3, e4, e5, e6, e7, tr⟩ := draws_trace r (i + 1) _ _ _ _ _ h2 (by simp [hl])
    have hM : M i = (s1.rd, s1.wr) := e7 i _ (by rw [List.getElem?_append_right (by omega), hl]; simp)
    have hms : ∀ j m, ms[j]? = some m → M j = m := fun j m hm => e7 j m (by rw [List.getElem?_append_left (List.getElem?_eq_some_iff.1 hm).1]; exact hm)
    have hne : ∀ k, (if i + 1 + k = i then tm else T (i + 1 + k)) = T (i + 1 + k) := fun k => if_neg (by omega)
    refine ⟨fun k => if k = i then tm else T k, fun k => if k = i then s.hp else H k, fun k => if k = i then s.nx else X k, M, if_pos rfl, if_pos rfl, if_pos rfl, ?_, ?_, ?_, hms, ⟨fun k o' hk => ?_, fun k o' hk j hj => ?_⟩⟩
    ·simp only [List.length_cons]; rw [if_neg (by omega), show i + (r.length + 1) = i + 1 + r.length by omega]; exact e4
    ·simp only [List.length_cons]; rw [if_neg (by omega), show i + (r.length + 1) = i + 1 + r.length by omega]; exact e5
    ·simp only [List.length_cons]; rw [if_neg (by omega), show i + (r.length + 1) = i + 1 + r.length by omega]; exact e6
    ·cases k with
     |zero =>
      simp only [List.getElem?_cons_zero, Option.some.injEq] at hk
      subst hk
      simp only [Nat.add_zero, if_pos, if_neg (show ¬ i + 1 = i by omega)]
      rw [e1, e2, e3, hM]
      exact hs
     |succ k =>
      rw [List.getElem?_cons_succ] at hk
      have := tr.step k o' hk
      simp only [if_neg (show ¬ i + (k + 1) = i by omega), if_neg (show ¬ i + (k + 1) + 1 = i by omega)]
      rw [show i + (k + 1) = i + 1 + k by omega]
      exact this
    ·cases k with
     |zero =>
      rw [Nat.add_zero] at hj ⊢
      obtain ⟨m, hm⟩ : ∃ m, ms[j]? = some m := ⟨ms[j]'(by omega), List.getElem?_eq_getElem _⟩
      rw [hM, hms j m hm]
      exact apart_ok ha' hm
     |succ k =>
      rw [List.getElem?_cons_succ] at hk
      have := tr.apart k o' hk j (by omega)
      rwa [show i + 1 + k = i + (k + 1) by omega] at this
end
end Go.Proofs.YtigajcabgaddgaaGreatDoor
