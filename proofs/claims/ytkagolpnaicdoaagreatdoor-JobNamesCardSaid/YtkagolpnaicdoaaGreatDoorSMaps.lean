/-
 Maps as lists of entries: laws on the model's map operations, over any program. Frames and blocks of memory, over any program. The cell of internal/bytealg.MaxLen holds a number. The disk as data, and where it lies in memory.
-/
import Derived.Maps.RangeWalk
import Derived.WalkKit
import Derived.Lib.Hide
import Derived.Deep.QuietTactic
import Derived.BigQuiet
import Derived.Deep.LoopGhost
import Derived.Deep.RegionLaw
import Derived.Test.YtkagolpnaicdoaaGreatDoorRows
set_option maxRecDepth 100000
set_option maxHeartbeats 8000000
namespace Go.Proofs.YtkagolpnaicdoaaGreatDoor
section
open Go.RowKit Go.Maps Go.MapKept Go.ChangeMaps
section
variable {κ ν : Type}
def mget [DecidableEq κ] (F : List (κ × ν)) (x : κ) : Option ν := (F.find? (fun p => p.1 == x)).map (·.2)
def mput [DecidableEq κ] : List (κ × ν) → κ → ν → List (κ × ν)
 |[], x, v => [(x, v)]
 |p :: r, x, v => if p.1 = x then (x, v) :: r else p :: mput r x v
def mdel [DecidableEq κ] (F : List (κ × ν)) (x : κ) : List (κ × ν) := F.filter (fun p => p.1 ≠ x)
def mkeys (F : List (κ × ν)) : List κ := F.map (·.1)
structure MTy (P : Program) (t k e : TypeId) (κ ν : Type) where
 K : Keyed P k
 ht : P.underlying t = some (.map k e)
 kv : κ → Value
 mv : ν → Value
 ok : κ → Prop
 inj : ∀ {a b}, kv a = kv b → a = b
 key : ∀ {a}, ok a → ∃ l, keyOf P k (kv a) = some l
 zero : ν
 hz : ∀ w, (zeroValue e).run P w = .ok (mv zero) w
variable {P : Program} {t k e : TypeId} (M : MTy P t k e κ ν)
def MapAt (w : World) (b : Nat) (F : List (κ × ν)) : Prop :=
 ∃ es clock, w.heap[b]? = some (.map es clock) ∧ Stamped es clock ∧ es.toList.map (fun x => (x.key, x.val)) = F.map (fun p => (M.kv p.1, M.mv p.2)) ∧ ∀ p ∈ F, M.ok p.1
theorem entry_of {M : MTy P t k e κ ν} {es : List MapEntry} {F : List (κ × ν)} (h : es.map (fun x => (x.key, x.val)) = F.map (fun p => (M.kv p.1, M.mv p.2))) {j : Nat} {x : MapEntry} (hx : es[j]? = some x) :
  ∃ p, F[j]? = some p ∧ x.key = M.kv p.1 ∧ x.val = M.mv p.2 := by
 have h1 := congrArg (fun l => l[j]?) h
 simp only [List.getElem?_map, hx, Option.map_some] at h1
 cases hF : F[j]? with
 |none => rw [hF] at h1; cases h1
 |some p => rw [hF] at h1; simp at h1; exact ⟨p, rfl, h1.1, h1.2⟩
theorem MapAt.keys_nodup {M : MTy P t k e κ ν} {w : World} {b : Nat} {F : List (κ × ν)} (h : MapAt M w b F) : (mkeys F).Nodup := by
 obtain ⟨es, clock, hb, hst, hF, hok⟩ := h
 have h3 := ((stamped_iff es clock).1 hst).2.2
 unfold mkeys List.Nodup
 rw [List.pairwise_map]
 have h4 : (es.toList.map (fun x => (x.key, x.val))).Pairwise (fun p q => p.1 ≠ q.1) := by rw [List.pairwise_map]; exact h3
 rw [hF, List.pairwise_map] at h4
 exact h4.imp (fun hne e => hne (by rw [e]))
theorem MapAt.lt {M : MTy P t k e κ ν} {w : World} {b : Nat} {F : List (κ × ν)} (h : MapAt M w b F) : b < w.heap.size := by
 obtain ⟨es, clock, hb, _⟩ := h
 exact (Array.getElem?_eq_some_iff.1 hb).1
theorem MapAt.key_ok {M : MTy P t k e κ ν} {w : World} {b : Nat} {F : List (κ × ν)} (h : MapAt M w b F) {p : κ × ν} (hp : p ∈ F) : M.ok p.1 := by
 obtain ⟨es, clock, _, _, _, hok⟩ := h
 exact hok p hp
theorem MapAt.of_block {M : MTy P t k e κ ν} {w w' : World} {b : Nat} {F : List (κ × ν)} (h : MapAt M w b F) (hb : w'.heap[b]? = w.heap[b]?) : MapAt M w' b F := by
 obtain ⟨es, clock, h1, h2⟩ := h
 exact ⟨es, clock, hb.trans h1, h2⟩
theorem MapAt.made (w : World) : MapAt M (w.alloc (.map #[] 0)) w.heap.size [] :=
 ⟨#[], 0, (MapKept.heap_alloc w _).1, stamped_empty 0, rfl, by simp⟩
theorem mget_none [DecidableEq κ] {F : List (κ × ν)} {x : κ} (h : ∀ p ∈ F, p.1 ≠ x) : mget F x = none := by
 unfold mget
 rw [List.find?_eq_none.2]
 ·rfl
 ·intro p hp; simpa using h p hp
theorem mget_some [DecidableEq κ] : ∀ {F : List (κ × ν)} (_ : (mkeys F).Nodup) {x : κ} {v : ν} (_ : (x, v) ∈ F), mget F x = some v
 |[], _, _, _, h => by cases h
 |p :: r, hn, x, v, h => by
  unfold mkeys at hn
  rw [List.map_cons, List.nodup_cons] at hn
  unfold mget
  rcases List.mem_cons.1 h with rfl | h
  ·simp
  ·have : p.1 ≠ x := fun e => hn.1 (List.mem_map.2 ⟨(x, v), h, e.symm⟩)
   rw [List.find?_cons]
   simp only [beq_eq_false_iff_ne.2 this]
   exact mget_some hn.2 h
theorem mget_mem [DecidableEq κ] {F : List (κ × ν)} {x : κ} {v : ν} (h : mget F x = some v) : (x, v) ∈ F := by
 unfold mget at h
 cases hf : F.find? (fun p => p.1 == x) with
 |none => rw [hf] at h; cases h
 |some p =>
  rw [hf] at h
  have h1 := List.mem_of_find?_eq_some hf
  have h2 := List.find?_some hf
  simp at h2 h
  subst h2; subst h
  exact h1
theorem mget_none_iff [DecidableEq κ] {F : List (κ × ν)} {x : κ} : mget F x = none ↔ ∀ p ∈ F, p.1 ≠ x := by
 constructor
 ·intro h p hp e
  unfold mget at h
  rw [Option.map_eq_none_iff, List.find?_eq_none] at h
  have := h p hp
  simp [e] at this
 ·exact mget_none
theorem MapAt.find {M : MTy P t k e κ ν} {F : List (κ × ν)} {w : World} {es : Array MapEntry} (hF : es.toList.map (fun x => (x.key, x.val)) = F.map (fun p => (M.kv p.1, M.mv p.2))) (hok : ∀ p ∈ F, M.ok p.1) {x : κ} (hx : M.ok x) :
  ((Instr.findKey k (M.kv x) es.toList).run P w = .ok none w ∧ (∀ y ∈ es.toList, y.key ≠ M.kv x) ∧ ∀ p ∈ F, p.1 ≠ x) ∨
  ∃ j y v, (Instr.findKey k (M.kv x) es.toList).run P w = .ok (some (j, y.val)) w ∧ es.toList[j]? = some y ∧ F[j]? = some (x, v) ∧ y.key = M.kv x ∧ y.val = M.mv v := by
 obtain ⟨l, hl⟩ := M.key hx
 rcases M.K.find w hl es.toList (fun y hy => by
  obtain ⟨j, hj, rfl⟩ := List.getElem_of_mem hy
  obtain ⟨p, hp, h1, _⟩ := entry_of hF (List.getElem?_eq_getElem hj)
  rw [h1]
  exact M.key (hok p (List.mem_of_getElem? hp))) with ⟨h1, h2⟩ | ⟨j, y, h1, h2, h3⟩
 ·refine Or.inl ⟨h1, h2, fun p hp e => ?_⟩
  have hm : (M.kv p.1, M.mv p.2) ∈ F.map (fun p => (M.kv p.1, M.mv p.2)) := List.mem_map.2 ⟨p, hp, rfl⟩
  rw [← hF] at hm
  obtain ⟨y, hy, he⟩ := List.mem_map.1 hm
  have : y.key = M.kv p.1 := congrArg Prod.fst he
  exact h2 y hy (by rw [this, e])
 ·obtain ⟨p, hp, h4, h5⟩ := entry_of hF h2
  have : p.1 = x := M.inj (h4.symm.trans h3)
  exact Or.inr ⟨j, y, p.2, h1, h2, by rw [hp, ← this], h3, h5⟩
theorem MapAt.lookup [DecidableEq κ] {M : MTy P t k e κ ν} {w : World} {b : Nat} {F : List (κ × ν)} (h : MapAt M w b F) (c : Bool) {x : κ} (hx : M.ok x) :
  (Instr.lookup t (.map (some b)) (M.kv x) c).run P w = .ok (if c then .tuple #[M.mv ((mget F x).getD M.zero), .bool (mget F x).isSome] else M.mv ((mget F x).getD M.zero)) w := by
 have hnd := h.keys_nodup
 obtain ⟨es, clock, hb, hst, hF, hok⟩ := h
 obtain ⟨l, hl⟩ := M.key hx
 rcases MapAt.find (w := w) hF hok hx with ⟨h1, _, h2⟩ | ⟨j, y, v, h1, h2, h3, h4, h5⟩
 ·rw [mget_none h2]
  cases c <;> simp [Instr.lookup, run_underlying M.ht, MapKept.run_getObj_map hb, M.K.check w _ hl, h1, M.hz, Result.andThen]
 ·rw [mget_some hnd (List.mem_of_getElem? h3)]
  cases c <;> simp [Instr.lookup, run_underlying M.ht, MapKept.run_getObj_map hb, M.K.check w _ hl, h1, h5, Result.andThen]
theorem mput_none [DecidableEq κ] : ∀ {F : List (κ × ν)} {x : κ} {v : ν} (_ : ∀ p ∈ F, p.1 ≠ x), mput F x v = F ++ [(x, v)]
 |[], _, _, _ => rfl
 |p :: r, x, v, h => by
  unfold mput
  rw [if_neg (h p (by simp)), mput_none (fun q hq => h q (by simp [hq]))]
  rfl
theorem mput_set [DecidableEq κ] : ∀ {F : List (κ × ν)} (_ : (mkeys F).Nodup) {x : κ} {v v0 : ν} {j : Nat} (_ : F[j]? = some (x, v0)), mput F x v = F.set j (x, v)
 |[], _, _, _, _, _, h => by simp at h
 |p :: r, hn, x, v, v0, j, h => by
  unfold mkeys at hn
  rw [List.map_cons, List.nodup_cons] at hn
  unfold mput
  cases j with
  |zero => simp at h; subst h; simp
  |succ j =>
   simp at h
   have : p.1 ≠ x := fun e => hn.1 (List.mem_map.2 ⟨(x, v0), List.mem_of_getElem? h, e.symm⟩)
   rw [if_neg this, mput_set hn.2 h]
   rfl
theorem mem_mput [DecidableEq κ] {F : List (κ × ν)} {x : κ} {v : ν} {p : κ × ν} : p ∈ mput F x v → p ∈ F ∨ p = (x, v) := by
 induction F with
 |nil => intro h; right; simpa [mput] using h
 |cons q r ih =>
  intro h
  unfold mput at h
  split at h
  ·rcases List.mem_cons.1 h with rfl | h
   ·exact Or.inr rfl
   ·exact Or.inl (by simp [h])
  ·rcases List.mem_cons.1 h with rfl | h
   ·exact Or.inl (by simp)
   ·rcases ih h with h | h
    ·exact Or.inl (by simp [h])
    ·exact Or.inr h
theorem MapAt.update [DecidableEq κ] {M : MTy P t k e κ ν} {w : World} {b : Nat} {F : List (κ × ν)} (h : MapAt M w b F) {x : κ} (hx : M.ok x) (v : ν) :
  ∃ es' clock', (Instr.mapUpdate t (.map (some b)) (M.kv x) (M.mv v)).run P w = .ok () (setBlock w b (.map es' clock')) ∧ MapAt M (setBlock w b (.map es' clock')) b (mput F x v) ∧
   (∀ es0 clock0, w.heap[b]? = some (.map es0 clock0) → (mget F x).isSome = true → clock' = clock0 ∧ es'.toList.map (·.born) = es0.toList.map (·.born)) := by
 have hnd := h.keys_nodup
 obtain ⟨es, clock, hb, hst, hF, hok⟩ := h
 obtain ⟨l, hl⟩ := M.key hx
 have hok' : ∀ p ∈ mput F x v, M.ok p.1 := fun p hp => by
  rcases mem_mput hp with h | rfl
  ·exact hok p h
  ·exact hx
 rcases MapAt.find (w := w) hF hok hx with ⟨h1, h0, h2⟩ | ⟨j, y, v0, h1, h2, h3, h4, h5⟩
 ·refine ⟨es.push ⟨M.kv x, M.mv v, clock⟩, clock + 1, ?_, ⟨_, _, heap_setBlock_same hb _, stamped_push hst h0, ?_, hok'⟩, ?_⟩
  ·simp [Instr.mapUpdate, run_underlying M.ht, MapKept.run_getObj_map hb, M.K.check w false hl, h1, MapKept.run_setObj_map _ hb, Result.andThen, setBlock]
  ·rw [mput_none h2]
   simp [hF]
  ·intro es0 clock0 _ hs
   rw [mget_none h2] at hs
   cases hs
 ·have hj : es[j]? = some y := by simpa using h2
  have hmod : (es.modify j (fun e' => { e' with key := M.kv x, val := M.mv v })).toList = es.toList.set j { y with key := M.kv x, val := M.mv v } := by rw [Array.toList_modify, modify_eq_set _ _ _ _ h2]
  refine ⟨es.modify j (fun e' => { e' with key := M.kv x, val := M.mv v }), clock, ?_, ⟨_, _, heap_setBlock_same hb _, stamped_modify hst _ _ (fun _ _ => rfl) (fun e' _ he' => by rw [hj] at he'; cases he'; exact h4.symm), ?_, hok'⟩, ?_⟩
  ·simp [Instr.mapUpdate, run_underlying M.ht, MapKept.run_getObj_map hb, M.K.check w false hl, h1, hj, h4, M.K.stays w hl, MapKept.run_setObj_map _ hb, Result.andThen, setBlock]
  ·rw [mput_set hnd h3, hmod, List.map_set, List.map_set, hF]
  ·intro es0 clock0 hb0 _
   rw [hb] at hb0
   cases hb0
   refine ⟨rfl, ?_⟩
   rw [hmod, List.map_set]
   apply List.ext_getElem?
   intro i
   rw [List.getElem?_set]
   split
   ·rename_i e; subst e
    rw [List.getElem?_map, h2]
    split
    ·rfl
    ·rename_i hlt; exact absurd (by simpa using (List.getElem?_eq_some_iff.1 h2).1) hlt
   ·rfl
theorem mdel_none [DecidableEq κ] {F : List (κ × ν)} {x : κ} (h : ∀ p ∈ F, p.1 ≠ x) : mdel F x = F := by
 unfold mdel
 rw [List.filter_eq_self]
 intro p hp
 simpa using h p hp
theorem mdel_erase [DecidableEq κ] : ∀ {F : List (κ × ν)} (_ : (mkeys F).Nodup) {x : κ} {v0 : ν} {j : Nat} (_ : F[j]? = some (x, v0)), mdel F x = F.eraseIdx j
 |[], _, _, _, _, h => by simp at h
 |p :: r, hn, x, v0, j, h => by
  unfold mkeys at hn
  rw [List.map_cons, List.nodup_cons] at hn
  unfold mdel
  cases j with
  |zero =>
   simp at h; subst h
   rw [List.filter_cons]
   simp only [ne_eq, not_true_eq_false, decide_false, Bool.false_eq_true, if_false, List.eraseIdx_zero, List.tail_cons]
   exact mdel_none (fun q hq e => hn.1 (List.mem_map.2 ⟨q, hq, e⟩))
  |succ j =>
   simp at h
   have : p.1 ≠ x := fun e => hn.1 (List.mem_map.2 ⟨(x, v0), List.mem_of_getElem? h, e.symm⟩)
   rw [List.filter_cons, if_pos (by simpa using this), List.eraseIdx_cons_succ]
   exact congrArg _ (mdel_erase hn.2 h)
theorem MapAt.delete [DecidableEq κ] {M : MTy P t k e κ ν} {w : World} {b : Nat} {F : List (κ × ν)} (h : MapAt M w b F) {x : κ} (hx : M.ok x) (ty : TypeId) :
  ∃ es' clock', (Builtin.delete_ #[t, k] ty #[.map (some b), M.kv x]).run P w = .ok (.tuple #[]) (setBlock w b (.map es' clock')) ∧ MapAt M (setBlock w b (.map es' clock')) b (mdel F x) := by
 have hnd := h.keys_nodup
 obtain ⟨es, clock, hb, hst, hF, hok⟩ := h
 obtain ⟨l, hl⟩ := M.key hx
 have hok' : ∀ p ∈ mdel F x, M.ok p.1 := fun p hp => hok p ((List.mem_filter.1 hp).1)
 rcases MapAt.find (w := w) hF hok hx with ⟨h1, h0, h2⟩ | ⟨j, y, v0, h1, h2, h3, h4, h5⟩
 ·refine ⟨es, clock, ?_, _, _, heap_setBlock_same hb _, hst, ?_, hok'⟩
  ·simp [Builtin.delete_, run_underlying M.ht, MapKept.run_getObj_map hb, M.K.check w _ hl, h1, MapKept.run_setObj_map _ hb, Result.andThen, setBlock]
  ·rw [mdel_none h2]; exact hF
 ·refine ⟨es.eraseIdxIfInBounds j, clock, ?_, _, _, heap_setBlock_same hb _, stamped_erase hst j, ?_, hok'⟩
  ·simp [Builtin.delete_, run_underlying M.ht, MapKept.run_getObj_map hb, M.K.check w _ hl, h1, MapKept.run_setObj_map _ hb, Result.andThen, setBlock]
  ·rw [mdel_erase hnd h3]
   have hjl : j < es.toList.length := (List.getElem?_eq_some_iff.1 h2).1
   have : (es.eraseIdxIfInBounds j).toList = es.toList.eraseIdx j := by
    have hjs : j < es.size := by simpa using hjl
    simp only [Array.eraseIdxIfInBounds, dif_pos hjs, Array.toList_eraseIdx]
   rw [this, map_eraseIdx, map_eraseIdx, hF]
theorem MapAt.len {M : MTy P t k e κ ν} {w : World} {b : Nat} {F : List (κ × ν)} (h : MapAt M w b F) (ty : TypeId) :
  (Builtin.len_ #[t] ty #[.map (some b)]).run P w = .ok (.int .i64 F.length) w := by
 obtain ⟨es, clock, hb, hst, hF, hok⟩ := h
 have : es.size = F.length := by have := congrArg List.length hF; simpa using this
 simp [Builtin.len_, run_underlying M.ht, MapKept.run_getObj_map hb, Result.andThen, goInt, this]
def RangeAt (w : World) (b r : Nat) (F : List (κ × ν)) (done : List κ) : Prop :=
 ∃ es clock since seen c0, w.heap[b]? = some (.map es clock) ∧ Stamped es clock ∧ es.toList.map (fun x => (x.key, x.val)) = F.map (fun p => (M.kv p.1, M.mv p.2)) ∧ (∀ p ∈ F, M.ok p.1) ∧
  w.heap[r]? = some (.mapIter (some b) since seen c0) ∧ (∀ x ∈ es.toList, x.born < since) ∧ since ≤ c0 ∧ since ≤ clock ∧
  (∀ (j : Nat) (x : MapEntry) (p : κ × ν), es.toList[j]? = some x → F[j]? = some p → (seen.contains x.born = true ↔ p.1 ∈ done))
theorem RangeAt.map {M : MTy P t k e κ ν} {w : World} {b r : Nat} {F : List (κ × ν)} {done : List κ} (h : RangeAt M w b r F done) : MapAt M w b F := by
 obtain ⟨es, clock, since, seen, c0, h1, h2, h3, h4, _⟩ := h
 exact ⟨es, clock, h1, h2, h3, h4⟩
theorem RangeAt.ne {M : MTy P t k e κ ν} {w : World} {b r : Nat} {F : List (κ × ν)} {done : List κ} (h : RangeAt M w b r F done) : r ≠ b := by
 obtain ⟨es, clock, since, seen, c0, h1, _, _, _, h5, _⟩ := h
 rintro rfl
 rw [h1] at h5
 cases h5
theorem RangeAt.of_block {M : MTy P t k e κ ν} {w w' : World} {b r : Nat} {F : List (κ × ν)} {done : List κ} (h : RangeAt M w b r F done) (hb : w'.heap[b]? = w.heap[b]?) (hr : w'.heap[r]? = w.heap[r]?) : RangeAt M w' b r F done := by
 obtain ⟨es, clock, since, seen, c0, h1, h2, h3, h4, h5, h6⟩ := h
 exact ⟨es, clock, since, seen, c0, hb.trans h1, h2, h3, h4, hr.trans h5, h6⟩
theorem MapAt.range {M : MTy P t k e κ ν} {w : World} {b : Nat} {F : List (κ × ν)} (h : MapAt M w b F) :
  ∃ o, (Instr.range t (.map (some b))).run P w = .ok (.pointer (some ⟨w.heap.size, 0, none⟩)) (w.alloc o) ∧ RangeAt M (w.alloc o) b w.heap.size F [] := by
 have hlt := h.lt
 obtain ⟨es, clock, hb, hst, hF, hok⟩ := h
 refine ⟨_, run_range_map w t k e b es clock M.ht hb, es, clock, clock, #[], clock, ((MapKept.heap_alloc w _).2 b hlt).trans hb, hst, hF, hok, (MapKept.heap_alloc w _).1, ((stamped_iff es clock).1 hst).1, Nat.le_refl _, Nat.le_refl _, ?_⟩
 intro j x p _ _
 simp
theorem RangeAt.next {M : MTy P t k e κ ν} {w : World} {b r : Nat} {F : List (κ × ν)} {done : List κ} (h : RangeAt M w b r F done) (ty : TypeId) :
  ((∀ x ∈ mkeys F, x ∈ done) ∧ (Instr.next (.pointer (some ⟨r, 0, none⟩)) false ty).run P w = .ok (.tuple #[.bool false]) w) ∨
  ∃ x v w1 o, (x, v) ∈ F ∧ x ∉ done ∧ (w1 = w ∨ w1 = w.drew) ∧ (Instr.next (.pointer (some ⟨r, 0, none⟩)) false ty).run P w = .ok (.tuple #[.bool true, M.kv x, M.mv v]) (setBlock w1 r o) ∧
   RangeAt M (setBlock w1 r o) b r F (done ++ [x]) ∧ (Instr.entry (.pointer (some ⟨r, 0, none⟩))).run P (setBlock w1 r o) = .ok (.tuple #[M.kv x, M.mv v]) (setBlock w1 r o) := by
 have hnd := h.map.keys_nodup
 have hne := h.ne
 obtain ⟨es, clock, since, seen, c0, hb, hst, hF, hok, hr, hold, hsc, hsk, hseen⟩ := h
 rcases run_next_at (P := P) w ty r b since c0 seen es clock hr hb hold hsc with ⟨h0, hrun⟩ | ⟨y, hy, w1, hal, hrun⟩
 ·refine Or.inl ⟨fun x hx => ?_, hrun⟩
  obtain ⟨p, hp, rfl⟩ := List.mem_map.1 hx
  obtain ⟨j, hj, rfl⟩ := List.getElem_of_mem hp
  have hlen : es.toList.length = F.length := by have := congrArg List.length hF; simpa using this
  have hj' : j < es.toList.length := by omega
  refine (hseen j es.toList[j] F[j] (List.getElem?_eq_getElem hj') (List.getElem?_eq_getElem hj)).1 ?_
  exact all_seen es seen h0 _ (List.getElem_mem hj')
 ·have hy' : y ∈ es.toList ∧ seen.contains y.born = false := by
   unfold leftOf at hy
   simp at hy
   refine ⟨by simpa using hy.1, by simpa using hy.2⟩
  obtain ⟨j, hj, hjy⟩ := List.getElem_of_mem hy'.1
  obtain ⟨p, hp, hk, hv⟩ := entry_of hF (List.getElem?_eq_getElem hj)
  rw [hjy] at hk hv
  have hnot : p.1 ∉ done := fun hd => by
   have := (hseen j y p (by rw [← hjy]; exact List.getElem?_eq_getElem hj) hp).2 hd
   rw [hy'.2] at this
   cases this
  have hw1 : w1.heap = w.heap := by rcases hal with rfl | rfl <;> rfl
  rw [hk, hv] at hrun
  have hb1 : (setBlock w1 r (.mapIter (some b) since (seen.push y.born) clock)).heap[b]? = some (.map es clock) := by
   simp only [setBlock, hw1, Array.getElem?_setIfInBounds, if_neg hne]
   exact hb
  have hr1 : (setBlock w1 r (.mapIter (some b) since (seen.push y.born) clock)).heap[r]? = some (.mapIter (some b) since (seen.push y.born) clock) := by
   have hlt := (Array.getElem?_eq_some_iff.1 hr).1
   simp [setBlock, hw1, hlt]
  refine Or.inr ⟨p.1, p.2, w1, _, List.mem_of_getElem? hp, hnot, hal, hrun, ⟨es, clock, since, seen.push y.born, clock, hb1, hst, hF, hok, hr1, hold, hsk, hsk, ?_⟩, ?_⟩
  ·intro i x q hx hq
   have hseen1 := hseen i x q hx hq
   rw [Array.contains_push] 
   simp only [Bool.or_eq_true, List.mem_append, List.mem_singleton]
   rw [hseen1]
   refine or_congr Iff.rfl ?_
   have hborn := ((stamped_iff es clock).1 hst).2.1
   constructor
   ·intro hbe
    have hbe' : x.born = y.born := by simpa using hbe
    have : i = j := by
     have hi : i < es.toList.length := (List.getElem?_eq_some_iff.1 hx).1
     have e1 := List.getElem?_eq_some_iff.1 hx
     obtain ⟨_, e1⟩ := e1
     have hb2 : (es.toList.map (·.born))[i]'(by simpa using hi) = (es.toList.map (·.born))[j]'(by simpa using hj) := by
      simp only [List.getElem_map, e1, hjy, hbe']
     exact (List.getElem_inj hborn).1 hb2
    subst this
    rw [hp] at hq
    cases hq
    rfl
   ·intro hqe
    have : i = j := by
     have hi : i < F.length := (List.getElem?_eq_some_iff.1 hq).1
     obtain ⟨_, e1⟩ := List.getElem?_eq_some_iff.1 hq
     have hj2 : j < F.length := (List.getElem?_eq_some_iff.1 hp).1
     obtain ⟨_, e2⟩ := List.getElem?_eq_some_iff.1 hp
     have hb2 : (mkeys F)[i]'(by simpa [mkeys] using hi) = (mkeys F)[j]'(by simpa [mkeys] using hj2) := by
      simp only [mkeys, List.getElem_map, e1, e2, hqe]
     exact (List.getElem_inj hnd).1 hb2
    subst this
    rw [List.getElem?_eq_getElem hj, hjy] at hx
    cases hx
    simp
  ·rw [← hk, ← hv]
   exact run_entry_at _ r b since seen es clock y hr1 hb1 hy'.1 ((stamped_iff es clock).1 hst).2.1
theorem mkeys_mput [DecidableEq κ] : ∀ {F : List (κ × ν)} {x : κ} {v : ν} (_ : (mget F x).isSome = true), mkeys (mput F x v) = mkeys F
 |[], _, _, h => by cases h
 |p :: r, x, v, h => by
  unfold mput
  by_cases e : p.1 = x
  ·rw [if_pos e]; simp [mkeys, e]
  ·rw [if_neg e]
   have h' : (mget r x).isSome = true := by
    unfold mget at h ⊢
    rw [List.find?_cons, beq_eq_false_iff_ne.2 e] at h
    exact h
   have := mkeys_mput (v := v) h'
   unfold mkeys at this ⊢
   simp [this]
theorem RangeAt.put [DecidableEq κ] {M : MTy P t k e κ ν} {w w' : World} {b r : Nat} {F : List (κ × ν)} {done : List κ} (h : RangeAt M w b r F done) {x : κ} {v : ν} (hx : (mget F x).isSome = true)
  {es' : Array MapEntry} {clock' : Nat} (hb : w'.heap[b]? = some (.map es' clock')) (hr : w'.heap[r]? = w.heap[r]?) (hm : MapAt M w' b (mput F x v))
  (hk : ∀ es0 clock0, w.heap[b]? = some (.map es0 clock0) → (mget F x).isSome = true → clock' = clock0 ∧ es'.toList.map (·.born) = es0.toList.map (·.born)) : RangeAt M w' b r (mput F x v) done := by
 obtain ⟨es, clock, since, seen, c0, h1, h2, h3, h4, h5, h6, h7, h8, h9⟩ := h
 obtain ⟨rfl, hborn⟩ := hk es clock h1 hx
 obtain ⟨es2, clock2, g1, g2, g3, g4⟩ := hm
 rw [hb] at g1
 cases g1
 have hkeys := mkeys_mput (v := v) hx
 refine ⟨es', clock', since, seen, c0, hb, g2, g3, g4, hr.trans h5, ?_, h7, h8, ?_⟩
 ·intro y hy
  have : y.born ∈ es'.toList.map (·.born) := List.mem_map.2 ⟨y, hy, rfl⟩
  rw [hborn] at this
  obtain ⟨z, hz, hzb⟩ := List.mem_map.1 this
  rw [← hzb]
  exact h6 z hz
 ·intro j y p hy hp
  have e1 := congrArg (fun l => l[j]?) hborn
  simp only [List.getElem?_map, hy, Option.map_some] at e1
  cases hz : es.toList[j]? with
  |none => rw [hz] at e1; cases e1
  |some z =>
   rw [hz] at e1
   simp only [Option.map_some, Option.some.injEq] at e1
   have e2 := congrArg (fun l => l[j]?) hkeys
   simp only [mkeys, List.getElem?_map, hp, Option.map_some] at e2
   cases hq : F[j]? with
   |none => rw [hq] at e2; cases e2
   |some q =>
    rw [hq] at e2
    simp only [Option.map_some, Option.some.injEq] at e2
    rw [e1, e2]
    exact h9 j z q hz hq
theorem mget_cons_eq [DecidableEq κ] {p : κ × ν} {r : List (κ × ν)} {x : κ} (h : p.1 = x) : mget (p :: r) x = some p.2 := by
 unfold mget; rw [List.find?_cons]; simp [h]
theorem mget_cons_ne [DecidableEq κ] {p : κ × ν} {r : List (κ × ν)} {x : κ} (h : p.1 ≠ x) : mget (p :: r) x = mget r x := by
 unfold mget; rw [List.find?_cons, beq_eq_false_iff_ne.2 h]
theorem mget_mput_same [DecidableEq κ] (F : List (κ × ν)) (x : κ) (v : ν) : mget (mput F x v) x = some v := by
 induction F with
 |nil => simp [mput, mget]
 |cons p r ih =>
  unfold mput
  by_cases e : p.1 = x
  ·rw [if_pos e]; exact mget_cons_eq rfl
  ·rw [if_neg e, mget_cons_ne e]; exact ih
theorem mget_mput_other [DecidableEq κ] (F : List (κ × ν)) {x y : κ} (h : x ≠ y) (v : ν) : mget (mput F x v) y = mget F y := by
 induction F with
 |nil => simp [mput, mget, h]
 |cons p r ih =>
  unfold mput
  by_cases e : p.1 = x
  ·rw [if_pos e, mget_cons_ne (p := (x, v)) h, mget_cons_ne (by rw [e]; exact h)]
  ·rw [if_neg e]
   by_cases e2 : p.1 = y
   ·rw [mget_cons_eq e2, mget_cons_eq e2]
   ·rw [mget_cons_ne e2, mget_cons_ne e2, ih]
theorem mget_mdel_same [DecidableEq κ] (F : List (κ × ν)) (x : κ) : mget (mdel F x) x = none := by
 refine mget_none fun p hp => ?_
 have := (List.mem_filter.1 hp).2
 simpa using this
theorem mget_mdel_other [DecidableEq κ] (F : List (κ × ν)) {x y : κ} (h : x ≠ y) : mget (mdel F x) y = mget F y := by
 induction F with
 |nil => rfl
 |cons p r ih =>
  unfold mdel at ih ⊢
  by_cases e : p.1 = x
  ·rw [List.filter_cons, if_neg (by simp [e]), mget_cons_ne (by rw [e]; exact h)]
   exact ih
  ·rw [List.filter_cons, if_pos (by simpa using e)]
   by_cases e2 : p.1 = y
   ·rw [mget_cons_eq e2, mget_cons_eq e2]
   ·rw [mget_cons_ne e2, mget_cons_ne e2, ih]
def mdone [DecidableEq κ] (g : ν → ν) (done : List κ) (F : List (κ × ν)) : List (κ × ν) := F.map (fun p => if p.1 ∈ done then (p.1, g p.2) else p)
def mall (g : ν → ν) (F : List (κ × ν)) : List (κ × ν) := F.map (fun p => (p.1, g p.2))
theorem mkeys_mdone [DecidableEq κ] (g : ν → ν) (done : List κ) (F : List (κ × ν)) : mkeys (mdone g done F) = mkeys F := by
 unfold mkeys mdone
 rw [List.map_map]
 exact List.map_congr_left fun p _ => by simp only [Function.comp]; split <;> rfl
theorem mem_mdone [DecidableEq κ] {g : ν → ν} {done : List κ} {F : List (κ × ν)} {x : κ} {v : ν} (h : (x, v) ∈ mdone g done F) (hx : x ∉ done) : (x, v) ∈ F := by
 unfold mdone at h
 obtain ⟨p, hp, he⟩ := List.mem_map.1 h
 split at he
 ·rename_i hd
  have : p.1 = x := congrArg Prod.fst he
  exact absurd (this ▸ hd) hx
 ·exact he ▸ hp
theorem mdone_put [DecidableEq κ] {g : ν → ν} {done : List κ} : ∀ {F : List (κ × ν)} (_ : (mkeys F).Nodup) {x : κ} {v : ν} (_ : (x, v) ∈ F) (_ : x ∉ done), mput (mdone g done F) x (g v) = mdone g (done ++ [x]) F
 |[], _, _, _, h, _ => by cases h
 |p :: r, hn, x, v, h, hx => by
  unfold mkeys at hn
  rw [List.map_cons, List.nodup_cons] at hn
  have hc : ∀ d, mdone g d (p :: r) = (if p.1 ∈ d then (p.1, g p.2) else p) :: mdone g d r := fun d => rfl
  rw [hc, hc]
  rcases List.mem_cons.1 h with rfl | h
  ·rw [if_neg hx, if_pos (by simp)]
   unfold mput
   rw [if_pos rfl]
   refine congrArg _ ?_
   unfold mdone
   refine List.map_congr_left fun q hq => ?_
   have : q.1 ≠ x := fun e => hn.1 (List.mem_map.2 ⟨q, hq, e⟩)
   simp [this]
  ·have hne : p.1 ≠ x := fun e => hn.1 (List.mem_map.2 ⟨(x, v), h, e.symm⟩)
   have e1 : (if p.1 ∈ done ++ [x] then (p.1, g p.2) else p) = if p.1 ∈ done then (p.1, g p.2) else p := by simp [hne]
   rw [e1]
   unfold mput
   rw [if_neg (by split <;> exact hne), mdone_put hn.2 h hx]
theorem mdone_all [DecidableEq κ] {g : ν → ν} {done : List κ} {F : List (κ × ν)} (h : ∀ x ∈ mkeys F, x ∈ done) : mdone g done F = mall g F := by
 unfold mdone mall
 exact List.map_congr_left fun p hp => if_pos (h _ (List.mem_map.2 ⟨p, hp, rfl⟩))
theorem mdone_cons [DecidableEq κ] (g : ν → ν) (done : List κ) (p : κ × ν) (r : List (κ × ν)) : (p.1 ∈ done ∧ mdone g done (p :: r) = (p.1, g p.2) :: mdone g done r) ∨ (p.1 ∉ done ∧ mdone g done (p :: r) = p :: mdone g done r) := by
 have hc : mdone g done (p :: r) = (if p.1 ∈ done then (p.1, g p.2) else p) :: mdone g done r := rfl
 by_cases h : p.1 ∈ done
 ·left; rw [hc, if_pos h]; exact ⟨h, rfl⟩
 ·right; rw [hc, if_neg h]; exact ⟨h, rfl⟩
theorem mem_mdone_out [DecidableEq κ] {g : ν → ν} {done : List κ} {F : List (κ × ν)} {x : κ} {v : ν} (h : (x, v) ∈ F) (hx : x ∉ done) : (x, v) ∈ mdone g done F := by
 unfold mdone
 exact List.mem_map.2 ⟨(x, v), h, if_neg hx⟩
theorem nodup_len [DecidableEq κ] : ∀ {a b : List κ} (_ : a.Nodup) (_ : ∀ x ∈ a, x ∈ b), a.length ≤ b.length
 |[], _, _, _ => Nat.zero_le _
 |x :: r, b, ha, h => by
  rw [List.nodup_cons] at ha
  have h1 := nodup_len (b := b.erase x) ha.2 (fun y hy => (List.mem_erase_of_ne (by rintro rfl; exact ha.1 hy)).2 (h y (by simp [hy])))
  have h2 := List.length_erase_of_mem (h x (by simp))
  have h3 := List.length_pos_of_mem (h x (by simp))
  simp only [List.length_cons]
  omega
theorem mdone_nil [DecidableEq κ] (g : ν → ν) (F : List (κ × ν)) : mdone g ([] : List κ) F = F := by
 unfold mdone
 simp
end
end
section
section
open Go.RowKit Go.Maps Go.MapKept Go.ChangeMaps
structure Fp (S : List Nat) (w w' : World) : Prop where
 os : w'.os = w.os
 tape : w'.tape = w.tape
 output : w'.output = w.output
 size : w.heap.size ≤ w'.heap.size
 block : ∀ k, k < w.heap.size → k ∉ S → w'.heap[k]? = w.heap[k]?
theorem Fp.refl (S : List Nat) (w : World) : Fp S w w := ⟨rfl, rfl, rfl, Nat.le_refl _, fun _ _ _ => rfl⟩
theorem Fp.trans {S S' : List Nat} {a b c : World} (h : Fp S a b) (k : Fp S' b c) (hs : ∀ i ∈ S', i ∈ S ∨ a.heap.size ≤ i) : Fp S a c :=
 ⟨k.os.trans h.os, k.tape.trans h.tape, k.output.trans h.output, Nat.le_trans h.size k.size, fun i hi hn =>
  (k.block i (Nat.lt_of_lt_of_le hi h.size) (fun hm => by rcases hs i hm with h1 | h1; exact hn h1; omega)).trans (h.block i hi hn)⟩
theorem Fp.mono {S S' : List Nat} {a b : World} (h : Fp S a b) (hs : ∀ i ∈ S, i ∈ S') : Fp S' a b :=
 ⟨h.os, h.tape, h.output, h.size, fun i hi hn => h.block i hi (fun hm => hn (hs i hm))⟩
theorem Fp.alloc (w : World) (o : Obj) : Fp [] w (w.alloc o) := ⟨rfl, rfl, rfl, by simp, fun k hk _ => Below.heap_alloc _ _ _ hk⟩
theorem Fp.setCell (w : World) (p : Addr) (u : Value) : Fp [p.block] w (w.setCell p u) :=
 ⟨rfl, rfl, rfl, by simp [World.setCell], fun k _ hn => Below.heap_setCell _ _ _ _ (by simpa using hn)⟩
theorem Fp.setBlock (w : World) (b : Nat) (o : Obj) : Fp [b] w (setBlock w b o) :=
 ⟨rfl, rfl, rfl, by simp [ChangeMaps.setBlock], fun k _ hn => by
  have : b ≠ k := fun e => hn (by simp [e])
  simp [ChangeMaps.setBlock, this]⟩
theorem Fp.drew (w : World) : Fp [] w w.drew := ⟨rfl, rfl, rfl, Nat.le_refl _, fun _ _ _ => rfl⟩
theorem Fp.alloc' {S : List Nat} {a w : World} (h : Fp S a w) (o : Obj) : Fp S a (w.alloc o) := h.trans (Fp.alloc w o) (by simp)
theorem Fp.drew' {S : List Nat} {a w : World} (h : Fp S a w) : Fp S a w.drew := h.trans (Fp.drew w) (by simp)
theorem Fp.setCell' {S : List Nat} {a w : World} (h : Fp S a w) {p : Addr} (hp : p.block ∈ S ∨ a.heap.size ≤ p.block) (u : Value) : Fp S a (w.setCell p u) := h.trans (Fp.setCell w p u) (by simpa using hp)
theorem Fp.setBlock' {S : List Nat} {a w : World} (h : Fp S a w) {b : Nat} (hb : b ∈ S ∨ a.heap.size ≤ b) (o : Obj) : Fp S a (ChangeMaps.setBlock w b o) := h.trans (Fp.setBlock w b o) (by simpa using hb)
theorem Fp.drewN (w : World) (n : Nat) : Fp [] w (w.drewN n) := ⟨rfl, rfl, rfl, Nat.le_refl _, fun _ _ _ => rfl⟩
theorem Fp.cell {S : List Nat} {w w' : World} (h : Fp S w w') {p : Addr} (hp : p.block < w.heap.size) (hn : p.block ∉ S) : w'.cell? p = w.cell? p := World.cell?_of_block (w := w) (h.block p.block hp hn)
theorem Fp.below {w w' : World} {S : List Nat} (h : Fp S w w') {B : Nat} (hB : B ≤ w.heap.size) (hs : ∀ i ∈ S, B ≤ i) : Below B w w' :=
 ⟨h.os, h.tape, h.output, h.size, fun k hk => h.block k (by omega) (fun hm => by have := hs k hm; omega)⟩
theorem Below.toFp {w w' : World} (h : Below w.heap.size w w') : Fp [] w w' := ⟨h.os, h.tape, h.output, h.size, fun k hk _ => h.block k hk⟩
theorem Fp.belowTrans {a b c : World} (h : Fp [] a b) (k : Below a.heap.size b c) : Fp [] a c :=
 ⟨k.os.trans h.os, k.tape.trans h.tape, k.output.trans h.output, Nat.le_trans h.size k.size, fun i hi hn => (k.block i hi).trans (h.block i hi hn)⟩
theorem heap_setCell_same {w : World} {b o : Nat} {c : Array Value} {T : TypeId} {fr : Nat × Nat} (h : w.heap[b]? = some (.cells c T fr)) (v : Value) :
  (w.setCell ⟨b, o, none⟩ v).heap[b]? = some (.cells (c.setIfInBounds o v) T fr) := by
 simp [World.setCell, Array.getElem?_modify, h]
theorem heap_setCell_other {w : World} {b b' o : Nat} (hn : b ≠ b') (v : Value) : (w.setCell ⟨b', o, none⟩ v).heap[b]? = w.heap[b]? := Below.heap_setCell _ _ _ _ hn
theorem heap_alloc_old {w : World} {b : Nat} {o o' : Obj} (h : w.heap[b]? = some o) : (w.alloc o').heap[b]? = some o := by
 rw [Below.heap_alloc _ _ _ (Array.getElem?_eq_some_iff.1 h).1]; exact h
theorem heap_alloc_at {w : World} {n : Nat} (h : n = w.heap.size) (o : Obj) : (w.alloc o).heap[n]? = some o := by
 subst h; exact (MapKept.heap_alloc w o).1
theorem heap_lt {w : World} {b : Nat} {o : Obj} (h : w.heap[b]? = some o) : b < w.heap.size := (Array.getElem?_eq_some_iff.1 h).1
theorem cell_of_block {w : World} {b : Nat} {c : Array Value} {T : TypeId} {fr : Nat × Nat} (h : w.heap[b]? = some (.cells c T fr)) (o : Nat) : w.cell? ⟨b, o, none⟩ = c[o]? := by
 simp [World.cell?, h]
theorem frozen_of_block {w : World} {b : Nat} {c : Array Value} {T : TypeId} (h : w.heap[b]? = some (.cells c T (0, 0))) (o : Nat) : w.frozen? ⟨b, o, none⟩ = false := by
 simp [World.frozen?, h]
theorem ret_bool {a b : Bool} (h : a = b) : Ending.returned (.bool a) = .returned (.bool b) := by rw [h]
theorem ret_int {k : IntKind} {a b : Int} (h : a = b) : Ending.returned (.int k a) = .returned (.int k b) := by rw [h]
theorem ret_str {a b : ByteArray} (h : a = b) : Ending.returned (.string a) = .returned (.string b) := by rw [h]
theorem str_empty {s : ByteArray} (h : s.size = 0) : s.toList.isEmpty = true := by
 rw [ByteArray.toList_eq]
 obtain ⟨⟨l⟩⟩ := s
 cases l with
 |nil => rfl
 |cons x r => cases h
theorem str_full {s : ByteArray} (h : 0 < s.size) : s.toList.isEmpty = false := by
 rw [ByteArray.toList_eq]
 obtain ⟨⟨l⟩⟩ := s
 cases l with
 |nil => exact absurd h (by decide)
 |cons x r => rfl
end
section
open Go.RowKit
def MaxAt (w : World) : Prop := ∃ m, w.cell? ⟨2, 0, none⟩ = some (.int .i64 m)
theorem MaxAt.fp {w w' : World} {S : List Nat} (h : MaxAt w) (hf : Fp S w w') (hs : 2 ∉ S) : MaxAt w' := by
 obtain ⟨m, hm⟩ := h
 exact ⟨m, by rw [hf.cell (World.block_lt_of_cell? _ _ hm) hs]; exact hm⟩
end
end
section
open Go.RowKit Go.Maps Go.MapKept Go.ChangeMaps
structure File where
 s : ByteArray
 synced : Nat
structure Dk where
 cap : Int
 size : Int
 files : List (ByteArray × File)
 off : Bool
 left : Int
 keep : Int
def fileV (f : File) : Value := .agg #[.string f.s, .int .i64 f.synced]
noncomputable def fileTy : MTy Tryz.prog 116 9 251 ByteArray File where
 K := string_keyed Tryz.underlying9
 ht := Tryz.underlying116
 kv := .string
 mv := fileV
 ok := fun s => s.size ≤ maxLen
 inj := fun h => by cases h; rfl
 key := fun h => ⟨_, Go.WideMaps.keyOf_string_mk Tryz.underlying9 h⟩
 zero := ⟨⟨#[]⟩, 0⟩
 hz := fun w => by kernel_rfl
def dkCells (d : Dk) (bm : Nat) : Array Value := #[.int .i64 d.cap, .int .i64 d.size, .map (some bm), .bool d.off, .int .i64 d.left, .int .i64 d.keep]
structure DiskAt (w : World) (b bm : Nat) (d : Dk) : Prop where
 cells : w.heap[b]? = some (.cells (dkCells d bm) 118 (0, 0))
 files : MapAt fileTy w bm d.files
theorem DiskAt.ne {w : World} {b bm : Nat} {d : Dk} (h : DiskAt w b bm d) : b ≠ bm := by
 rintro rfl
 obtain ⟨es, clock, h1, _⟩ := h.files
 rw [h.cells] at h1
 cases h1
theorem DiskAt.of_fp {w w' : World} {S : List Nat} {b bm : Nat} {d : Dk} (h : DiskAt w b bm d) (hf : Fp S w w') (h1 : b ∉ S) (h2 : bm ∉ S) : DiskAt w' b bm d :=
 ⟨(hf.block b (heap_lt h.cells) h1).trans h.cells, h.files.of_block (hf.block bm h.files.lt h2)⟩
def zeroFile : File := ⟨⟨#[]⟩, 0⟩
def fget (d : Dk) (name : ByteArray) : File := (mget d.files name).getD zeroFile
def Dk.set (d : Dk) (name : ByteArray) (f : File) (gone : Bool) : Dk :=
 { d with size := d.size + (f.s.size - (fget d name).s.size), files := if gone then mdel (mput d.files name f) name else mput d.files name f }
end
end Go.Proofs.YtkagolpnaicdoaaGreatDoor
