/-
  A disk of empty files, as data.
-/
import Derived.Test.YtmadkoebopfhoaaVdOne
import Derived.Test.YtmadkoebopfhoaaVdKeys
namespace Go.Proofs.Ytmadkoebopfhoaa
open Go.RowKit Go.Maps Go.MapKept Go.ChangeMaps

noncomputable def intTy : MTy Try.prog 41 9 3 ByteArray Int where
  K := string_keyed Try.underlying9
  ht := Try.underlying41
  kv := .string
  mv := fun n => .int .i64 n
  ok := fun s => s.size ≤ maxLen
  inj := fun h => by cases h; rfl
  key := fun h => ⟨_, Go.WideMaps.keyOf_string_mk Try.underlying9 h⟩
  zero := 0
  hz := fun w => by kernel_rfl

def nameD (N : List ByteArray) : Dk := { cap := 10, size := 0, files := N.map (fun s => (s, zeroFile)), off := false, left := 0, keep := 0 }
def onceF (N : List ByteArray) : List (ByteArray × Int) := N.map (fun s => (s, 1))

theorem mget_map_in {ν : Type} (v : ν) (x : ByteArray) : ∀ (N : List ByteArray), x ∈ N → mget (N.map (fun s => (s, v))) x = some v
  | [], h => by cases h
  | a :: r, h => by
    rw [List.map_cons]
    by_cases e : a = x
    · subst e; exact mget_cons_eq rfl
    · rw [mget_cons_ne e, mget_map_in v x r (by rcases List.mem_cons.1 h with h | h; exact absurd h.symm e; exact h)]

theorem mget_map_out {ν : Type} (v : ν) {x : ByteArray} {N : List ByteArray} (h : x ∉ N) : mget (N.map (fun s => (s, v))) x = none := by
  rw [mget_none_iff]
  intro p hp
  obtain ⟨s, hs, rfl⟩ := List.mem_map.1 hp
  exact fun e => h (by rw [← e]; exact hs)

theorem mput_map_in {ν : Type} (v : ν) (x : ByteArray) : ∀ (N : List ByteArray), x ∈ N → mput (N.map (fun s => (s, v))) x v = N.map (fun s => (s, v))
  | [], h => by cases h
  | a :: r, h => by
    rw [List.map_cons]
    unfold mput
    by_cases e : a = x
    · subst e; rw [if_pos rfl]
    · rw [if_neg e, mput_map_in v x r (by rcases List.mem_cons.1 h with h | h; exact absurd h.symm e; exact h)]

theorem mput_map_new {ν : Type} (v : ν) {x : ByteArray} {N : List ByteArray} (h : x ∉ N) : mput (N.map (fun s => (s, v))) x v = (N ++ [x]).map (fun s => (s, v)) := by
  rw [mput_none]
  · simp
  · intro p hp
    obtain ⟨s, hs, rfl⟩ := List.mem_map.1 hp
    exact fun e => h (by rw [← e]; exact hs)

theorem mdel_map {ν : Type} (v : ν) (x : ByteArray) (N : List ByteArray) : mdel (N.map (fun s => (s, v))) x = (N.filter (fun s => decide (s ≠ x))).map (fun s => (s, v)) := by
  unfold mdel
  rw [List.filter_map]
  rfl

theorem total_names (N : List ByteArray) : total (N.map (fun s => (s, zeroFile))) = 0 := by
  induction N with
  | nil => rfl
  | cons a r ih =>
    unfold total at ih ⊢
    simp only [List.map_cons, List.sum_cons]
    rw [ih]
    rfl

theorem mkeys_names (N : List ByteArray) : mkeys (nameD N).files = N := by
  show (N.map (fun s => (s, zeroFile))).map (·.1) = N
  rw [List.map_map]
  exact List.map_id _

theorem nameOK {N : List ByteArray} (h : N.Nodup) (hl : N.length ≤ 200) : DkOK (nameD N) := by
  refine ⟨?_, ?_, by show (10 : Int) ≤ _; decide, by rw [mkeys_names]; exact h, ?_, by show (N.map _).length ≤ 200; simpa using hl, by show (0 : Int) ≤ 0; decide, by show (0 : Int) ≤ _; decide, by show _ ≤ (0 : Int); decide, by show (0 : Int) ≤ _; decide⟩
  · show (0 : Int) = (total (N.map (fun s => (s, zeroFile))) : Nat)
    rw [total_names]; rfl
  · show ((total (N.map (fun s => (s, zeroFile))) : Nat) : Int) ≤ 10
    rw [total_names]; decide
  · intro p hp
    obtain ⟨s, _, rfl⟩ := List.mem_map.1 (show p ∈ N.map (fun s => (s, zeroFile)) from hp)
    exact Nat.zero_le _

theorem name_named (N : List ByteArray) (x : ByteArray) : (nameD N).named [x] = if nameOk x then 0 else 1 := by
  unfold Dk.named
  rw [show (nameD N).off = false from rfl, if_neg (by simp)]
  simp

theorem name_bad {N : List ByteArray} {x : ByteArray} (h : nameOk x = false) : (nameD N).create x = nameD N ∧ (nameD N).createE x = 1 := by
  unfold Dk.create Dk.createE
  rw [name_named, h]
  exact ⟨by rw [if_pos (by simp)], by rw [if_pos (by simp)]; rfl⟩

theorem name_twice {N : List ByteArray} {x : ByteArray} (h : nameOk x = true) (hx : x ∈ N) : (nameD N).create x = nameD N ∧ (nameD N).createE x = 4 := by
  unfold Dk.create Dk.createE
  rw [name_named, h, show mget (nameD N).files x = some zeroFile from (mget_map_in zeroFile x N hx)]
  exact ⟨by rw [if_neg (by simp)]; rfl, by rw [if_neg (by simp)]; rfl⟩

theorem name_new {N : List ByteArray} {x : ByteArray} (h : nameOk x = true) (hx : x ∉ N) (hl : N.length < 200) : (nameD N).create x = nameD (N ++ [x]) ∧ (nameD N).createE x = 0 := by
  have hg : mget (nameD N).files x = none := mget_map_out zeroFile hx
  have hlen : (nameD N).files.length = N.length := by show (N.map _).length = _; simp
  unfold Dk.create Dk.createE
  rw [name_named, h, hg, hlen]
  refine ⟨?_, by rw [if_neg (by simp), if_neg (by simp), if_neg (by omega)]; rfl⟩
  rw [if_neg (by simp), if_neg (by simp), if_neg (by omega)]
  unfold Dk.burnt
  rw [if_neg (by show (0 : Int) ≠ 1; decide)]
  unfold Dk.createG
  rw [show (nameD N).does false = true from rfl, if_pos rfl]
  unfold Dk.set
  have hf : fget (nameD N).tick x = zeroFile := by
    unfold fget
    rw [show (nameD N).tick.files = (nameD N).files from rfl, hg]
    rfl
  rw [hf]
  simp only [Bool.false_eq_true, if_false]
  have hp : mput (nameD N).tick.files x zeroFile = (N ++ [x]).map (fun s => (s, zeroFile)) := mput_map_new zeroFile hx
  rw [hp]
  rfl

theorem name_delete {N : List ByteArray} {x : ByteArray} (h : nameOk x = true) (hx : x ∈ N) : (nameD N).delete x = nameD (N.filter (fun s => decide (s ≠ x))) ∧ (nameD N).thereE x = 0 := by
  have hg : mget (nameD N).files x = some zeroFile := mget_map_in zeroFile x N hx
  unfold Dk.delete Dk.thereD Dk.thereE
  rw [name_named, h, hg]
  refine ⟨?_, by rw [if_neg (by simp)]; rfl⟩
  rw [if_neg (by simp)]
  simp only
  unfold Dk.burnt
  rw [if_neg (by show (0 : Int) ≠ 1; decide)]
  unfold Dk.deleteG
  rw [show (nameD N).does false = true from rfl, if_pos rfl]
  unfold Dk.set
  have hf : fget (nameD N).tick x = zeroFile := by
    unfold fget
    rw [show (nameD N).tick.files = (nameD N).files from rfl, hg]
    rfl
  rw [hf]
  simp only [if_true]
  have hp : mput (nameD N).tick.files x zeroFile = N.map (fun s => (s, zeroFile)) := mput_map_in zeroFile x N hx
  rw [hp, mdel_map]
  rfl

/-- of rising names the first one is taken away -/
theorem gone_first {M ns : List ByteArray} {i : Nat} (hp : M.Perm (ns.drop i)) (hi : i < ns.length) (hn : ns.Nodup) : (M.filter (fun s => decide (s ≠ ns[i]))).Perm (ns.drop (i + 1)) := by
  rw [List.drop_eq_getElem_cons hi] at hp
  have h1 := hp.filter (fun s => decide (s ≠ ns[i]))
  rw [List.filter_cons_of_neg (by simp)] at h1
  refine h1.trans (List.Perm.of_eq (List.filter_eq_self.2 ?_))
  intro s hs
  have hnd : (ns.drop i).Nodup := hn.sublist (List.drop_sublist i ns)
  rw [List.drop_eq_getElem_cons hi, List.nodup_cons] at hnd
  simp only [decide_eq_true_eq]
  exact fun e => hnd.1 (by rw [← e]; exact hs)

theorem first_in {M ns : List ByteArray} {i : Nat} (hp : M.Perm (ns.drop i)) (hi : i < ns.length) : ns[i] ∈ M := by
  rw [hp.mem_iff, List.drop_eq_getElem_cons hi]
  exact List.mem_cons_self

theorem list_names {N ns : List ByteArray} (h : ListOf (nameD N) ns) : ns.Perm N := by
  have := h.perm
  rw [mkeys_names] at this
  exact this
end Go.Proofs.Ytmadkoebopfhoaa
