/-
  The names of a disk's files, as the library's contract on a map's sorted keys has them.
-/
import Derived.Test.YtmadkoebopfhoaaVdPure
import Derived.Sort.KeysCollected
import Derived.Sort.EncStr
import Derived.Maps.Own
import Derived.Shelf.ItemsParts
namespace Go.Proofs.Ytmadkoebopfhoaa
open Go.RowKit Go.Maps Go.MapKept
open Go.WideElems (Fit rd rg)

/-- a value that nobody asks for -/
def anyElem (_ : Value) : Option (DataW Unit × List MemPlace) := some (.nil, [])

theorem rd_of {x : MapEntry} {s : ByteArray} (h : x.key = .string s) (hs : s.size ≤ maxLen) : rd Try.prog 9 anyElem x = some (.string s.data.toList, .nil) := by
  unfold rd
  rw [h, Go.WideMaps.keyOf_string_mk Try.underlying9 hs]
  rfl

theorem rg_of {x : MapEntry} {s : ByteArray} (h : x.key = .string s) (hs : s.size ≤ maxLen) : rg Try.prog 9 anyElem x = (.string s.data.toList, .nil) := by
  unfold rg
  rw [rd_of h hs]
  rfl

theorem owns_files {w : World} {b : Nat} {F : List (ByteArray × File)} (h : MapAt fileTy w b F) (hF : F.length ≤ 200) :
    ∃ D0 : DataW Unit, w.ownsMap Try.prog 9 anyElem b 200 D0 ∧ Maps.size D0 ≤ 200 ∧ (strKeys D0).Perm (F.map (fun p => p.1.data.toList)) := by
  obtain ⟨es, clock, hb, hst, hE, hok⟩ := h
  have hlen : es.size = F.length := by
    have := congrArg List.length hE
    simpa using this
  have hkey : ∀ x ∈ es.toList, ∃ s : ByteArray, x.key = .string s ∧ s.size ≤ maxLen := by
    intro x hx
    obtain ⟨j, hj⟩ := List.getElem?_of_mem hx
    obtain ⟨p, hp, h1, _⟩ := entry_of (M := fileTy) hE hj
    exact ⟨p.1, h1, hok p (List.mem_of_getElem? hp)⟩
  refine ⟨.map ((es.toList.map (rg Try.prog 9 anyElem)).foldr DataW.insert []), ⟨es, clock, hb, ⟨?_, hst, ?_⟩, by omega, rfl⟩, ?_, ?_⟩
  · unfold maxLen; omega
  · intro x hx
    obtain ⟨s, h1, h2⟩ := hkey x hx
    exact ⟨_, rd_of h1 h2⟩
  · rw [Maps.size_eq, Go.WideShapes.sorted_perm _ |>.length_eq]
    simp only [List.length_map, Array.length_toList]
    omega
  · have hp := (Go.WideShapes.sorted_perm (es.toList.map (rg Try.prog 9 anyElem))).map (fun p => Go.strOf p.1)
    refine List.Perm.trans hp (List.Perm.of_eq ?_)
    rw [List.map_map]
    apply List.ext_getElem?
    intro j
    rw [List.getElem?_map, List.getElem?_map]
    cases hj : es.toList[j]? with
    | none =>
      have hj' : F[j]? = none := by
        rw [List.getElem?_eq_none_iff] at hj ⊢
        simp only [Array.length_toList] at hj
        omega
      rw [hj']; rfl
    | some x =>
      obtain ⟨p, hp, h1, _⟩ := entry_of (M := fileTy) hE hj
      rw [hp]
      have := rg_of h1 (hok p (List.mem_of_getElem? hp))
      simp only [Option.map_some, Function.comp_apply, this]
      rfl

/-- what a disk tells of its files: their names, rising -/
structure ListOf (d : Dk) (ns : List ByteArray) : Prop where
  perm : ns.Perm (mkeys d.files)
  rise : ns.Pairwise (fun a b => a.data.toList < b.data.toList)

/-- where a slice of names that was made behind block n lies -/
def NamesAt (w : World) (n : Nat) (a : Option Addr) (ns : List ByteArray) : Prop :=
  ns = [] ∨ ∃ g, a = some ⟨g, 0, none⟩ ∧ n ≤ g ∧ g < w.heap.size ∧ ∀ i (h : i < ns.length), w.cell? ⟨g, i, none⟩ = some (.string ns[i])

theorem NamesAt.fp {w w' : World} {n : Nat} {a : Option Addr} {ns : List ByteArray} {S : List Nat} (h : NamesAt w n a ns) (hf : Fp S w w') (hS : ∀ k ∈ S, k < n) : NamesAt w' n a ns := by
  rcases h with h | ⟨g, rfl, hn, hg, hc⟩
  · exact Or.inl h
  · refine Or.inr ⟨g, rfl, hn, Nat.lt_of_lt_of_le hg hf.size, fun i hi => ?_⟩
    rw [hf.cell (by exact hg) (by intro hk; have := hS g hk; omega)]
    exact hc i hi

/-- the disk's List -/
def ListGives : Prop := ∀ (w : World) (b bm : Nat) (d : Dk), DiskAt w b bm d → DkOK d →
  Calls Try.prog 20 #[.pointer (some ⟨b, 0, none⟩)] w fun e w' => ∃ a cap ns, e = .returned (.slice a ns.length cap) ∧ ListOf d ns ∧ NamesAt w' w.heap.size a ns ∧ Fp [] w w'

theorem sorted_names {ss : List (List UInt8)} {F : List (ByteArray × File)} (hn : (mkeys F).Nodup) (hp : ss.Perm (F.map (fun p => p.1.data.toList))) :
    ((ss.mergeSort (fun x y => decide (x ≤ y))).map (fun l => (⟨l.toArray⟩ : ByteArray))).Perm (mkeys F) ∧
    ((ss.mergeSort (fun x y => decide (x ≤ y))).map (fun l => (⟨l.toArray⟩ : ByteArray))).Pairwise (fun a b => a.data.toList < b.data.toList) := by
  have hp2 := (List.mergeSort_perm ss (fun x y => decide (x ≤ y))).trans hp
  have h1 : ((ss.mergeSort (fun x y => decide (x ≤ y))).map (fun l => (⟨l.toArray⟩ : ByteArray))).Perm (mkeys F) := by
    have := hp2.map (fun l => (⟨l.toArray⟩ : ByteArray))
    refine this.trans (List.Perm.of_eq ?_)
    unfold mkeys
    rw [List.map_map]
    apply List.map_congr_left
    intro p _
    rfl
  refine ⟨h1, ?_⟩
  have hnd : ((ss.mergeSort (fun x y => decide (x ≤ y))).map (fun l => (⟨l.toArray⟩ : ByteArray))).Nodup := h1.nodup_iff.2 hn
  rw [List.pairwise_map]
  unfold List.Nodup at hnd
  rw [List.pairwise_map] at hnd
  have hs : (ss.mergeSort (fun x y => decide (x ≤ y))).Pairwise (fun x y => decide (x ≤ y) = true) :=
    List.pairwise_mergeSort (by
      intro a b c h1 h2
      simp only [decide_eq_true_eq] at h1 h2 ⊢
      exact List.le_trans h1 h2) (by
      intro a b
      have := List.le_total a b
      simp only [Bool.or_eq_true, decide_eq_true_eq]
      exact this) ss
  refine (hs.and hnd).imp ?_
  intro x y ⟨h1, h2⟩
  simp only [decide_eq_true_eq] at h1
  show x < y
  by_cases h : x < y
  · exact h
  · exfalso
    have : y ≤ x := h
    exact h2 (by rw [List.le_antisymm h1 this])
end Go.Proofs.Ytmadkoebopfhoaa
