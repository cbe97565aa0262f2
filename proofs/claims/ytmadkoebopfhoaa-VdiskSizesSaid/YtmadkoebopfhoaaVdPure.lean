/-
  The disk as data: what its calls keep to.
-/
import Derived.Test.YtmadkoebopfhoaaVdThere
namespace Go.Proofs.Ytmadkoebopfhoaa
open Go.RowKit Go.Maps Go.MapKept Go.ChangeMaps

theorem DkOK.tick {d : Dk} (h : DkOK d) : DkOK d.tick := by
  obtain ⟨h1, h2, h3, h4, h5, h6, h7, h8, h9, h10⟩ := h
  refine ⟨h1, h2, h3, h4, h5, h6, ?_, ?_, h9, h10⟩
  · show 0 ≤ max (d.left - 1) 0; omega
  · show max (d.left - 1) 0 ≤ _; omega

theorem total_mall {keep : Int} {F : List (ByteArray × File)} (h : ∀ p ∈ F, p.2.synced ≤ p.2.s.size) : total (mall (crashFile keep) F) ≤ total F := by
  have := total_mdone (keep := keep) (done := mkeys F) h
  rwa [mdone_all (fun x hx => hx)] at this

theorem crashFile_ok (keep : Int) (f : File) : (crashFile keep f).synced ≤ (crashFile keep f).s.size := Nat.le_refl _

theorem mkeys_mall {κ ν : Type} (g : ν → ν) (F : List (κ × ν)) : mkeys (mall g F) = mkeys F := by
  unfold mkeys mall
  rw [List.map_map]
  rfl

theorem DkOK.crash {d : Dk} (h : DkOK d) (keep : Int) : DkOK (d.crash keep) := by
  obtain ⟨h1, h2, h3, h4, h5, h6, h7, h8, h9, h10⟩ := h
  refine ⟨rfl, ?_, h3, ?_, ?_, ?_, h7, h8, h9, h10⟩
  · show ((total (mall (crashFile keep) d.files) : Nat) : Int) ≤ d.cap
    have := total_mall (keep := keep) h5
    omega
  · show (mkeys (mall (crashFile keep) d.files)).Nodup
    rw [mkeys_mall]
    exact h4
  · intro p hp
    obtain ⟨q, _, rfl⟩ := List.mem_map.1 hp
    exact crashFile_ok _ _
  · show (mall (crashFile keep) d.files).length ≤ 200
    unfold mall
    simpa using h6

theorem DkOK.burnt {d d2 : Dk} (h : DkOK d2) : DkOK (d.burnt d2) := by
  unfold Dk.burnt
  split
  · exact h.crash _
  · exact h

theorem DkOK.on {d : Dk} (h : DkOK d) : DkOK d.on := by
  obtain ⟨h1, h2, h3, h4, h5, h6, h7, h8, h9, h10⟩ := h
  exact ⟨h1, h2, h3, h4, h5, h6, by show (0 : Int) ≤ 0; omega, by show (0 : Int) ≤ _; omega, h9, h10⟩

theorem DkOK.fuse {d : Dk} (h : DkOK d) {n keep : Int} (h1 : n ≤ 9223372036854775807) (h2 : -9223372036854775808 ≤ keep) (h3 : keep ≤ 9223372036854775807) : DkOK (d.fuse n keep) := by
  obtain ⟨g1, g2, g3, g4, g5, g6, g7, g8, g9, g10⟩ := h
  exact ⟨g1, g2, g3, g4, g5, g6, by show 0 ≤ max n 0; omega, by show max n 0 ≤ _; omega, h2, h3⟩

theorem DkOK.new {cap : Int} (h : cap ≤ 1000000000) : DkOK (Dk.new cap) :=
  ⟨rfl, by show ((0 : Nat) : Int) ≤ max cap 0; omega, by show max cap 0 ≤ _; omega, List.nodup_nil, (fun p hp => absurd hp (List.not_mem_nil)), Nat.zero_le _, Int.le_refl _, (by show (0 : Int) ≤ 9223372036854775807; decide), (by show (-9223372036854775808 : Int) ≤ 0; decide), (by show (0 : Int) ≤ 9223372036854775807; decide)⟩

theorem mkeys_mput_new {κ ν : Type} [DecidableEq κ] {F : List (κ × ν)} {x : κ} {v : ν} (h : mget F x = none) : mkeys (mput F x v) = mkeys F ++ [x] := by
  rw [mput_none (mget_none_iff.1 h)]
  simp [mkeys]

theorem nodup_mput {κ ν : Type} [DecidableEq κ] {F : List (κ × ν)} {x : κ} {v : ν} (h : (mkeys F).Nodup) : (mkeys (mput F x v)).Nodup := by
  cases hg : mget F x with
  | none =>
    rw [mkeys_mput_new hg, List.nodup_append]
    refine ⟨h, by simp, ?_⟩
    intro a ha c hc
    rw [List.mem_singleton] at hc
    rintro rfl
    obtain ⟨p, hp, rfl⟩ := List.mem_map.1 ha
    exact mget_none_iff.1 hg p hp hc
  | some y => rw [mkeys_mput (by rw [hg]; rfl)]; exact h

theorem nodup_mdel {κ ν : Type} [DecidableEq κ] {F : List (κ × ν)} {x : κ} (h : (mkeys F).Nodup) : (mkeys (mdel F x)).Nodup := by
  unfold mkeys mdel
  exact List.Nodup.sublist (List.Sublist.map _ (List.filter_sublist)) h

theorem total_new {F : List (ByteArray × File)} {x : ByteArray} {f : File} (h : mget F x = none) : total (mput F x f) = total F + f.s.size := by
  rw [mput_none (mget_none_iff.1 h)]
  simp [total]

theorem total_put {F : List (ByteArray × File)} (hn : (mkeys F).Nodup) (x : ByteArray) (f : File) : total (mput F x f) + ((mget F x).getD zeroFile).s.size = total F + f.s.size := by
  cases h : mget F x with
  | none => rw [total_new h]; rfl
  | some v => exact total_mput hn h

theorem total_mdel : ∀ {F : List (ByteArray × File)} (_ : (mkeys F).Nodup) (x : ByteArray), total (mdel F x) + ((mget F x).getD zeroFile).s.size = total F
  | [], _, x => rfl
  | p :: r, hn, x => by
    unfold mkeys at hn
    rw [List.map_cons, List.nodup_cons] at hn
    by_cases e : p.1 = x
    · have h0 : ∀ q ∈ r, q.1 ≠ x := fun q hq e2 => hn.1 (List.mem_map.2 ⟨q, hq, e2.trans e.symm⟩)
      have h1 : mdel (p :: r) x = mdel r x := by
        unfold mdel
        rw [List.filter_cons, if_neg (by simp [e])]
      rw [h1, mdel_none h0, mget_cons_eq e]
      simp [total]; omega
    · have h1 : mdel (p :: r) x = p :: mdel r x := by
        unfold mdel
        rw [List.filter_cons, if_pos (by simpa using e)]
      rw [h1, mget_cons_ne e]
      have := total_mdel hn.2 x
      simp [total] at this ⊢; omega

theorem length_mput {κ ν : Type} [DecidableEq κ] (F : List (κ × ν)) (x : κ) (v : ν) : (mput F x v).length = if (mget F x).isSome then F.length else F.length + 1 := by
  cases h : mget F x with
  | none => rw [mput_none (mget_none_iff.1 h)]; simp
  | some y =>
    have := congrArg List.length (mkeys_mput (v := v) (by rw [h]; rfl : (mget F x).isSome = true))
    simpa [mkeys] using this

theorem length_mdel {κ ν : Type} [DecidableEq κ] : ∀ {F : List (κ × ν)} (_ : (mkeys F).Nodup) (x : κ), (mdel F x).length + (if (mget F x).isSome then 1 else 0) = F.length
  | [], _, x => rfl
  | p :: r, hn, x => by
    unfold mkeys at hn
    rw [List.map_cons, List.nodup_cons] at hn
    by_cases e : p.1 = x
    · have h0 : ∀ q ∈ r, q.1 ≠ x := fun q hq e2 => hn.1 (List.mem_map.2 ⟨q, hq, e2.trans e.symm⟩)
      have h1 : mdel (p :: r) x = mdel r x := by
        unfold mdel
        rw [List.filter_cons, if_neg (by simp [e])]
      rw [h1, mdel_none h0, mget_cons_eq e]
      simp
    · have h1 : mdel (p :: r) x = p :: mdel r x := by
        unfold mdel
        rw [List.filter_cons, if_pos (by simpa using e)]
      rw [h1, mget_cons_ne e]
      have := length_mdel hn.2 x
      simp only [List.length_cons]; omega

/-- a file is laid -/
theorem DkOK.put {d : Dk} (h : DkOK d) (name : ByteArray) (f : File) (h1 : (total d.files : Int) + f.s.size - (fget d name).s.size ≤ d.cap) (h2 : f.synced ≤ f.s.size) (h3 : (mget d.files name).isSome = true ∨ d.files.length < 200) : DkOK (d.set name f false) := by
  obtain ⟨g1, g2, g3, g4, g5, g6, g7, g8, g9, g10⟩ := h
  have ht := total_put g4 name f
  have hf : ((mget d.files name).getD zeroFile) = fget d name := rfl
  rw [hf] at ht
  refine ⟨?_, ?_, g3, nodup_mput g4, ?_, ?_, g7, g8, g9, g10⟩
  · show d.size + _ = ((total (mput d.files name f) : Nat) : Int)
    omega
  · show ((total (mput d.files name f) : Nat) : Int) ≤ d.cap
    omega
  · intro p hp
    rcases mem_mput hp with hp | rfl
    · exact g5 p hp
    · exact h2
  · show (mput d.files name f).length ≤ 200
    rw [length_mput]
    rcases h3 with h3 | h3
    · rw [if_pos h3]; exact g6
    · split <;> omega

/-- a file is gone -/
theorem DkOK.gone {d : Dk} (h : DkOK d) (name : ByteArray) (h3 : (mget d.files name).isSome = true) : DkOK (d.set name zeroFile true) := by
  obtain ⟨g1, g2, g3, g4, g5, g6, g7, g8, g9, g10⟩ := h
  have ht := total_put g4 name zeroFile
  have hf : ((mget d.files name).getD zeroFile) = fget d name := rfl
  rw [hf] at ht
  have ht2 := total_mdel (nodup_mput (x := name) (v := zeroFile) g4) name
  rw [mget_mput_same] at ht2
  have hz : zeroFile.s.size = 0 := rfl
  simp only [Option.getD_some] at ht2
  have hl := length_mdel (nodup_mput (x := name) (v := zeroFile) g4) name
  rw [mget_mput_same, length_mput, if_pos h3] at hl
  refine ⟨?_, ?_, g3, nodup_mdel (nodup_mput g4), ?_, ?_, g7, g8, g9, g10⟩
  · show d.size + _ = ((total (mdel (mput d.files name zeroFile) name) : Nat) : Int)
    omega
  · show ((total (mdel (mput d.files name zeroFile) name) : Nat) : Int) ≤ d.cap
    omega
  · intro p hp
    rcases mem_mput (List.mem_filter.1 hp).1 with hp | rfl
    · exact g5 p hp
    · exact Nat.le_refl _
  · show (mdel (mput d.files name zeroFile) name).length ≤ 200
    omega

theorem DkOK.file {d : Dk} (h : DkOK d) {name : ByteArray} {f : File} (hf : mget d.files name = some f) : f.synced ≤ f.s.size ∧ f.s.size ≤ total d.files :=
  ⟨h.sync _ (mget_mem hf), mem_total (mget_mem hf)⟩

theorem DkOK.fget_le {d : Dk} (h : DkOK d) (name : ByteArray) : (fget d name).s.size ≤ 1000000000 := by
  unfold fget
  cases hf : mget d.files name with
  | none => exact Nat.zero_le _
  | some f => exact Nat.le_trans (h.file hf).2 h.le
end Go.Proofs.Ytmadkoebopfhoaa
