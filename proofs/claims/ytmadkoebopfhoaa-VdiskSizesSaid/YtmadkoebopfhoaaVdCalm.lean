/-
  A disk without a fuse, as data: what is done to it.
-/
import Derived.Test.YtmadkoebopfhoaaVdOps2
import Derived.Test.YtmadkoebopfhoaaVdKeys
namespace Go.Proofs.Ytmadkoebopfhoaa
open Go.RowKit Go.Maps Go.MapKept Go.ChangeMaps

structure Calm (d : Dk) : Prop where
  ok : DkOK d
  cap : d.cap = 5000
  off : d.off = false
  left : d.left = 0
  names : ∀ p ∈ d.files, nameOk p.1 = true

theorem Calm.new : Calm (Dk.new 5000) := ⟨DkOK.new (by decide), rfl, rfl, rfl, by intro p hp; cases hp⟩

theorem Calm.tick {d : Dk} (h : Calm d) : d.tick = d := by
  obtain ⟨c, s, f, o, l, k⟩ := d
  have hl : l = 0 := h.left
  subst hl
  rfl
theorem Calm.does {d : Dk} (h : Calm d) (b : Bool) : d.does b = true := by
  unfold Dk.does
  rw [h.left]
  simp
theorem Calm.burnt {d : Dk} (h : Calm d) (d2 : Dk) : d.burnt d2 = d2 := by
  unfold Dk.burnt
  rw [if_neg (by rw [h.left]; decide)]
theorem Calm.told {d : Dk} (h : Calm d) : d.told = 0 := by
  unfold Dk.told
  rw [if_neg (by rw [h.left]; decide)]
theorem Calm.named {d : Dk} (h : Calm d) (n : ByteArray) : d.named [n] = if nameOk n then 0 else 1 := by
  unfold Dk.named
  rw [h.off, if_neg (by simp)]
  simp

theorem Calm.there {d : Dk} (h : Calm d) (n : ByteArray) (g : File → Dk) :
    (d.thereD n g = d ∧ d.thereE n ≠ 0) ∨ ∃ f, mget d.files n = some f ∧ nameOk n = true ∧ d.thereD n g = g f ∧ d.thereE n = 0 := by
  unfold Dk.thereD Dk.thereE
  rw [h.named]
  cases hn : nameOk n with
  | false => exact Or.inl ⟨by simp, by simp⟩
  | true =>
    cases hg : mget d.files n with
    | none => exact Or.inl ⟨by simp, by simp⟩
    | some f => exact Or.inr ⟨f, rfl, rfl, by simp [h.burnt], by simp [h.told]⟩

theorem Calm.put {d : Dk} (h : Calm d) {n : ByteArray} {f : File} (hn : nameOk n = true) (hok : DkOK (d.set n f false)) : Calm (d.set n f false) := by
  refine ⟨hok, h.cap, h.off, h.left, ?_⟩
  intro p hp
  rcases mem_mput (show p ∈ mput d.files n f from hp) with hp | rfl
  · exact h.names p hp
  · exact hn

theorem Calm.gone {d : Dk} (h : Calm d) {n : ByteArray} (hn : nameOk n = true) (hok : DkOK (d.set n zeroFile true)) : Calm (d.set n zeroFile true) := by
  refine ⟨hok, h.cap, h.off, h.left, ?_⟩
  intro p hp
  have hp' : p ∈ mdel (mput d.files n zeroFile) n := hp
  unfold mdel at hp'
  rcases mem_mput (List.mem_filter.1 hp').1 with hp | rfl
  · exact h.names p hp
  · exact hn

theorem fget_of {d : Dk} {n : ByteArray} {f : File} (h : mget d.files n = some f) : fget d n = f := by
  unfold fget; rw [h]; rfl

theorem Calm.create {d : Dk} (h : Calm d) (n : ByteArray) : Calm (d.create n) := by
  unfold Dk.create
  rw [h.named]
  cases hn : nameOk n with
  | false => simpa using h
  | true =>
    simp only [if_true]
    rw [if_neg (by simp)]
    cases hg : (mget d.files n).isSome with
    | true => simpa using h
    | false =>
      simp only [Bool.false_eq_true, if_false]
      by_cases hl : 200 ≤ d.files.length
      · rw [if_pos hl]; exact h
      · rw [if_neg hl, h.burnt]
        unfold Dk.createG
        rw [h.does, if_pos rfl, h.tick]
        refine h.put hn (h.ok.put n zeroFile ?_ (Nat.le_refl _) (Or.inr (by omega)))
        have := h.ok.fits
        show (total d.files : Int) + (0 : Nat) - _ ≤ _
        omega

theorem Calm.append {d : Dk} (h : Calm d) (n s : ByteArray) : Calm (d.append n s) ∧ (d.appendE n s = 0 → (d.read n).2 = 0 ∧ (d.append n s).read n = ((d.read n).1 ++ s, 0)) := by
  unfold Dk.append Dk.appendE
  cases hfull : d.full n s with
  | true =>
    simp only [if_true]
    exact ⟨h, fun e => by cases e⟩
  | false =>
    simp only [Bool.false_eq_true, if_false]
    rcases h.there n (fun f => d.tick.set n (addTo s f) false) with ⟨h1, h2⟩ | ⟨f, hg, hn, h1, h2⟩
    · rw [h1]
      exact ⟨h, fun e => absurd e h2⟩
    · rw [h1, h.tick]
      have hroom : ¬ d.cap < d.size + s.size := by
        unfold Dk.full at hfull
        rw [hg, h.off] at hfull
        simpa using hfull
      have hf := h.ok.file hg
      have hsz := h.ok.size
      have hput : DkOK (d.set n (addTo s f) false) := by
        refine h.ok.put n (addTo s f) ?_ ?_ (Or.inl (by rw [hg]; rfl))
        · rw [fget_of hg]
          show (total d.files : Int) + ((f.s ++ s).size : Nat) - _ ≤ _
          rw [ByteArray.size_append]
          omega
        · show f.synced ≤ (f.s ++ s).size
          rw [ByteArray.size_append]; omega
      have hc := h.put hn hput
      refine ⟨hc, fun _ => ?_⟩
      have r1 : d.read n = (f.s, 0) := by
        unfold Dk.read
        rw [h.named, hn, hg]
        simp
      have r2 : (d.set n (addTo s f) false).read n = (f.s ++ s, 0) := by
        unfold Dk.read
        rw [hc.named, hn, show mget (d.set n (addTo s f) false).files n = some (addTo s f) from mget_mput_same _ _ _]
        simp [addTo]
      rw [r1, r2]
      exact ⟨rfl, rfl⟩

theorem Calm.sync {d : Dk} (h : Calm d) (n : ByteArray) : Calm (d.sync n) := by
  unfold Dk.sync
  rcases h.there n (d.syncG n) with ⟨h1, _⟩ | ⟨f, hg, hn, h1, _⟩
  · rw [h1]; exact h
  · rw [h1]
    unfold Dk.syncG
    rw [h.does, if_pos rfl, h.tick]
    refine h.put hn (h.ok.put n (synced f) ?_ (Nat.le_refl _) (Or.inl (by rw [hg]; rfl)))
    rw [fget_of hg]
    have := h.ok.fits
    show (total d.files : Int) + (f.s.size : Nat) - _ ≤ _
    omega

theorem Calm.delete {d : Dk} (h : Calm d) (n : ByteArray) : Calm (d.delete n) := by
  unfold Dk.delete
  rcases h.there n (fun _ => d.deleteG n) with ⟨h1, _⟩ | ⟨f, hg, hn, h1, _⟩
  · rw [h1]; exact h
  · rw [h1]
    unfold Dk.deleteG
    rw [h.does, if_pos rfl, h.tick]
    exact h.gone hn (h.ok.gone n (by rw [hg]; rfl))

theorem Calm.rename {d : Dk} (h : Calm d) (frm to : ByteArray) : Calm (d.rename frm to) := by
  unfold Dk.rename
  by_cases hn2 : d.named [frm, to] = 0
  · rw [if_neg (by simpa using hn2)]
    have hto : nameOk to = true := by
      unfold Dk.named at hn2
      rw [h.off] at hn2
      simp only [Bool.false_eq_true, if_false] at hn2
      by_cases e : [frm, to].all nameOk = true
      · simp at e; exact e.2
      · rw [if_neg e] at hn2; cases hn2
    rcases h.there frm (d.renameG frm to) with ⟨h1, _⟩ | ⟨f, hg, hn, h1, _⟩
    · rw [h1]; exact h
    · rw [h1]
      have hok := renameG_ok (to := to) h.ok hg
      unfold Dk.renameG at hok ⊢
      rw [h.does, if_pos rfl, h.tick] at hok ⊢
      exact (h.gone hn (h.ok.gone frm (by rw [hg]; rfl))).put hto hok
  · rw [if_pos (by simpa using hn2)]; exact h

/-- the bytes of the first k of some names -/
def sumTo (d : Dk) (ns : List ByteArray) (k : Nat) : Nat := ((ns.take k).map (fun s => (fget d s).s.size)).sum

theorem sumTo_succ {d : Dk} {ns : List ByteArray} {k : Nat} (h : k < ns.length) : sumTo d ns (k + 1) = sumTo d ns k + (fget d ns[k]).s.size := by
  unfold sumTo
  rw [List.take_succ_eq_append_getElem h]
  simp only [List.map_append, List.sum_append, List.map_cons, List.map_nil, List.sum_cons, List.sum_nil, Nat.add_zero]

theorem sum_all {d : Dk} {ns : List ByteArray} (h : DkOK d) (hl : ListOf d ns) : sumTo d ns ns.length = total d.files := by
  unfold sumTo total
  rw [List.take_length, (hl.perm.map _).sum_nat]
  unfold mkeys
  rw [List.map_map]
  congr 1
  apply List.map_congr_left
  intro p hp
  simp only [Function.comp_apply]
  rw [fget_of (mget_some h.nodup (show (p.1, p.2) ∈ d.files from hp))]

theorem sum_le {d : Dk} {ns : List ByteArray} (h : DkOK d) (hl : ListOf d ns) (k : Nat) : sumTo d ns k ≤ total d.files := by
  rw [← sum_all h hl]
  unfold sumTo
  rw [List.take_length]
  conv => rhs; rw [← List.take_append_drop k ns]
  rw [List.map_append, List.sum_append]
  omega

theorem list_read {d : Dk} {ns : List ByteArray} (h : Calm d) (hl : ListOf d ns) {s : ByteArray} (hs : s ∈ ns) : d.read s = ((fget d s).s, 0) ∧ (fget d s).synced ≤ (fget d s).s.size ∧ s.size ≤ maxLen ∧ (fget d s).s.size ≤ 5000 := by
  obtain ⟨p, hp, rfl⟩ := List.mem_map.1 (show s ∈ d.files.map (·.1) from hl.perm.mem_iff.1 hs)
  have hg := mget_some h.ok.nodup (show (p.1, p.2) ∈ d.files from hp)
  have hn := h.names p hp
  have hf := h.ok.file hg
  have hfit := h.ok.fits
  rw [h.cap] at hfit
  rw [fget_of hg]
  refine ⟨?_, hf.1, ?_, by omega⟩
  · unfold Dk.read
    rw [h.named, hn, hg]
    simp
  · unfold nameOk at hn
    simp only [decide_eq_true_eq] at hn
    unfold maxLen; omega
theorem Calm.read_le {d : Dk} (h : Calm d) (n : ByteArray) : (d.read n).1.size ≤ 5000 := by
  unfold Dk.read
  rw [h.named]
  cases hn : nameOk n with
  | false => simp [ByteArray.size]
  | true =>
    cases hg : mget d.files n with
    | none => simp [ByteArray.size]
    | some f =>
      have hf := h.ok.file hg
      have hfit := h.ok.fits
      rw [h.cap] at hfit
      simp
      omega
end Go.Proofs.Ytmadkoebopfhoaa
