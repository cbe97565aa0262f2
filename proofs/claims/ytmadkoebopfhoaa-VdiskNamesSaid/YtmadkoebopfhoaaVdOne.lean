/-
  A disk with one file, as data.
-/
import Derived.Test.YtmadkoebopfhoaaVdShown
namespace Go.Proofs.Ytmadkoebopfhoaa
open Go.RowKit Go.Maps Go.MapKept Go.ChangeMaps

def oneD (cap : Int) (n all : ByteArray) (sy : Nat) (off : Bool) : Dk := { cap := cap, size := all.size, files := [(n, ⟨all, sy⟩)], off := off, left := 0, keep := 0 }

theorem one_get (cap : Int) (n all : ByteArray) (sy : Nat) (off : Bool) : mget (oneD cap n all sy off).files n = some ⟨all, sy⟩ := mget_cons_eq rfl

theorem one_named {cap : Int} {n all : ByteArray} {sy : Nat} (h : nameOk n = true) : (oneD cap n all sy false).named [n] = 0 := by
  unfold Dk.named
  rw [show (oneD cap n all sy false).off = false from rfl, if_neg (by simp), if_pos (by simp [h])]

theorem one_there {cap : Int} {n all : ByteArray} {sy : Nat} (h : nameOk n = true) (g : File → Dk) : (oneD cap n all sy false).thereD n g = g ⟨all, sy⟩ ∧ (oneD cap n all sy false).thereE n = 0 := by
  unfold Dk.thereD Dk.thereE
  rw [one_named h, one_get]
  exact ⟨rfl, rfl⟩

theorem one_set {cap : Int} {n all : ByteArray} {sy : Nat} {off : Bool} (f : File) : (oneD cap n all sy off).tick.set n f false = oneD cap n f.s f.synced off := by
  have h1 : fget (oneD cap n all sy off).tick n = ⟨all, sy⟩ := fget_tick (one_get _ _ _ _ _)
  unfold Dk.set
  rw [h1]
  have h2 : mput (oneD cap n all sy off).tick.files n f = [(n, f)] := by
    show mput [(n, ⟨all, sy⟩)] n f = _
    unfold mput; rw [if_pos rfl]
  simp only [Bool.false_eq_true, if_false]
  rw [h2]
  have h3 : (oneD cap n all sy off).tick.size + ((f.s.size : Int) - (⟨all, sy⟩ : File).s.size) = f.s.size := by
    show (all.size : Int) + (f.s.size - all.size) = f.s.size
    omega
  rw [h3]
  rfl

theorem one_append {cap : Int} {n all t : ByteArray} {sy : Nat} (h : nameOk n = true) (hc : ((all.size + t.size : Nat) : Int) ≤ cap) :
    (oneD cap n all sy false).append n t = oneD cap n (all ++ t) sy false ∧ (oneD cap n all sy false).appendE n t = 0 := by
  have hf : (oneD cap n all sy false).full n t = false := by
    unfold Dk.full
    rw [one_get]
    have : ¬ cap < (all.size : Int) + t.size := by omega
    simp [oneD, this]
  unfold Dk.append Dk.appendE
  rw [hf]
  obtain ⟨h1, h2⟩ := one_there (cap := cap) (all := all) (sy := sy) h (fun f => (oneD cap n all sy false).tick.set n (addTo t f) false)
  simp only [Bool.false_eq_true, if_false]
  rw [h1, h2, one_set]
  exact ⟨rfl, rfl⟩

theorem one_sync {cap : Int} {n all : ByteArray} {sy : Nat} (h : nameOk n = true) : (oneD cap n all sy false).sync n = oneD cap n all all.size false ∧ (oneD cap n all sy false).thereE n = 0 := by
  obtain ⟨h1, h2⟩ := one_there (cap := cap) (all := all) (sy := sy) h ((oneD cap n all sy false).syncG n)
  refine ⟨?_, h2⟩
  unfold Dk.sync
  rw [h1]
  unfold Dk.syncG
  rw [show (oneD cap n all sy false).does false = true from rfl, if_pos rfl, one_set]
  rfl

theorem one_crash {cap : Int} {n all : ByteArray} {sy : Nat} {off : Bool} (hs : sy ≤ all.size) (keep : Int) : (oneD cap n all sy off).crash keep = oneD cap n (all.extract 0 (crashLen keep ⟨all, sy⟩)) (crashLen keep ⟨all, sy⟩) true := by
  have h1 : crashFile keep ⟨all, sy⟩ = ⟨all.extract 0 (crashLen keep ⟨all, sy⟩), crashLen keep ⟨all, sy⟩⟩ := by
    unfold crashFile
    rw [extract_size (crashLen_le (f := ⟨all, sy⟩) hs)]
  have h2 : mall (crashFile keep) (oneD cap n all sy off).files = [(n, ⟨all.extract 0 (crashLen keep ⟨all, sy⟩), crashLen keep ⟨all, sy⟩⟩)] := by
    show [(n, crashFile keep ⟨all, sy⟩)] = _
    rw [h1]
  unfold Dk.crash
  rw [h2]
  simp [oneD, total]

theorem one_on (cap : Int) (n all : ByteArray) (sy : Nat) (off : Bool) : (oneD cap n all sy off).on = oneD cap n all sy false := rfl

theorem one_read {cap : Int} {n all : ByteArray} {sy : Nat} (h : nameOk n = true) : (oneD cap n all sy false).read n = (all, 0) := by
  unfold Dk.read
  rw [one_named h, one_get]
  rfl

theorem one_fget (cap : Int) (n all : ByteArray) (sy : Nat) (off : Bool) : fget (oneD cap n all sy off) n = ⟨all, sy⟩ := by
  unfold fget; rw [one_get]; rfl

theorem oneOK {cap : Int} {n all : ByteArray} {sy : Nat} {off : Bool} (h1 : (all.size : Int) ≤ cap) (h2 : cap ≤ 1000000000) (h3 : sy ≤ all.size) : DkOK (oneD cap n all sy off) :=
  one_ok (z := all.size) (c := cap) (l := 0) (k := 0) (f := ⟨all, sy⟩) (o := off) rfl h1 h2 h3 (by decide) (by decide) (by decide) (by decide) n

/-- crashed twice, it is as it was -/
theorem crashLen_again (keep : Int) (s : ByteArray) : crashLen keep ⟨s, s.size⟩ = s.size := by
  unfold crashLen
  split <;> simp [Nat.mod_one]
theorem extract_all (s : ByteArray) : s.extract 0 s.size = s := by simp
theorem crashLen_ge (keep : Int) (f : File) : f.synced ≤ crashLen keep f := by unfold crashLen; omega
theorem crashLen_neg {keep : Int} (h : ¬ 0 ≤ keep) (f : File) : crashLen keep f = f.synced := by unfold crashLen; rw [if_neg h]; rfl
theorem extract_prefix (a b : ByteArray) : (a ++ b).extract 0 a.size = a := by
  simp [ByteArray.extract_append]
end Go.Proofs.Ytmadkoebopfhoaa
