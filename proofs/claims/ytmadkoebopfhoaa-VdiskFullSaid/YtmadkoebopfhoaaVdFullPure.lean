/-
  A disk that is filled with files, as data.
-/
import Derived.Test.YtmadkoebopfhoaaVdOne
import Derived.Test.YtmadkoebopfhoaaVdKeys
namespace Go.Proofs.Ytmadkoebopfhoaa
open Go.RowKit Go.Maps Go.MapKept Go.ChangeMaps

def nJ (j : Nat) : ByteArray := ⟨#[110, UInt8.ofNat j]⟩
def fullF (all : ByteArray) (i : Nat) : List (ByteArray × File) := (nF, ⟨all, 0⟩) :: (List.range i).map (fun j => (nJ j, zeroFile))
def fullD (cap : Int) (all : ByteArray) (i : Nat) : Dk := { cap := cap, size := all.size, files := fullF all (min i 199), off := false, left := 0, keep := 0 }

theorem nJ_inj {i j : Nat} (hi : i < 256) (hj : j < 256) (h : nJ i = nJ j) : i = j := by
  unfold nJ at h
  have h1 : (#[110, UInt8.ofNat i] : Array UInt8) = #[110, UInt8.ofNat j] := congrArg ByteArray.data h
  have h2 : UInt8.ofNat i = UInt8.ofNat j := by simpa using h1
  have h3 := congrArg UInt8.toNat h2
  simp only [UInt8.toNat_ofNat'] at h3
  omega

theorem nF_nJ (j : Nat) : nF ≠ nJ j := by
  intro h
  have h1 : (1 : Nat) = 2 := congrArg ByteArray.size h
  omega

theorem full_zero (cap : Int) (all : ByteArray) : fullD cap all 0 = oneD cap nF all 0 false := rfl

theorem total_zero : ∀ l : List Nat, total (l.map (fun j => (nJ j, zeroFile))) = 0
  | [] => rfl
  | x :: r => by
    have := total_zero r
    unfold total at this ⊢
    simp only [List.map_cons, List.sum_cons]
    rw [this]
    rfl

theorem full_none {all : ByteArray} {n i : Nat} (h : n ≤ i) (hi : i < 256) : mget (fullF all n) (nJ i) = none := by
  rw [mget_none_iff]
  intro p hp
  unfold fullF at hp
  rcases List.mem_cons.1 hp with rfl | hp
  · exact nF_nJ i
  · obtain ⟨j, hj, rfl⟩ := List.mem_map.1 hp
    rw [List.mem_range] at hj
    exact fun e => by have := nJ_inj (by omega) hi e; omega

theorem full_keys (all : ByteArray) (n : Nat) : mkeys (fullF all n) = nF :: (List.range n).map nJ := by
  unfold mkeys fullF
  simp

theorem fullOK {cap : Int} {all : ByteArray} {i : Nat} (h1 : (all.size : Int) ≤ cap) (h2 : cap ≤ 1000000000) : DkOK (fullD cap all i) := by
  have ht : total (fullF all (min i 199)) = all.size := by
    have := total_zero (List.range (min i 199))
    unfold total at this ⊢
    unfold fullF
    simp only [List.map_cons, List.sum_cons]
    rw [this]
    rfl
  refine ⟨?_, ?_, h2, ?_, ?_, ?_, by show (0 : Int) ≤ 0; decide, by show (0 : Int) ≤ _; decide, by show _ ≤ (0 : Int); decide, by show (0 : Int) ≤ _; decide⟩
  · show (all.size : Int) = total (fullF all (min i 199))
    rw [ht]
  · show (total (fullF all (min i 199)) : Int) ≤ cap
    rw [ht]; exact h1
  · show (mkeys (fullF all (min i 199))).Nodup
    rw [full_keys, List.nodup_cons]
    refine ⟨fun h => ?_, ?_⟩
    · obtain ⟨j, _, hj⟩ := List.mem_map.1 h
      exact nF_nJ j hj.symm
    · unfold List.Nodup
      rw [List.pairwise_map]
      refine List.pairwise_lt_range.imp_of_mem ?_
      intro a b ha hb hab e
      rw [List.mem_range] at ha hb
      have := nJ_inj (by omega) (by omega) e
      omega
  · intro p hp
    rcases List.mem_cons.1 (show p ∈ (nF, ⟨all, 0⟩) :: _ from hp) with rfl | hp
    · exact Nat.zero_le _
    · obtain ⟨j, hj, rfl⟩ := List.mem_map.1 hp
      exact Nat.zero_le _
  · show (fullF all (min i 199)).length ≤ 200
    unfold fullF
    simp only [List.length_cons, List.length_map, List.length_range]
    omega

theorem full_named (cap : Int) (all : ByteArray) (i j : Nat) : (fullD cap all i).named [nJ j] = 0 := by
  unfold Dk.named
  rw [show (fullD cap all i).off = false from rfl, if_neg (by simp), if_pos ?_]
  simp [nameOk, nJ, ByteArray.size]

theorem full_create {cap : Int} {all : ByteArray} {i : Nat} (hi : i < 256) : (fullD cap all i).create (nJ i) = fullD cap all (i + 1) ∧ (fullD cap all i).createE (nJ i) = if i < 199 then 0 else 2 := by
  have hg : mget (fullD cap all i).files (nJ i) = none := full_none (by omega) hi
  have hl : (fullD cap all i).files.length = min i 199 + 1 := by
    show (fullF all (min i 199)).length = _
    unfold fullF
    simp
  unfold Dk.create Dk.createE
  rw [full_named, hg, hl]
  by_cases h : i < 199
  · rw [if_neg (by simp), if_neg (by simp), if_neg (by omega), if_neg (by simp), if_neg (by simp), if_neg (by omega), if_pos h]
    refine ⟨?_, rfl⟩
    unfold Dk.burnt
    rw [if_neg (by show (0 : Int) ≠ 1; decide)]
    unfold Dk.createG
    rw [show (fullD cap all i).does false = true from rfl, if_pos rfl]
    unfold Dk.set
    have hf : fget (fullD cap all i).tick (nJ i) = zeroFile := by
      unfold fget
      rw [show (fullD cap all i).tick.files = (fullD cap all i).files from rfl, hg]
      rfl
    rw [hf]
    simp only [Bool.false_eq_true, if_false]
    have hp : mput (fullD cap all i).tick.files (nJ i) zeroFile = fullF all (min (i + 1) 199) := by
      rw [show (fullD cap all i).tick.files = fullF all (min i 199) from rfl, mput_none ?_]
      · rw [Nat.min_eq_left (by omega), Nat.min_eq_left (by omega)]
        unfold fullF
        rw [List.range_succ]
        simp
      · exact mget_none_iff.1 hg
    rw [hp]
    have hs : (fullD cap all i).tick.size + ((zeroFile.s.size : Int) - zeroFile.s.size) = all.size := by
      show (all.size : Int) + _ = _
      omega
    rw [hs]
    rfl
  · rw [if_neg (by simp), if_neg (by simp), if_pos (by omega), if_neg (by simp), if_neg (by simp), if_pos (by omega), if_neg h]
    refine ⟨?_, rfl⟩
    unfold fullD
    rw [Nat.min_eq_right (by omega), Nat.min_eq_right (by omega)]

theorem full_len {cap : Int} {all : ByteArray} {i : Nat} {ns : List ByteArray} (h : ListOf (fullD cap all i) ns) : ns.length = 1 + min i 199 := by
  have := h.perm.length_eq
  rw [this]
  show (mkeys (fullF all (min i 199))).length = _
  rw [full_keys]
  simp; omega

/-- what does not fit changes nothing -/
theorem one_full {cap : Int} {n all t : ByteArray} {sy : Nat} (hc : ¬ ((all.size + t.size : Nat) : Int) ≤ cap) :
    (oneD cap n all sy false).append n t = oneD cap n all sy false ∧ (oneD cap n all sy false).appendE n t = 2 := by
  have hf : (oneD cap n all sy false).full n t = true := by
    unfold Dk.full
    rw [one_get]
    have : cap < (all.size : Int) + t.size := by omega
    simp [oneD, this]
  unfold Dk.append Dk.appendE
  rw [hf]
  exact ⟨rfl, rfl⟩
theorem new_create (m : Nat) : (Dk.new m).create nF = oneD m nF ⟨#[]⟩ 0 false ∧ (Dk.new m).createE nF = 0 := by
  have h : Dk.new m = { cap := m, size := 0, files := [], off := false, left := 0, keep := 0 } := by
    unfold Dk.new
    rw [show max (m : Int) 0 = m by omega]
  rw [h]
  exact ⟨by kernel_rfl, by kernel_rfl⟩
theorem conv_pair (w : World) (i : Nat) (hi : i < 256) :
    (convert 38 9 (.slice (some ⟨w.heap.size, 0, none⟩) 2 2)).run Try.prog (w.alloc (.cells #[.int .u8 110, .int .u8 i] 5)) = .ok (.string (nJ i)) (w.alloc (.cells #[.int .u8 110, .int .u8 i] 5)) := by
  have h := run_convert_bytes_back (P := Try.prog) (w.alloc (.cells #[.int .u8 110, .int .u8 i] 5)) 38 9 5 ⟨w.heap.size, 0, none⟩ 2 [110, UInt8.ofNat i] Try.underlying38 Try.underlying5 Try.underlying9 (by
    intro j hj
    have hb : (w.alloc (.cells #[.int .u8 110, .int .u8 (i : Int)] 5)).heap[w.heap.size]? = some (.cells #[.int .u8 110, .int .u8 (i : Int)] 5 (0, 0)) := (MapKept.heap_alloc w _).1
    have hj' : j = 0 ∨ j = 1 := by simp at hj; omega
    rcases hj' with rfl | rfl
    · exact cell_of_block hb 0
    · show (w.alloc _).cell? ⟨w.heap.size, 1, none⟩ = _
      rw [cell_of_block hb 1]
      have : (UInt8.ofNat i).toNat = i := by simp; omega
      simp [this])
  exact h
end Go.Proofs.Ytmadkoebopfhoaa
