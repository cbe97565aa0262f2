/-
  The disk's inner functions: named; the small methods.
-/
import Derived.Test.YtmadkoebopfhoaaVdSet
namespace Go.Proofs.Ytmadkoebopfhoaa
open Go.RowKit Go.Maps Go.MapKept Go.ChangeMaps

def nameOk (s : ByteArray) : Bool := decide (1 ≤ s.size ∧ s.size ≤ 60)
def Dk.named (d : Dk) (names : List ByteArray) : Int := if d.off then 6 else if names.all nameOk then 0 else 1

theorem named_bad {d : Dk} {names : List ByteArray} (ho : d.off = false) {x : ByteArray} (hx : x ∈ names) (h : nameOk x = false) : d.named names = 1 := by
  unfold Dk.named
  rw [ho, if_neg (by simp), if_neg]
  intro h1
  rw [List.all_eq_true.1 h1 x hx] at h
  cases h
theorem named_good {d : Dk} {names : List ByteArray} (ho : d.off = false) (h : names.all nameOk = true) : d.named names = 0 := by
  unfold Dk.named
  rw [ho, if_neg (by simp), if_pos h]

theorem nameOk_small {x : ByteArray} (h : x.size = 0) : nameOk x = false := by simp [nameOk, h]
theorem nameOk_great {x : ByteArray} (h : ¬ x.size ≤ 60) : nameOk x = false := by
  unfold nameOk; exact decide_eq_false (by omega)
theorem nameOk_fit {x : ByteArray} (h : ¬ x.size = 0) (h' : x.size ≤ 60) : nameOk x = true := by
  unfold nameOk; exact decide_eq_true (by omega)
theorem all_take_succ {l : List ByteArray} {f : ByteArray → Bool} {k : Nat} (hk : k < l.length) (h : (l.take k).all f = true) (hx : f l[k] = true) : (l.take (k + 1)).all f = true := by
  rw [List.take_succ_eq_append_getElem hk, List.all_append, h]
  simp [hx]

set_option maxHeartbeats 400000 in
theorem named_any (w : World) (b bm sb : Nat) (d : Dk) (names : List ByteArray) (hd : DiskAt w b bm d) (hs : w.heap[sb]? = some (.cells (names.map Value.string).toArray 9 (0, 0))) (hn : names.length ≤ 1000) :
    Calls Try.prog 22 #[.pointer (some ⟨b, 0, none⟩), .slice (some ⟨sb, 0, none⟩) names.length names.length] w fun e w' => e = .returned (.int .i64 (d.named names)) ∧ w = w' := by
  have c3 : w.cell? ⟨b, 3, none⟩ = some (.bool d.off) := cell_of_block hd.cells 3
  have HD := Lib.hid hd
  have HS := Lib.hid hs
  have hlt := heap_lt hd.cells
  have hlt2 := heap_lt hs
  clear hd hs
  cases ho : d.off
  case true =>
    rw [ho] at c3
    have HO : Hid (d.named names = 6) := by simp [Hid, Dk.named, ho]
    clear ho
    go_enter Try.func22, Try.ntmps22
    go_wp2
    go_ret
    exact ⟨by rw [HO.out]; rfl, rfl⟩
  rw [ho] at c3
  have HO := Lib.hid ho
  clear ho
  go_enter Try.func22, Try.ntmps22
  go_wp2
  go_loop [13] (fun i => ∃ k : Nat, k ≤ names.length ∧ i = .int .i64 k ∧ (names.take k).all nameOk = true) (fun i => names.length - (intOf i).toNat)
  case atStart => exact ⟨0, by omega, rfl, by simp⟩
  case round =>
    obtain ⟨k, hk, rfl, hall⟩ := hrel
    have HA := Lib.hid hall
    clear hall
    by_cases hlt' : k < names.length
    · have hcell : w.cell? ⟨sb, k, none⟩ = some (.string names[k]) := by rw [cell_of_block HS.out]; simp [hlt']
      obtain ⟨x, hx⟩ : ∃ x, x = names[k] := ⟨_, rfl⟩
      rw [← hx] at hcell
      have hxm : x ∈ names := hx ▸ List.getElem_mem hlt'
      have HX := Lib.hid hx
      have HXM := Lib.hid hxm
      clear hx hxm
      by_cases h0 : x.size = 0
      · have H1 := Lib.hid (named_bad HO.out HXM.out (nameOk_small h0))
        obtain rfl : x = ⟨#[]⟩ := by
          obtain ⟨⟨l⟩⟩ := x
          cases l with
          | nil => rfl
          | cons a r => cases h0
        clear h0
        go_wp2
        go_ret
        exact ⟨by rw [H1.out]; rfl, rfl⟩
      · have he := str_full (Nat.pos_of_ne_zero h0)
        have H0 := Lib.hid h0
        clear h0
        by_cases h6 : x.size ≤ 60
        · go_wp2
          go_round
          case rel => exact ⟨k + 1, by omega, by go_num, all_take_succ hlt' HA.out (HX.out ▸ nameOk_fit H0.out h6)⟩
          case measure => simp [intOf]; omega
        · have H1 := Lib.hid (named_bad HO.out HXM.out (nameOk_great h6))
          go_wp2
          go_ret
          exact ⟨by rw [H1.out]; rfl, rfl⟩
    · have H1 := Lib.hid (named_good HO.out (by have := HA.out; rwa [List.take_of_length_le (by omega)] at this))
      go_wp2
      go_ret
      exact ⟨by rw [H1.out]; rfl, rfl⟩
end Go.Proofs.Ytmadkoebopfhoaa
