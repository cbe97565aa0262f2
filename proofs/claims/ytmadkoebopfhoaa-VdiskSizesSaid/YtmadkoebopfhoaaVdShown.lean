/-
  shown: the small case that must go well.
-/
import Derived.Test.YtmadkoebopfhoaaVdOps2
namespace Go.Proofs.Ytmadkoebopfhoaa
open Go.RowKit Go.Maps Go.MapKept Go.ChangeMaps

def nF : ByteArray := ⟨#[102]⟩
def sAB : ByteArray := ⟨#[97, 98]⟩
def sCD : ByteArray := ⟨#[99, 100]⟩
def sABC : ByteArray := ⟨#[97, 98, 99]⟩

def shD1 : Dk := { cap := 100, size := 0, files := [(nF, ⟨⟨#[]⟩, 0⟩)], off := false, left := 0, keep := 0 }
def shD2 : Dk := { cap := 100, size := 2, files := [(nF, ⟨sAB, 0⟩)], off := false, left := 0, keep := 0 }
def shD3 : Dk := { cap := 100, size := 2, files := [(nF, ⟨sAB, 2⟩)], off := false, left := 0, keep := 0 }
def shD4 : Dk := { cap := 100, size := 4, files := [(nF, ⟨⟨#[97, 98, 99, 100]⟩, 2⟩)], off := false, left := 0, keep := 0 }
def shD5 : Dk := { cap := 100, size := 3, files := [(nF, ⟨sABC, 3⟩)], off := true, left := 0, keep := 0 }
def shD6 : Dk := { cap := 100, size := 3, files := [(nF, ⟨sABC, 3⟩)], off := false, left := 0, keep := 0 }

theorem sh1 : (Dk.new 100).create nF = shD1 := by kernel_rfl
theorem sh1e : (Dk.new 100).createE nF = 0 := by kernel_rfl
theorem sh2 : shD1.append nF sAB = shD2 := by kernel_rfl
theorem sh2e : shD1.appendE nF sAB = 0 := by kernel_rfl
theorem sh3 : shD2.sync nF = shD3 := by kernel_rfl
theorem sh3e : shD2.thereE nF = 0 := by kernel_rfl
theorem sh4 : shD3.append nF sCD = shD4 := by kernel_rfl
theorem sh4e : shD3.appendE nF sCD = 0 := by kernel_rfl
theorem sh5 : shD4.crash 1 = shD5 := by kernel_rfl
theorem sh5r : shD5.read nF = (⟨#[]⟩, 6) := by kernel_rfl
theorem sh6 : shD5.on = shD6 := by kernel_rfl
theorem sh6r : shD6.read nF = (⟨#[97, 98, 99]⟩, 0) := by kernel_rfl

theorem one_ok {c z l k : Int} {f : File} {o : Bool} (h1 : z = f.s.size) (h2 : z ≤ c) (h3 : c ≤ 1000000000) (h4 : f.synced ≤ f.s.size) (h5 : 0 ≤ l) (h6 : l ≤ 9223372036854775807) (h7 : -9223372036854775808 ≤ k) (h8 : k ≤ 9223372036854775807) (n : ByteArray) :
    DkOK { cap := c, size := z, files := [(n, f)], off := o, left := l, keep := k } := by
  have ht : total [(n, f)] = f.s.size := by simp [total]
  refine ⟨?_, ?_, h3, by simp [mkeys], ?_, by simp, h5, h6, h7, h8⟩
  · show z = ((total [(n, f)] : Nat) : Int); rw [ht]; exact h1
  · show ((total [(n, f)] : Nat) : Int) ≤ c; rw [ht]; omega
  · intro p hp
    rw [List.mem_singleton] at hp
    subst hp
    exact h4

theorem shOK1 : DkOK shD1 := one_ok (by rfl) (by decide) (by decide) (by decide) (by decide) (by decide) (by decide) (by decide) _
theorem shOK2 : DkOK shD2 := one_ok (by rfl) (by decide) (by decide) (by decide) (by decide) (by decide) (by decide) (by decide) _
theorem shOK3 : DkOK shD3 := one_ok (by rfl) (by decide) (by decide) (by decide) (by decide) (by decide) (by decide) (by decide) _
theorem shOK4 : DkOK shD4 := one_ok (by rfl) (by decide) (by decide) (by decide) (by decide) (by decide) (by decide) (by decide) _

theorem fp_new {w w1 w2 : World} {n : Nat} (h : Fp [] w w1) (h2 : Fp [n + 1, n] w1 w2) (hn : w.heap.size ≤ n) : Fp [] w w2 :=
  h.trans h2 (by intro i hi; right; simp at hi; omega)

set_option maxRecDepth 100000 in
set_option maxHeartbeats 2000000 in
theorem shown_any (w : World) : Calls Try.prog 8 #[] w fun e w' => e = .returned (.bool true) ∧ Fp [] w w' := by
  have hN : nF.size ≤ maxLen := by decide
  go_enter Try.func8, Try.ntmps8
  go_wp2_with (fail)
  refine (new_any 100 w).mono ?_
  rintro e w1 ⟨rfl, hd1, hf1⟩
  have HF1 := Lib.hid hf1
  clear hf1
  have hc := create_any w1 _ _ _ nF hd1 (DkOK.new (by decide)) hN
  rw [sh1, sh1e] at hc
  have HC := Lib.hid hc
  clear hc hd1
  go_wp2_with (fail)
  refine HC.out.mono ?_
  rintro e w2 ⟨rfl, hd2, hf2⟩
  have HF2 := Lib.hid (fp_new HF1.out hf2 (Nat.le_refl _))
  have hc := append_any w2 _ _ _ nF sAB hd2 shOK1 hN (by decide)
  rw [sh2, sh2e] at hc
  have HC2 := Lib.hid hc
  clear hc hd2 hf2 HC
  go_wp2_with (fail)
  refine HC2.out.mono ?_
  rintro e w3 ⟨rfl, hd3, hf3⟩
  have HF3 := Lib.hid (fp_new HF2.out hf3 (Nat.le_refl _))
  have hc := sync_any w3 _ _ _ nF hd3 shOK2 hN
  rw [sh3, sh3e] at hc
  have HC3 := Lib.hid hc
  clear hc hd3 hf3 HC2
  go_wp2_with (fail)
  refine HC3.out.mono ?_
  rintro e w4 ⟨rfl, hd4, hf4⟩
  have HF4 := Lib.hid (fp_new HF3.out hf4 (Nat.le_refl _))
  have hc := append_any w4 _ _ _ nF sCD hd4 shOK3 hN (by decide)
  rw [sh4, sh4e] at hc
  have HC4 := Lib.hid hc
  clear hc hd4 hf4 HC3
  go_wp2_with (fail)
  refine HC4.out.mono ?_
  rintro e w5 ⟨rfl, hd5, hf5⟩
  have HF5 := Lib.hid (fp_new HF4.out hf5 (Nat.le_refl _))
  have hc := crash_any w5 _ _ _ 1 hd5 shOK4 (by decide) (by decide)
  rw [sh5] at hc
  have HC5 := Lib.hid hc
  clear hc hd5 hf5 HC4
  go_wp2_with (fail)
  refine HC5.out.mono ?_
  rintro e w6 ⟨rfl, hd6, hf6⟩
  have HF6 := Lib.hid (fp_new HF5.out hf6 (Nat.le_refl _))
  have hc := read_any w6 _ _ _ nF hd6 hN
  rw [sh5r] at hc
  have HC6 := Lib.hid hc
  have HD6 := Lib.hid hd6
  clear hc hd6 hf6 HC5
  go_wp2_with (fail)
  refine HC6.out.mono ?_
  rintro e w7 ⟨rfl, hf7⟩
  have HF7 := Lib.hid (HF6.out.trans hf7 (by simp))
  have hc := on_any w7 _ _ _ (HD6.out.of_fp hf7 (by simp) (by simp))
  rw [sh6] at hc
  have HC7 := Lib.hid hc
  clear hc hf7 HC6
  go_wp2_with (fail)
  refine HC7.out.mono ?_
  rintro e w8 ⟨rfl, hd8, hf8⟩
  have HF8 := Lib.hid (HF7.out.trans hf8 (by simp))
  have hc := read_any w8 _ _ _ nF hd8 hN
  rw [sh6r] at hc
  have HC8 := Lib.hid hc
  have HD8 := Lib.hid hd8
  clear hc hd8 hf8 HC7
  go_wp2_with (fail)
  refine HC8.out.mono ?_
  rintro e w9 ⟨rfl, hf9⟩
  have HF9 := Lib.hid (HF8.out.trans hf9 (by simp))
  have hc := size_any w9 _ _ _ (HD8.out.of_fp hf9 (by simp) (by simp))
  have HC9 := Lib.hid hc
  clear hc hf9 HC8
  go_wp2_with (fail)
  refine HC9.out.mono ?_
  rintro e w10 ⟨rfl, rfl⟩
  go_wp2_with (fail)
  go_ret
  exact ⟨rfl, HF9.out⟩
end Go.Proofs.Ytmadkoebopfhoaa
