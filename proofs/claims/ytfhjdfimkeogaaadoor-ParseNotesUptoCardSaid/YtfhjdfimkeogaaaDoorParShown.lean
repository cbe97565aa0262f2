/-
  shown: that a line is a cell.
-/
import Derived.Test.YtfhjdfimkeogaaaDoorParCells
namespace Go.Proofs.YtfhjdfimkeogaaaDoor
open Go.RowKit Go.Lib

def shown1 : ByteArray := ⟨#[35, 32, 115, 97, 105, 100, 10, 114, 32, 99, 32, 53, 32, 61, 118, 10, 10, 114, 32, 100, 32, 52, 32, 45, 10]⟩
def shown2 : ByteArray := ⟨#[114, 32, 99, 32, 53, 32, 61, 118, 10, 114, 32, 99]⟩
theorem shown1_is : cellsP shown1 = ([⟨⟨#[114]⟩, ⟨#[99]⟩, 5, 0, false, ⟨#[118]⟩⟩, ⟨⟨#[114]⟩, ⟨#[100]⟩, 4, 0, true, ⟨#[]⟩⟩], 0, 0) := by kernel_rfl
theorem shown2_is : cellsP shown2 = ([], 2, 70) := by kernel_rfl

theorem OwnC.none {w : World} {base : Nat} {v : Value} (h : OwnC w base v []) : ∃ a cap, v = .slice a 0 cap := by
  obtain ⟨a, cap, e, _⟩ := h.at (by simp)
  exact ⟨a, cap, e⟩
theorem ParAt.fp {w w' : World} (h : ParAt w) (hf : Fp [] w w') : ParAt w' := ⟨h.mx.fp hf List.not_mem_nil, h.er.fp hf List.not_mem_nil List.not_mem_nil⟩

set_option maxRecDepth 100000 in
set_option maxHeartbeats 4000000 in
theorem shown_any (w : World) (hp : ParAt w) :
    Calls Tryd.prog 8 #[] w fun e w' => e = .returned (.bool true) ∧ Fp [] w w' := by
  have h1 := cells_any shown1 w (by decide) hp
  have h2 := fun w hp => cells_any shown2 w (by decide) hp
  rw [shown1_is] at h1
  rw [shown2_is] at h2
  unfold shown1 at h1
  unfold shown2 at h2
  have H1 := Lib.hid h1
  have H2 := Lib.hid h2
  have HP := Lib.hid hp
  clear h1 h2 hp
  go_enter Tryd.func8, Tryd.ntmps8
  go_wp2_with (fail)
  (with_reducible refine H1.out.mono ?_)
  rintro e w1 ⟨⟨v1, rfl, ho1⟩, hf1⟩
  have HF1 := Lib.hid hf1
  have HO1 := Lib.hid ho1
  have HP1 : Hid (ParAt w1) := ⟨HP.out.mx.fp hf1 List.not_mem_nil, HP.out.er.fp hf1 List.not_mem_nil List.not_mem_nil⟩
  clear hf1 ho1
  go_wp2_with (fail)
  (with_reducible refine (H2.out _ HP1.out).mono ?_)
  rintro e w2 ⟨⟨v2, rfl, ho2⟩, hf2⟩
  have HF2 := Lib.hid (HF1.out.trans hf2 (by simp))
  obtain ⟨a1, cap1, rfl, hc⟩ := (HO1.out.fp hf2 (by simp)).at (by intro c hc; simp at hc; rcases hc with rfl | rfl <;> exact ⟨by decide, by decide, by decide, by decide, by decide⟩)
  obtain ⟨b, o, rfl, _, hcc⟩ : ∃ b o, a1 = some ⟨b, o, none⟩ ∧ b < w2.heap.size ∧ CelCells w2 b o ⟨⟨#[114]⟩, ⟨#[99]⟩, 5, 0, false, ⟨#[118]⟩⟩ ∧ CelCells w2 b (o + 6) ⟨⟨#[114]⟩, ⟨#[100]⟩, 4, 0, true, ⟨#[]⟩⟩ := by
    rcases hc.cells with h | ⟨b, o, h1, h2, h3⟩
    · cases h
    · exact ⟨b, o, h1, h2, h3 0 (by simp), h3 1 (by simp)⟩
  obtain ⟨⟨p0, p1, p2, p3, p4, p5⟩, ⟨q0, q1, q2, q3, q4, q5⟩⟩ := hcc
  clear hc ho2 hf2
  rw [show (([⟨⟨#[114]⟩, ⟨#[99]⟩, 5, 0, false, ⟨#[118]⟩⟩, ⟨⟨#[114]⟩, ⟨#[100]⟩, 4, 0, true, ⟨#[]⟩⟩] : List Cel)).length = 2 from rfl]
  go_wp2_with (fail)
  go_ret
  exact ⟨rfl, HF2.out⟩
end Go.Proofs.YtfhjdfimkeogaaaDoor
