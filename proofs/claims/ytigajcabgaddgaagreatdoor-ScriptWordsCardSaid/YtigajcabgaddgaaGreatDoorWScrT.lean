/-
 shown() of the scripts holds.
-/
import Derived.Test.YtigajcabgaddgaaGreatDoorWScrS
set_option maxRecDepth 100000
set_option maxHeartbeats 8000000
namespace Go.Proofs.YtigajcabgaddgaaGreatDoor
open Go.RowKit
theorem shown22 (w : World) (hm : MaxAt w) (ht : TabAt w) (htl : 6 < w.heap.size) (hml : 4 < w.heap.size) : Calls Tryz.prog 4 #[] w fun e w' => e = .returned (.bool true) ∧ Fp [] w w' := by
 letI : Val := ⟨fun _ => 0⟩
 have h0 := shown22_runs
 rw [evC_eq] at h0
 obtain ⟨s, hs⟩ := okTrue_ok h0
 obtain ⟨m, hm⟩ := hm
 refine (ev_calls (glob1 ht htl) (by kernel_rfl) (isound1 ht hm hml) iloc1 (by kernel_rfl) hs).mono ?_
 rintro e w' ⟨x, ρ, rfl, hv, hf⟩
 cases hv
 exact ⟨rfl, hf⟩
end Go.Proofs.YtigajcabgaddgaaGreatDoor
