/-
 The law JobBytes holds of the program: for every input the call returns true, and nothing that was there before the call is changed. Conditions: none but those of the statement itself (the listed variables start as the program's text lays them: the card ties them).
-/
import Derived.Test.YtkagolpnaicdoaaGreatDoorPJobBytesFacts
import Derived.Test.YtkagolpnaicdoaaGreatDoorPJobBytes
import Derived.Test.YtkagolpnaicdoaaGreatDoorPJobH
set_option maxRecDepth 100000
set_option maxHeartbeats 8000000
namespace Go.Proofs.YtkagolpnaicdoaaGreatDoor
open Go.ChangeShapes Go.WideShapes Go.ChangeAt Go.RowKit
open Go.ChangeMaps (open_string shut_string)
theorem jobBytes_lifted (os : Os) (started : os.Started) (H : Type) (enc : TypeId × Value → H) :
  ReturnsInHanded {} Tryz.checked os 4 .any (fun w args => (Rows.jobBytesSpec.pre enc Tryz.prog Tryz.f4 Rows.jobBytesRow.domain false w args ∧ laidMetH Tryz.prog Rows.jobBytesRow.laid w) ∧ sizedMet enc Tryz.prog Tryz.f4 (OpenSpec.ofChange Rows.jobBytesSpec) false w args)
   (Rows.jobBytesSpec.post enc Tryz.prog Tryz.f4 false true false false) := by
 refine Xs (C := Tryz.checked) (X := fun w _ => laidMetH Tryz.prog Rows.jobBytesRow.laid w) own started (by kernel_rfl) Tryz.func4
  (ChangeSpec.witness_shaped (enc := enc) (C := Tryz.checked) (os := os) (X := fun w _ => laidMetH Tryz.prog Rows.jobBytesRow.laid w) false (World.laidAll Tryz.prog os Rows.jobBytesRow.laid) #[.agg #[.int .u64 0, .int .i64 0, .int .i64 0, .string ⟨#[]⟩], .string ⟨#[]⟩] 8 (World.laidAll_os _ _ _)
   (World.shaped_of_ZipB (by kernel_rfl) (by kernel_rfl)) (by kernel_rfl) (by kernel_rfl) (by kernel_rfl)
   (by rw [MakeChecks.laidMetH_plain _ _ _ (by kernel_rfl)]; exact laidMet_laidAll _ (by kernel_rfl) (by kernel_rfl))) ?_
 intro W args ds gs before hval0 hW hsh hX
 have hval : ∀ (j : Nat) t v, Tryz.f4.params[j]? = some t → args[j]? = some v → ∃ base, Value.okWide Tryz.prog W .any base t v := hval0
 have hW' := hW
 obtain ⟨p, q, hA0, hV, rfl, hfz, hnd⟩ := hW
 have hA : DataW.TrodAll enc Tryz.prog W 0 (fun _ => true) true Tryz.f4.params.toList args.toList ds p := hA0
 rw [Tryz.params4] at hA hval
 obtain ⟨v0, vs0, d0, ds0, p0, q0, hargs, rfl, rfl, h0, r0⟩ := trodAll_cons hA
 obtain ⟨v1, vs1, d1, ds1, p1, q1, rfl, rfl, rfl, h1, r1⟩ := trodAll_cons r0
 obtain ⟨rfl, rfl, rfl⟩ := trodAll_nil r1
 obtain rfl : args = #[v0, v1] := by cases args; simp_all
 obtain ⟨rfl, rfl⟩ := trodVars_none hV
 obtain ⟨b0, hv0⟩ := hval 0 42 v0 rfl rfl
 have k0 := h0
 have lt0 : ∀ x ∈ p0, x.block < W.heap.size := by obtain ⟨m, hm⟩ := k0; exact DataW.trod_lt m _ _ _ hm
 obtain ⟨c0, rfl, ok0⟩ := rC hv0 h0
 obtain ⟨b1, hv1⟩ := hval 1 9 v1 rfl rfl
 obtain ⟨a1, rfl, rfl, rfl, w1⟩ := open_string Tryz.underlying9 hv1 h1
 clear hA0 hval0
 refine (pV W c0 a1 ok0 w1 (Xt hsh (show laidMet Tryz.prog Rows.jobBytesRow.laid W.memory by rw [← MakeChecks.laidMetH_plain _ _ _ (by kernel_rfl)]; exact hX).tail.tail.tail.tail.tail) (Yk (show laidMet Tryz.prog Rows.jobBytesRow.laid W.memory by rw [← MakeChecks.laidMetH_plain _ _ _ (by kernel_rfl)]; exact hX).tail.tail.tail.tail) (Xv (show laidMet Tryz.prog Rows.jobBytesRow.laid W.memory by rw [← MakeChecks.laidMetH_plain _ _ _ (by kernel_rfl)]; exact hX).tail)).mono fun e W' ⟨he, fp⟩ => ?_
 have bel := fp.toBelow
 subst he
 exact ⟨_, rfl, _, _, _, [], _, [], hW', trodAll_mk1 (shut_bool Tryz.underlying4 _), (trodAll_cons_mk (Below.trod jD (by kernel_rfl) (of_decide_eq_true (by kernel_rfl)) k0 bel lt0) (trodAll_cons_mk (shut_string Tryz.underlying9 w1) trodAll_mk0)), rfl, bel.frame _, fun h => by cases h⟩
theorem jobBytes_plain : Rows.JobBytesSaid :=
 OpenClaim.holds_of_wide 4 Tryz.f4 rfl rfl rfl rfl rfl rfl rfl ⟨rfl, rfl, rfl, rfl, rfl⟩ rfl rfl rfl rfl rfl (by kernel_rfl) Tryz.func4 jobBytes_closed
  (of_decide_eq_true (by kernel_rfl)) (by unfold Func.isWrapper; first | (rw [if_pos (by decide +kernel)]; kernel_rfl) | (rw [if_neg (by decide +kernel)]; exact ⟨rfl, rfl⟩))
  (fun os started H enc _ => jobBytes_lifted os started H enc)
end Go.Proofs.YtkagolpnaicdoaaGreatDoor
