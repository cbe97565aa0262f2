/-
 The law EngineErrors holds of the program: for every input the call returns true, and nothing that was there before the call is changed. Conditions: none but those of the statement itself (the listed variables start as the program's text lays them: the card ties them).
-/
import Derived.Test.YtkjmgbifoaoefaaGreatDoorQEngineErrorsFacts
import Derived.Test.YtkjmgbifoaoefaaGreatDoorQEwR
set_option maxRecDepth 100000
set_option maxHeartbeats 8000000
namespace Go.Proofs.YtkjmgbifoaoefaaGreatDoor
open Go.ChangeShapes Go.WideShapes Go.ChangeAt Go.RowKit
open Go.ChangeMaps (open_string shut_string)
theorem engineErrors_lifted (os : Os) (started : os.Started) (H : Type) (enc : TypeId × Value → H) :
  ReturnsInHanded {} Tryz.checked os 3 .any (fun w args => (Rows.engineErrorsSpec.pre enc Tryz.prog Tryz.f3 Rows.engineErrorsRow.domain false w args ∧ laidMetH Tryz.prog Rows.engineErrorsRow.laid w) ∧ sizedMet enc Tryz.prog Tryz.f3 (OpenSpec.ofChange Rows.engineErrorsSpec) false w args)
   (Rows.engineErrorsSpec.post enc Tryz.prog Tryz.f3 false true false false) := by
 refine returns_laid (C := Tryz.checked) (X := fun w _ => laidMetH Tryz.prog Rows.engineErrorsRow.laid w) own started (by kernel_rfl) Tryz.func3
  (ChangeSpec.witness_shaped (enc := enc) (C := Tryz.checked) (os := os) (X := fun w _ => laidMetH Tryz.prog Rows.engineErrorsRow.laid w) false (World.laidAll Tryz.prog os Rows.engineErrorsRow.laid) #[.agg #[.string ⟨#[]⟩, .string ⟨#[]⟩, .int .u64 0, .int .u64 0, .bool false, .string ⟨#[]⟩], .int .u64 0, .int .i64 0, .string ⟨#[]⟩] 8 (World.laidAll_os _ _ _)
   (World.shaped_of_ZipB (by kernel_rfl) (by kernel_rfl)) (by kernel_rfl) (by kernel_rfl) (by kernel_rfl)
   (by rw [MakeChecks.laidMetH_plain _ _ _ (by kernel_rfl)]; exact laidMet_laidAll _ (by kernel_rfl) (by kernel_rfl))) ?_
 intro W args ds gs before hval0 hW hsh hX
 have hval : ∀ (j : Nat) t v, Tryz.f3.params[j]? = some t → args[j]? = some v → ∃ base, Value.okWide Tryz.prog W .any base t v := hval0
 have hW' := hW
 obtain ⟨p, q, hA0, hV, rfl, hfz, hnd⟩ := hW
 have hA : DataW.TrodAll enc Tryz.prog W 0 (fun _ => true) true Tryz.f3.params.toList args.toList ds p := hA0
 rw [Tryz.params3] at hA hval
 obtain ⟨v0, vs0, d0, ds0, p0, q0, hargs, rfl, rfl, h0, r0⟩ := trodAll_cons hA
 obtain ⟨v1, vs1, d1, ds1, p1, q1, rfl, rfl, rfl, h1, r1⟩ := trodAll_cons r0
 obtain ⟨v2, vs2, d2, ds2, p2, q2, rfl, rfl, rfl, h2, r2⟩ := trodAll_cons r1
 obtain ⟨v3, vs3, d3, ds3, p3, q3, rfl, rfl, rfl, h3, r3⟩ := trodAll_cons r2
 obtain ⟨rfl, rfl, rfl⟩ := trodAll_nil r3
 obtain rfl : args = #[v0, v1, v2, v3] := by cases args; simp_all
 obtain ⟨rfl, rfl⟩ := trodVars_none hV
 obtain ⟨b0, hv0⟩ := hval 0 24 v0 rfl rfl
 have k0 := h0
 have lt0 : ∀ x ∈ p0, x.block < W.heap.size := by obtain ⟨m, hm⟩ := k0; exact DataW.trod_lt m _ _ _ hm
 obtain ⟨c0, rfl, ok0⟩ := open_cel hv0 h0
 obtain ⟨b1, hv1⟩ := hval 1 22 v1 rfl rfl
 obtain ⟨a1, rfl, rfl, rfl, w1⟩ := open_int Tryz.underlying22 hv1 h1
 obtain ⟨b2, hv2⟩ := hval 2 3 v2 rfl rfl
 obtain ⟨a2, rfl, rfl, rfl, w2⟩ := open_int Tryz.underlying3 hv2 h2
 obtain ⟨b3, hv3⟩ := hval 3 9 v3 rfl rfl
 obtain ⟨a3, rfl, rfl, rfl, w3⟩ := open_string Tryz.underlying9 hv3 h3
 clear hA0 hval0
 refine (engerr_law W c0 a1 a2 a3 ok0 (wf_u64 w1).1 (wf_u64 w1).2 (wf_i64 w2).1 (wf_i64 w2).2 w3 (max_of_shape hsh) (tab_met (show laidMet Tryz.prog Rows.engineErrorsRow.laid W.memory by rw [← MakeChecks.laidMetH_plain _ _ _ (by kernel_rfl)]; exact hX).tail.tail.tail.tail)).mono fun e W' ⟨he, fp⟩ => ?_
 have bel := fp.toBelow
 subst he
 exact ⟨_, rfl, _, _, _, [], _, [], hW', trodAll_mk1 (shut_bool Tryz.underlying4 _), (trodAll_cons_mk (Below.trod laidOut (by kernel_rfl) (of_decide_eq_true (by kernel_rfl)) k0 bel lt0) (trodAll_cons_mk (shut_int Tryz.underlying22 w1) (trodAll_cons_mk (shut_int Tryz.underlying3 w2) (trodAll_cons_mk (shut_string Tryz.underlying9 w3) trodAll_mk0)))), rfl, bel.frame _, fun h => by cases h⟩
theorem engineErrors_plain : Rows.EngineErrorsSaid :=
 OpenClaim.holds_of_wide 3 Tryz.f3 rfl rfl rfl rfl rfl rfl rfl ⟨rfl, rfl, rfl, rfl, rfl⟩ rfl rfl rfl rfl rfl (by kernel_rfl) Tryz.func3 engineErrors_closed
  (of_decide_eq_true (by kernel_rfl)) (by unfold Func.isWrapper; first | (rw [if_pos (by decide +kernel)]; kernel_rfl) | (rw [if_neg (by decide +kernel)]; exact ⟨rfl, rfl⟩))
  (fun os started H enc _ => engineErrors_lifted os started H enc)
end Go.Proofs.YtkjmgbifoaoefaaGreatDoor
