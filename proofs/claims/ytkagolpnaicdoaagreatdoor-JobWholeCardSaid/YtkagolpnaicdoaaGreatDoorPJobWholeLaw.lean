/-
 The law JobWhole holds of the program: for every input the call returns true, and nothing that was there before the call is changed. Conditions: none but those of the statement itself (the listed variables start as the program's text lays them: the card ties them).
-/
import Derived.Test.YtkagolpnaicdoaaGreatDoorPJobWholeFacts
import Derived.Test.YtkagolpnaicdoaaGreatDoorPJobWhole
set_option maxRecDepth 100000
set_option maxHeartbeats 8000000
namespace Go.Proofs.YtkagolpnaicdoaaGreatDoor
open Go.ChangeShapes Go.WideShapes Go.ChangeAt Go.RowKit
open Go.ChangeMaps (open_string shut_string)
theorem jobWhole_lifted (os : Os) (started : os.Started) (H : Type) (enc : TypeId × Value → H) :
  ReturnsInHanded {} Tryz.checked os 8 .any (fun w args => (Rows.jobWholeSpec.pre enc Tryz.prog Tryz.f8 Rows.jobWholeRow.domain false w args /\ laidMetH Tryz.prog Rows.jobWholeRow.laid w) /\ sizedMet enc Tryz.prog Tryz.f8 (OpenSpec.ofChange Rows.jobWholeSpec) false w args)
   (Rows.jobWholeSpec.post enc Tryz.prog Tryz.f8 false true false false) := by
 refine zT (C := Tryz.checked) (X := fun w _ => laidMetH Tryz.prog Rows.jobWholeRow.laid w) own started (by kernel_rfl) Tryz.func8
  (ChangeSpec.witness_shaped (enc := enc) (C := Tryz.checked) (os := os) (X := fun w _ => laidMetH Tryz.prog Rows.jobWholeRow.laid w) false (World.laidAll Tryz.prog os Rows.jobWholeRow.laid) #[.slice none 0 0, .slice none 0 0, .int .u8 0, .int .u8 0, .int .u8 0] 8 (World.laidAll_os _ _ _)
   (World.shaped_of_ZipB (by kernel_rfl) (by kernel_rfl)) (by kernel_rfl) (by kernel_rfl) (by kernel_rfl)
   (by rw [MakeChecks.laidMetH_plain _ _ _ (by kernel_rfl)]; exact laidMet_laidAll _ (by kernel_rfl) (by kernel_rfl))) ?_
 intro W args ds gs before hval0 hW hsh hX
 have hval : ∀ (j : Nat) t v, Tryz.f8.params[j]? = some t -> args[j]? = some v -> ∃ base, Value.okWide Tryz.prog W .any base t v := hval0
 have hW' := hW
 obtain ⟨p, q, hA0, hV, rfl, hfz, hnd⟩ := hW
 have hA : DataW.TrodAll enc Tryz.prog W 0 (fun _ => true) true Tryz.f8.params.toList args.toList ds p := hA0
 rw [Tryz.params8] at hA hval
 obtain ⟨v0, vs0, d0, ds0, p0, q0, hargs, rfl, rfl, h0, r0⟩ := trodAll_cons hA
 obtain ⟨v1, vs1, d1, ds1, p1, q1, rfl, rfl, rfl, h1, r1⟩ := trodAll_cons r0
 obtain ⟨v2, vs2, d2, ds2, p2, q2, rfl, rfl, rfl, h2, r2⟩ := trodAll_cons r1
 obtain ⟨v3, vs3, d3, ds3, p3, q3, rfl, rfl, rfl, h3, r3⟩ := trodAll_cons r2
 obtain ⟨v4, vs4, d4, ds4, p4, q4, rfl, rfl, rfl, h4, r4⟩ := trodAll_cons r3
 obtain ⟨rfl, rfl, rfl⟩ := trodAll_nil r4
 obtain rfl : args = #[v0, v1, v2, v3, v4] := by cases args; simp_all
 obtain ⟨rfl, rfl⟩ := trodVars_none hV
 obtain ⟨b0, hv0⟩ := hval 0 78 v0 rfl rfl
 have k0 := h0
 have lt0 : ∀ x ∈ p0, x.block < W.heap.size := by obtain ⟨m, hm⟩ := k0; exact DataW.trod_lt m _ _ _ hm
 obtain ⟨a0, len0, cap0, rfl⟩ := okWide_slice Tryz.underlying78 hv0
 obtain ⟨m0, hm0⟩ := h0
 obtain ⟨l0, hl0, hlen0⟩ := zQ hm0
 obtain ⟨b1, hv1⟩ := hval 1 22 v1 rfl rfl
 have k1 := h1
 have lt1 : ∀ x ∈ p1, x.block < W.heap.size := by obtain ⟨m, hm⟩ := k1; exact DataW.trod_lt m _ _ _ hm
 obtain ⟨a1, len1, cap1, rfl⟩ := okWide_slice Tryz.underlying22 hv1
 obtain ⟨m1, hm1⟩ := h1
 obtain ⟨l1, hl1, hlen1⟩ := Ab2 hm1
 obtain ⟨b2, hv2⟩ := hval 2 5 v2 rfl rfl
 obtain ⟨a2, rfl, rfl, rfl, w2⟩ := open_int Tryz.underlying5 hv2 h2
 obtain ⟨b3, hv3⟩ := hval 3 5 v3 rfl rfl
 obtain ⟨a3, rfl, rfl, rfl, w3⟩ := open_int Tryz.underlying5 hv3 h3
 obtain ⟨b4, hv4⟩ := hval 4 5 v4 rfl rfl
 obtain ⟨a4, rfl, rfl, rfl, w4⟩ := open_int Tryz.underlying5 hv4 h4
 clear hA0 hval0
 refine (Aai W a0 len0 cap0 l0 a1 len1 cap1 l1 a2 a3 a4 hl0 hlen0 hl1 hlen1 (Tu w2).1 (Tu w2).2 (Tu w3).1 (Tu w3).2 (Tu w4).1 (Tu w4).2 (zV hsh (show laidMet Tryz.prog Rows.jobWholeRow.laid W.memory by rw [<- MakeChecks.laidMetH_plain _ _ _ (by kernel_rfl)]; exact hX).tail.tail.tail.tail.tail) (zS (show laidMet Tryz.prog Rows.jobWholeRow.laid W.memory by rw [<- MakeChecks.laidMetH_plain _ _ _ (by kernel_rfl)]; exact hX).tail.tail.tail.tail) (zW (show laidMet Tryz.prog Rows.jobWholeRow.laid W.memory by rw [<- MakeChecks.laidMetH_plain _ _ _ (by kernel_rfl)]; exact hX).tail) (Aaj (show laidMet Tryz.prog Rows.jobWholeRow.laid W.memory by rw [<- MakeChecks.laidMetH_plain _ _ _ (by kernel_rfl)]; exact hX).tail.tail)).mono fun e W' ⟨he, fp⟩ => ?_
 have bel := fp.toBelow
 subst he
 exact ⟨_, rfl, _, _, _, [], _, [], hW', trodAll_mk1 (shut_bool Tryz.underlying4 _), (trodAll_cons_mk (Below.trod mQ (by kernel_rfl) (of_decide_eq_true (by kernel_rfl)) k0 bel lt0) (trodAll_cons_mk (Below.trod mQ (by kernel_rfl) (of_decide_eq_true (by kernel_rfl)) k1 bel lt1) (trodAll_cons_mk (shut_int Tryz.underlying5 w2) (trodAll_cons_mk (shut_int Tryz.underlying5 w3) (trodAll_cons_mk (shut_int Tryz.underlying5 w4) trodAll_mk0))))), rfl, bel.frame _, fun h => by cases h⟩
theorem jobWhole_plain : Rows.JobWholeSaid :=
 OpenClaim.holds_of_wide 8 Tryz.f8 rfl rfl rfl rfl rfl rfl rfl ⟨rfl, rfl, rfl, rfl, rfl⟩ rfl rfl rfl rfl rfl (by kernel_rfl) Tryz.func8 jobWhole_closed
  (of_decide_eq_true (by kernel_rfl)) (by unfold Func.isWrapper; first | (rw [if_pos (by decide +kernel)]; kernel_rfl) | (rw [if_neg (by decide +kernel)]; exact ⟨rfl, rfl⟩))
  (fun os started H enc _ => jobWhole_lifted os started H enc)
end Go.Proofs.YtkagolpnaicdoaaGreatDoor
