/-
 The closed facts of the row of JobWhole, each a theorem of its own.
-/
import Derived.Test.YtkagolpnaicdoaaGreatDoorRows
import Derived.JoinedOf
set_option maxRecDepth 100000
set_option maxHeartbeats 8000000
namespace Go.Proofs.YtkagolpnaicdoaaGreatDoor
open Go
theorem jobWhole_and {a b : Bool} (ha : a = true) (hb : b = true) : (a && b) = true := by rw [ha, hb]; rfl
theorem jobWhole_k1 : (Rows.jobWholeRow.wf (OpenSpec.ofChange Rows.jobWholeSpec)) = true := by kernel_rfl
theorem jobWhole_k2 : (laidOutB Tryz.pinned.checked.prog) = true := by kernel_rfl
theorem jobWhole_k3 : (mapsRowed Tryz.pinned.checked.prog) = true := by kernel_rfl
theorem jobWhole_k4 : (Tryz.f8.params.all (Tryz.pinned.checked.prog.readableRec ·)) = true := by kernel_rfl
theorem jobWhole_k5 : (namedTie Tryz.pinned.checked.prog Rows.jobWholeRow.named Rows.jobWholeSpec.vars) = true := by kernel_rfl
theorem jobWhole_k6 : ((Rows.jobWholeRow.stops == [])) = true := by kernel_rfl
theorem jobWhole_k7 : ((Tryz.pinned.checked.prog.stops == [])) = true := by kernel_rfl
theorem jobWhole_k8 : ((Rows.jobWholeRow.knobs == [])) = true := by kernel_rfl
theorem jobWhole_k9 : ((Tryz.pinned.checked.prog.stopKnobs == [])) = true := by kernel_rfl
theorem jobWhole_k10 : ((Rows.jobWholeRow.inPlace == Tryz.pinned.checked.prog.inPlace 8)) = true := by kernel_rfl
theorem jobWhole_k11 : ((Rows.jobWholeRow.unfollowed == Tryz.pinned.checked.prog.unfollowed 8)) = true := by kernel_rfl
theorem jobWhole_k12 : ((Rows.jobWholeRow.recurses == Tryz.pinned.checked.prog.recurses 8)) = true := by kernel_rfl
theorem jobWhole_k13 : ((Rows.jobWholeRow.named == Tryz.pinned.checked.prog.varsNamed 8)) = true := by kernel_rfl
theorem jobWhole_k14 : ((Rows.jobWholeRow.maps == (Tryz.f8.params.toList ++ Rows.jobWholeSpec.plain.varTypes Tryz.pinned.checked.prog).any (Tryz.pinned.checked.prog.mapsRec ·))) = true := by kernel_rfl
theorem jobWhole_k15 : ((Rows.jobWholeRow.ifaces == (Tryz.f8.params.toList ++ Rows.jobWholeSpec.plain.varTypes Tryz.pinned.checked.prog).any (Tryz.pinned.checked.prog.ifacesRec ·))) = true := by kernel_rfl
theorem jobWhole_k16 : ((Rows.jobWholeRow.mapsOut == Tryz.pinned.checked.prog.mapsAmong Tryz.f8.resultTypes.toList)) = true := by kernel_rfl
theorem jobWhole_k17 : ((Rows.jobWholeRow.loops == (Tryz.f8.params.toList ++ Rows.jobWholeSpec.plain.varTypes Tryz.pinned.checked.prog).any (Tryz.pinned.checked.prog.loopsFrom ·))) = true := by kernel_rfl
theorem jobWhole_k17b : ((Rows.jobWholeRow.wideKeys == (Tryz.f8.params.toList ++ Rows.jobWholeSpec.plain.varTypes Tryz.pinned.checked.prog ++ Tryz.f8.resultTypes.toList).any (Tryz.pinned.checked.prog.wideKeysFrom ·))) = true := by kernel_rfl
theorem jobWhole_k18 : (Rows.jobWholeSpec.vars.all (Tryz.pinned.checked.prog.varReadable ·)) = true := by kernel_rfl
theorem jobWhole_k19 : (Tryz.f8.resultTypes.all (fun t => Tryz.pinned.checked.prog.readableRec t && decide (t < Tryz.pinned.checked.prog.types.size))) = true := by kernel_rfl
theorem jobWhole_k20 : ((Rows.jobWholeRow.ifacesOut == Tryz.f8.resultTypes.toList.any (Tryz.pinned.checked.prog.ifacesRec ·))) = true := by kernel_rfl
theorem jobWhole_k21 : ((Rows.jobWholeRow.loopsOut == Tryz.f8.resultTypes.toList.any (Tryz.pinned.checked.prog.loopsFrom ·))) = true := by kernel_rfl
theorem jobWhole_k22 : ((Rows.jobWholeRow.plainKeys == Tryz.pinned.checked.prog.plainKeys)) = true := by kernel_rfl
theorem jobWhole_k23 : (Rows.jobWholeRow.shortTexts.isNone) = true := by kernel_rfl
theorem jobWhole_k23b : (Tryz.pinned.checked.prog.stopsHeard) = true := by kernel_rfl
theorem jobWhole_k24 : (Tryz.pinned.checked.prog.mayEnter) = true := by kernel_rfl
theorem jobWhole_k24b : ((Rows.jobWholeRow.lifted == Tryz.pinned.checked.prog.liftsFinal)) = true := by kernel_rfl
theorem jobWhole_k24c : ((Tryz.pinned.checked.prog.make == some Rows.jobWholeRow.make)) = true := by kernel_rfl
theorem jobWhole_k25 : ((Rows.jobWholeRow.kinds == (if Rows.jobWholeRow.domain.isEmpty then [] else Tryz.f8.params.toList.map fun t => match Tryz.pinned.checked.prog.underlying t with | some (.int k) => some k | _ => none))) = true := by kernel_rfl
theorem jobWhole_k26 : ((Rows.jobWholeRow.pinned == Rows.jobWholeRow.pinnedBy)) = true := by kernel_rfl
theorem jobWhole_k27 : ((Rows.jobWholeRow.veiled == (Tryz.f8.params.toList ++ Rows.jobWholeSpec.plain.varTypes Tryz.pinned.checked.prog ++ Tryz.f8.resultTypes.toList).any (Tryz.pinned.checked.prog.veiledRec ·))) = true := by kernel_rfl
theorem jobWhole_k28 : (Rows.jobWholeRow.veiledFits Tryz.pinned.checked.prog Tryz.f8.params.toList (Tryz.f8.params.toList ++ Rows.jobWholeSpec.plain.varTypes Tryz.pinned.checked.prog ++ Tryz.f8.resultTypes.toList)) = true := by kernel_rfl
theorem jobWhole_closed : joinedFacts Tryz.pinned.checked.prog 8 Tryz.f8 Rows.jobWholeSpec Rows.jobWholeRow = true := by unfold joinedFacts; exact (jobWhole_and (jobWhole_and (jobWhole_and (jobWhole_and (jobWhole_and (jobWhole_and (jobWhole_and (jobWhole_and (jobWhole_and (jobWhole_and (jobWhole_and (jobWhole_and (jobWhole_and (jobWhole_and (jobWhole_and (jobWhole_and (jobWhole_and (jobWhole_and (jobWhole_and (jobWhole_and (jobWhole_and (jobWhole_and (jobWhole_and (jobWhole_and (jobWhole_and (jobWhole_and (jobWhole_and (jobWhole_and (jobWhole_and (jobWhole_and (jobWhole_and jobWhole_k1 jobWhole_k2) jobWhole_k3) jobWhole_k4) jobWhole_k5) jobWhole_k6) jobWhole_k7) jobWhole_k8) jobWhole_k9) jobWhole_k10) jobWhole_k11) jobWhole_k12) jobWhole_k13) jobWhole_k14) jobWhole_k15) jobWhole_k16) jobWhole_k17) jobWhole_k17b) jobWhole_k18) jobWhole_k19) jobWhole_k20) jobWhole_k21) jobWhole_k22) jobWhole_k23) jobWhole_k23b) jobWhole_k24) jobWhole_k24b) jobWhole_k24c) jobWhole_k25) jobWhole_k26) jobWhole_k27) jobWhole_k28)
end Go.Proofs.YtkagolpnaicdoaaGreatDoor
