/-
 The closed facts of the row of JobNames, each a theorem of its own.
-/
import Derived.Test.YtkagolpnaicdoaaGreatDoorRows
import Derived.Test.YtkagolpnaicdoaaGreatDoorChecked
import Derived.JoinedOf
set_option maxRecDepth 100000
set_option maxHeartbeats 8000000
namespace Go.Proofs.YtkagolpnaicdoaaGreatDoor
open Go
theorem jobNames_and {a b : Bool} (ha : a = true) (hb : b = true) : (a && b) = true := by rw [ha, hb]; rfl
theorem jobNames_k1 : (Rows.jobNamesRow.wf (OpenSpec.ofChange Rows.jobNamesSpec)) = true := by kernel_rfl
theorem jobNames_k2 : (laidOutB Tryz.pinned.checked.prog) = true := by kernel_rfl
theorem jobNames_k3 : (mapsRowed Tryz.pinned.checked.prog) = true := by kernel_rfl
theorem jobNames_k4 : (Tryz.f6.params.all (Tryz.pinned.checked.prog.readableRec ·)) = true := by kernel_rfl
theorem jobNames_k5 : (namedTie Tryz.pinned.checked.prog Rows.jobNamesRow.named Rows.jobNamesSpec.vars) = true := by kernel_rfl
theorem jobNames_k6 : ((Rows.jobNamesRow.stops == [])) = true := by kernel_rfl
theorem jobNames_k7 : ((Tryz.pinned.checked.prog.stops == [])) = true := by kernel_rfl
theorem jobNames_k8 : ((Rows.jobNamesRow.knobs == [])) = true := by kernel_rfl
theorem jobNames_k9 : ((Tryz.pinned.checked.prog.stopKnobs == [])) = true := by kernel_rfl
theorem jobNames_k10 : ((Rows.jobNamesRow.inPlace == Tryz.pinned.checked.prog.inPlace 6)) = true := by kernel_rfl
theorem jobNames_k11 : ((Rows.jobNamesRow.unfollowed == Tryz.pinned.checked.prog.unfollowed 6)) = true := by kernel_rfl
theorem jobNames_k12 : ((Rows.jobNamesRow.recurses == Tryz.pinned.checked.prog.recurses 6)) = true := by kernel_rfl
theorem jobNames_k13 : ((Rows.jobNamesRow.named == Tryz.pinned.checked.prog.varsNamed 6)) = true := by kernel_rfl
theorem jobNames_k14 : ((Rows.jobNamesRow.maps == (Tryz.f6.params.toList ++ Rows.jobNamesSpec.plain.varTypes Tryz.pinned.checked.prog).any (Tryz.pinned.checked.prog.mapsRec ·))) = true := by kernel_rfl
theorem jobNames_k15 : ((Rows.jobNamesRow.ifaces == (Tryz.f6.params.toList ++ Rows.jobNamesSpec.plain.varTypes Tryz.pinned.checked.prog).any (Tryz.pinned.checked.prog.ifacesRec ·))) = true := by kernel_rfl
theorem jobNames_k16 : ((Rows.jobNamesRow.mapsOut == Tryz.pinned.checked.prog.mapsAmong Tryz.f6.resultTypes.toList)) = true := by kernel_rfl
theorem jobNames_k17 : ((Rows.jobNamesRow.loops == (Tryz.f6.params.toList ++ Rows.jobNamesSpec.plain.varTypes Tryz.pinned.checked.prog).any (Tryz.pinned.checked.prog.loopsFrom ·))) = true := by kernel_rfl
theorem jobNames_k17b : ((Rows.jobNamesRow.wideKeys == (Tryz.f6.params.toList ++ Rows.jobNamesSpec.plain.varTypes Tryz.pinned.checked.prog ++ Tryz.f6.resultTypes.toList).any (Tryz.pinned.checked.prog.wideKeysFrom ·))) = true := by kernel_rfl
theorem jobNames_k18 : (Rows.jobNamesSpec.vars.all (Tryz.pinned.checked.prog.varReadable ·)) = true := by kernel_rfl
theorem jobNames_k19 : (Tryz.f6.resultTypes.all (fun t => Tryz.pinned.checked.prog.readableRec t && decide (t < Tryz.pinned.checked.prog.types.size))) = true := by kernel_rfl
theorem jobNames_k20 : ((Rows.jobNamesRow.ifacesOut == Tryz.f6.resultTypes.toList.any (Tryz.pinned.checked.prog.ifacesRec ·))) = true := by kernel_rfl
theorem jobNames_k21 : ((Rows.jobNamesRow.loopsOut == Tryz.f6.resultTypes.toList.any (Tryz.pinned.checked.prog.loopsFrom ·))) = true := by kernel_rfl
theorem jobNames_k22 : ((Rows.jobNamesRow.plainKeys == Tryz.pinned.checked.prog.plainKeys)) = true := by kernel_rfl
theorem jobNames_k23 : (Rows.jobNamesRow.shortTexts.isNone) = true := by kernel_rfl
theorem jobNames_k23b : (Tryz.pinned.checked.prog.stopsHeard) = true := by kernel_rfl
theorem jobNames_k24 : (Tryz.pinned.checked.prog.mayEnter) = true := by kernel_rfl
theorem jobNames_k24b : ((Rows.jobNamesRow.lifted == Tryz.pinned.checked.prog.liftsFinal)) = true := by kernel_rfl
theorem jobNames_k24c : ((Tryz.pinned.checked.prog.make == some Rows.jobNamesRow.make)) = true := by kernel_rfl
theorem jobNames_k25 : ((Rows.jobNamesRow.kinds == (if Rows.jobNamesRow.domain.isEmpty then [] else Tryz.f6.params.toList.map fun t => match Tryz.pinned.checked.prog.underlying t with | some (.int k) => some k | _ => none))) = true := by kernel_rfl
theorem jobNames_k26 : ((Rows.jobNamesRow.pinned == Rows.jobNamesRow.pinnedBy)) = true := by kernel_rfl
theorem jobNames_k27 : ((Rows.jobNamesRow.veiled == (Tryz.f6.params.toList ++ Rows.jobNamesSpec.plain.varTypes Tryz.pinned.checked.prog ++ Tryz.f6.resultTypes.toList).any (Tryz.pinned.checked.prog.veiledRec ·))) = true := by kernel_rfl
theorem jobNames_k28 : (Rows.jobNamesRow.veiledFits Tryz.pinned.checked.prog Tryz.f6.params.toList (Tryz.f6.params.toList ++ Rows.jobNamesSpec.plain.varTypes Tryz.pinned.checked.prog ++ Tryz.f6.resultTypes.toList)) = true := by kernel_rfl
theorem jobNames_closed : joinedFacts Tryz.pinned.checked.prog 6 Tryz.f6 Rows.jobNamesSpec Rows.jobNamesRow = true := by unfold joinedFacts; exact (jobNames_and (jobNames_and (jobNames_and (jobNames_and (jobNames_and (jobNames_and (jobNames_and (jobNames_and (jobNames_and (jobNames_and (jobNames_and (jobNames_and (jobNames_and (jobNames_and (jobNames_and (jobNames_and (jobNames_and (jobNames_and (jobNames_and (jobNames_and (jobNames_and (jobNames_and (jobNames_and (jobNames_and (jobNames_and (jobNames_and (jobNames_and (jobNames_and (jobNames_and (jobNames_and (jobNames_and jobNames_k1 jobNames_k2) jobNames_k3) jobNames_k4) jobNames_k5) jobNames_k6) jobNames_k7) jobNames_k8) jobNames_k9) jobNames_k10) jobNames_k11) jobNames_k12) jobNames_k13) jobNames_k14) jobNames_k15) jobNames_k16) jobNames_k17) jobNames_k17b) jobNames_k18) jobNames_k19) jobNames_k20) jobNames_k21) jobNames_k22) jobNames_k23) jobNames_k23b) jobNames_k24) jobNames_k24b) jobNames_k24c) jobNames_k25) jobNames_k26) jobNames_k27) jobNames_k28)
end Go.Proofs.YtkagolpnaicdoaaGreatDoor
