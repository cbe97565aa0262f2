/-
 The closed facts of the row of JobBytes, each a theorem of its own.
-/
import Derived.Test.YtkagolpnaicdoaaGreatDoorRows
import Derived.Test.YtkagolpnaicdoaaGreatDoorChecked
import Derived.JoinedOf
set_option maxRecDepth 100000
set_option maxHeartbeats 8000000
namespace Go.Proofs.YtkagolpnaicdoaaGreatDoor
open Go
theorem jobBytes_and {a b : Bool} (ha : a = true) (hb : b = true) : (a && b) = true := by rw [ha, hb]; rfl
theorem jobBytes_k1 : (Rows.jobBytesRow.wf (OpenSpec.ofChange Rows.jobBytesSpec)) = true := by kernel_rfl
theorem jobBytes_k2 : (laidOutB Tryz.pinned.checked.prog) = true := by kernel_rfl
theorem jobBytes_k3 : (mapsRowed Tryz.pinned.checked.prog) = true := by kernel_rfl
theorem jobBytes_k4 : (Tryz.f4.params.all (Tryz.pinned.checked.prog.readableRec ·)) = true := by kernel_rfl
theorem jobBytes_k5 : (namedTie Tryz.pinned.checked.prog Rows.jobBytesRow.named Rows.jobBytesSpec.vars) = true := by kernel_rfl
theorem jobBytes_k6 : ((Rows.jobBytesRow.stops == [])) = true := by kernel_rfl
theorem jobBytes_k7 : ((Tryz.pinned.checked.prog.stops == [])) = true := by kernel_rfl
theorem jobBytes_k8 : ((Rows.jobBytesRow.knobs == [])) = true := by kernel_rfl
theorem jobBytes_k9 : ((Tryz.pinned.checked.prog.stopKnobs == [])) = true := by kernel_rfl
theorem jobBytes_k10 : ((Rows.jobBytesRow.inPlace == Tryz.pinned.checked.prog.inPlace 4)) = true := by kernel_rfl
theorem jobBytes_k11 : ((Rows.jobBytesRow.unfollowed == Tryz.pinned.checked.prog.unfollowed 4)) = true := by kernel_rfl
theorem jobBytes_k12 : ((Rows.jobBytesRow.recurses == Tryz.pinned.checked.prog.recurses 4)) = true := by kernel_rfl
theorem jobBytes_k13 : ((Rows.jobBytesRow.named == Tryz.pinned.checked.prog.varsNamed 4)) = true := by kernel_rfl
theorem jobBytes_k14 : ((Rows.jobBytesRow.maps == (Tryz.f4.params.toList ++ Rows.jobBytesSpec.plain.varTypes Tryz.pinned.checked.prog).any (Tryz.pinned.checked.prog.mapsRec ·))) = true := by kernel_rfl
theorem jobBytes_k15 : ((Rows.jobBytesRow.ifaces == (Tryz.f4.params.toList ++ Rows.jobBytesSpec.plain.varTypes Tryz.pinned.checked.prog).any (Tryz.pinned.checked.prog.ifacesRec ·))) = true := by kernel_rfl
theorem jobBytes_k16 : ((Rows.jobBytesRow.mapsOut == Tryz.pinned.checked.prog.mapsAmong Tryz.f4.resultTypes.toList)) = true := by kernel_rfl
theorem jobBytes_k17 : ((Rows.jobBytesRow.loops == (Tryz.f4.params.toList ++ Rows.jobBytesSpec.plain.varTypes Tryz.pinned.checked.prog).any (Tryz.pinned.checked.prog.loopsFrom ·))) = true := by kernel_rfl
theorem jobBytes_k17b : ((Rows.jobBytesRow.wideKeys == (Tryz.f4.params.toList ++ Rows.jobBytesSpec.plain.varTypes Tryz.pinned.checked.prog ++ Tryz.f4.resultTypes.toList).any (Tryz.pinned.checked.prog.wideKeysFrom ·))) = true := by kernel_rfl
theorem jobBytes_k18 : (Rows.jobBytesSpec.vars.all (Tryz.pinned.checked.prog.varReadable ·)) = true := by kernel_rfl
theorem jobBytes_k19 : (Tryz.f4.resultTypes.all (fun t => Tryz.pinned.checked.prog.readableRec t && decide (t < Tryz.pinned.checked.prog.types.size))) = true := by kernel_rfl
theorem jobBytes_k20 : ((Rows.jobBytesRow.ifacesOut == Tryz.f4.resultTypes.toList.any (Tryz.pinned.checked.prog.ifacesRec ·))) = true := by kernel_rfl
theorem jobBytes_k21 : ((Rows.jobBytesRow.loopsOut == Tryz.f4.resultTypes.toList.any (Tryz.pinned.checked.prog.loopsFrom ·))) = true := by kernel_rfl
theorem jobBytes_k22 : ((Rows.jobBytesRow.plainKeys == Tryz.pinned.checked.prog.plainKeys)) = true := by kernel_rfl
theorem jobBytes_k23 : (Rows.jobBytesRow.shortTexts.isNone) = true := by kernel_rfl
theorem jobBytes_k23b : (Tryz.pinned.checked.prog.stopsHeard) = true := by kernel_rfl
theorem jobBytes_k24 : (Tryz.pinned.checked.prog.mayEnter) = true := by kernel_rfl
theorem jobBytes_k24b : ((Rows.jobBytesRow.lifted == Tryz.pinned.checked.prog.liftsFinal)) = true := by kernel_rfl
theorem jobBytes_k24c : ((Tryz.pinned.checked.prog.make == some Rows.jobBytesRow.make)) = true := by kernel_rfl
theorem jobBytes_k25 : ((Rows.jobBytesRow.kinds == (if Rows.jobBytesRow.domain.isEmpty then [] else Tryz.f4.params.toList.map fun t => match Tryz.pinned.checked.prog.underlying t with | some (.int k) => some k | _ => none))) = true := by kernel_rfl
theorem jobBytes_k26 : ((Rows.jobBytesRow.pinned == Rows.jobBytesRow.pinnedBy)) = true := by kernel_rfl
theorem jobBytes_k27 : ((Rows.jobBytesRow.veiled == (Tryz.f4.params.toList ++ Rows.jobBytesSpec.plain.varTypes Tryz.pinned.checked.prog ++ Tryz.f4.resultTypes.toList).any (Tryz.pinned.checked.prog.veiledRec ·))) = true := by kernel_rfl
theorem jobBytes_k28 : (Rows.jobBytesRow.veiledFits Tryz.pinned.checked.prog Tryz.f4.params.toList (Tryz.f4.params.toList ++ Rows.jobBytesSpec.plain.varTypes Tryz.pinned.checked.prog ++ Tryz.f4.resultTypes.toList)) = true := by kernel_rfl
theorem jobBytes_closed : joinedFacts Tryz.pinned.checked.prog 4 Tryz.f4 Rows.jobBytesSpec Rows.jobBytesRow = true := by unfold joinedFacts; exact (jobBytes_and (jobBytes_and (jobBytes_and (jobBytes_and (jobBytes_and (jobBytes_and (jobBytes_and (jobBytes_and (jobBytes_and (jobBytes_and (jobBytes_and (jobBytes_and (jobBytes_and (jobBytes_and (jobBytes_and (jobBytes_and (jobBytes_and (jobBytes_and (jobBytes_and (jobBytes_and (jobBytes_and (jobBytes_and (jobBytes_and (jobBytes_and (jobBytes_and (jobBytes_and (jobBytes_and (jobBytes_and (jobBytes_and (jobBytes_and (jobBytes_and jobBytes_k1 jobBytes_k2) jobBytes_k3) jobBytes_k4) jobBytes_k5) jobBytes_k6) jobBytes_k7) jobBytes_k8) jobBytes_k9) jobBytes_k10) jobBytes_k11) jobBytes_k12) jobBytes_k13) jobBytes_k14) jobBytes_k15) jobBytes_k16) jobBytes_k17) jobBytes_k17b) jobBytes_k18) jobBytes_k19) jobBytes_k20) jobBytes_k21) jobBytes_k22) jobBytes_k23) jobBytes_k23b) jobBytes_k24) jobBytes_k24b) jobBytes_k24c) jobBytes_k25) jobBytes_k26) jobBytes_k27) jobBytes_k28)
end Go.Proofs.YtkagolpnaicdoaaGreatDoor
