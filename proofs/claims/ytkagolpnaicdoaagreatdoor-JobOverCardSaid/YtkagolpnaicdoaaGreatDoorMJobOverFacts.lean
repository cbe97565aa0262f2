import Derived.Test.YtkagolpnaicdoaaGreatDoorRows
import Derived.Test.YtkagolpnaicdoaaGreatDoorChecked
import Derived.JoinedOf
namespace Go.Proofs.YtkagolpnaicdoaaGreatDoor
open Go
theorem jobOver_and {a b : Bool} (ha : a = true) (hb : b = true) : (a && b) = true := by rw [ha, hb]; rfl
theorem jobOver_k1 : (Rows.jobOverRow.wf (OpenSpec.ofChange Rows.jobOverSpec)) = true := by kernel_rfl
theorem jobOver_k2 : (laidOutB Tryz.pinned.checked.prog) = true := by kernel_rfl
theorem jobOver_k3 : (mapsRowed Tryz.pinned.checked.prog) = true := by kernel_rfl
theorem jobOver_k4 : (Tryz.f5.params.all (Tryz.pinned.checked.prog.readableRec ·)) = true := by kernel_rfl
theorem jobOver_k5 : (namedTie Tryz.pinned.checked.prog Rows.jobOverRow.named Rows.jobOverSpec.vars) = true := by kernel_rfl
theorem jobOver_k6 : ((Rows.jobOverRow.stops == [])) = true := by kernel_rfl
theorem jobOver_k7 : ((Tryz.pinned.checked.prog.stops == [])) = true := by kernel_rfl
theorem jobOver_k8 : ((Rows.jobOverRow.knobs == [])) = true := by kernel_rfl
theorem jobOver_k9 : ((Tryz.pinned.checked.prog.stopKnobs == [])) = true := by kernel_rfl
theorem jobOver_k10 : ((Rows.jobOverRow.inPlace == Tryz.pinned.checked.prog.inPlace 5)) = true := by kernel_rfl
theorem jobOver_k11 : ((Rows.jobOverRow.unfollowed == Tryz.pinned.checked.prog.unfollowed 5)) = true := by kernel_rfl
theorem jobOver_k12 : ((Rows.jobOverRow.recurses == Tryz.pinned.checked.prog.recurses 5)) = true := by kernel_rfl
theorem jobOver_k13 : ((Rows.jobOverRow.named == Tryz.pinned.checked.prog.varsNamed 5)) = true := by kernel_rfl
theorem jobOver_k14 : ((Rows.jobOverRow.maps == (Tryz.f5.params.toList ++ Rows.jobOverSpec.plain.varTypes Tryz.pinned.checked.prog).any (Tryz.pinned.checked.prog.mapsRec ·))) = true := by kernel_rfl
theorem jobOver_k15 : ((Rows.jobOverRow.ifaces == (Tryz.f5.params.toList ++ Rows.jobOverSpec.plain.varTypes Tryz.pinned.checked.prog).any (Tryz.pinned.checked.prog.ifacesRec ·))) = true := by kernel_rfl
theorem jobOver_k16 : ((Rows.jobOverRow.mapsOut == Tryz.pinned.checked.prog.mapsAmong Tryz.f5.resultTypes.toList)) = true := by kernel_rfl
theorem jobOver_k17 : ((Rows.jobOverRow.loops == (Tryz.f5.params.toList ++ Rows.jobOverSpec.plain.varTypes Tryz.pinned.checked.prog).any (Tryz.pinned.checked.prog.loopsFrom ·))) = true := by kernel_rfl
theorem jobOver_k17b : ((Rows.jobOverRow.wideKeys == (Tryz.f5.params.toList ++ Rows.jobOverSpec.plain.varTypes Tryz.pinned.checked.prog ++ Tryz.f5.resultTypes.toList).any (Tryz.pinned.checked.prog.wideKeysFrom ·))) = true := by kernel_rfl
theorem jobOver_k18 : (Rows.jobOverSpec.vars.all (Tryz.pinned.checked.prog.varReadable ·)) = true := by kernel_rfl
theorem jobOver_k19 : (Tryz.f5.resultTypes.all (fun t => Tryz.pinned.checked.prog.readableRec t && decide (t < Tryz.pinned.checked.prog.types.size))) = true := by kernel_rfl
theorem jobOver_k20 : ((Rows.jobOverRow.ifacesOut == Tryz.f5.resultTypes.toList.any (Tryz.pinned.checked.prog.ifacesRec ·))) = true := by kernel_rfl
theorem jobOver_k21 : ((Rows.jobOverRow.loopsOut == Tryz.f5.resultTypes.toList.any (Tryz.pinned.checked.prog.loopsFrom ·))) = true := by kernel_rfl
theorem jobOver_k22 : ((Rows.jobOverRow.plainKeys == Tryz.pinned.checked.prog.plainKeys)) = true := by kernel_rfl
theorem jobOver_k23 : (Rows.jobOverRow.shortTexts.isNone) = true := by kernel_rfl
theorem jobOver_k23b : (Tryz.pinned.checked.prog.stopsHeard) = true := by kernel_rfl
theorem jobOver_k24 : (Tryz.pinned.checked.prog.mayEnter) = true := by kernel_rfl
theorem jobOver_k24b : ((Rows.jobOverRow.lifted == Tryz.pinned.checked.prog.liftsFinal)) = true := by kernel_rfl
theorem jobOver_k24c : ((Tryz.pinned.checked.prog.make == some Rows.jobOverRow.make)) = true := by kernel_rfl
theorem jobOver_k25 : ((Rows.jobOverRow.kinds == (if Rows.jobOverRow.domain.isEmpty then [] else Tryz.f5.params.toList.map fun t => match Tryz.pinned.checked.prog.underlying t with | some (.int k) => some k | _ => none))) = true := by kernel_rfl
theorem jobOver_k26 : ((Rows.jobOverRow.pinned == Rows.jobOverRow.pinnedBy)) = true := by kernel_rfl
theorem jobOver_k27 : ((Rows.jobOverRow.veiled == (Tryz.f5.params.toList ++ Rows.jobOverSpec.plain.varTypes Tryz.pinned.checked.prog ++ Tryz.f5.resultTypes.toList).any (Tryz.pinned.checked.prog.veiledRec ·))) = true := by kernel_rfl
theorem jobOver_k28 : (Rows.jobOverRow.veiledFits Tryz.pinned.checked.prog Tryz.f5.params.toList (Tryz.f5.params.toList ++ Rows.jobOverSpec.plain.varTypes Tryz.pinned.checked.prog ++ Tryz.f5.resultTypes.toList)) = true := by kernel_rfl
set_option maxRecDepth 100000 in
theorem jobOver_closed : joinedFacts Tryz.pinned.checked.prog 5 Tryz.f5 Rows.jobOverSpec Rows.jobOverRow = true := by unfold joinedFacts; exact (jobOver_and (jobOver_and (jobOver_and (jobOver_and (jobOver_and (jobOver_and (jobOver_and (jobOver_and (jobOver_and (jobOver_and (jobOver_and (jobOver_and (jobOver_and (jobOver_and (jobOver_and (jobOver_and (jobOver_and (jobOver_and (jobOver_and (jobOver_and (jobOver_and (jobOver_and (jobOver_and (jobOver_and (jobOver_and (jobOver_and (jobOver_and (jobOver_and (jobOver_and (jobOver_and (jobOver_and jobOver_k1 jobOver_k2) jobOver_k3) jobOver_k4) jobOver_k5) jobOver_k6) jobOver_k7) jobOver_k8) jobOver_k9) jobOver_k10) jobOver_k11) jobOver_k12) jobOver_k13) jobOver_k14) jobOver_k15) jobOver_k16) jobOver_k17) jobOver_k17b) jobOver_k18) jobOver_k19) jobOver_k20) jobOver_k21) jobOver_k22) jobOver_k23) jobOver_k23b) jobOver_k24) jobOver_k24b) jobOver_k24c) jobOver_k25) jobOver_k26) jobOver_k27) jobOver_k28)
end Go.Proofs.YtkagolpnaicdoaaGreatDoor
