/-
 The closed facts of the row of JobActs, each a theorem of its own.
-/
import Derived.Test.YtkagolpnaicdoaaGreatDoorRows
import Derived.Test.YtkagolpnaicdoaaGreatDoorChecked
import Derived.JoinedOf
set_option maxRecDepth 100000
set_option maxHeartbeats 8000000
namespace Go.Proofs.YtkagolpnaicdoaaGreatDoor
open Go
theorem jobActs_and {a b : Bool} (ha : a = true) (hb : b = true) : (a && b) = true := by rw [ha, hb]; rfl
theorem jobActs_k1 : (Rows.jobActsRow.wf (OpenSpec.ofChange Rows.jobActsSpec)) = true := by kernel_rfl
theorem jobActs_k2 : (laidOutB Tryz.pinned.checked.prog) = true := by kernel_rfl
theorem jobActs_k3 : (mapsRowed Tryz.pinned.checked.prog) = true := by kernel_rfl
theorem jobActs_k4 : (Tryz.f7.params.all (Tryz.pinned.checked.prog.readableRec ·)) = true := by kernel_rfl
theorem jobActs_k5 : (namedTie Tryz.pinned.checked.prog Rows.jobActsRow.named Rows.jobActsSpec.vars) = true := by kernel_rfl
theorem jobActs_k6 : ((Rows.jobActsRow.stops == [])) = true := by kernel_rfl
theorem jobActs_k7 : ((Tryz.pinned.checked.prog.stops == [])) = true := by kernel_rfl
theorem jobActs_k8 : ((Rows.jobActsRow.knobs == [])) = true := by kernel_rfl
theorem jobActs_k9 : ((Tryz.pinned.checked.prog.stopKnobs == [])) = true := by kernel_rfl
theorem jobActs_k10 : ((Rows.jobActsRow.inPlace == Tryz.pinned.checked.prog.inPlace 7)) = true := by kernel_rfl
theorem jobActs_k11 : ((Rows.jobActsRow.unfollowed == Tryz.pinned.checked.prog.unfollowed 7)) = true := by kernel_rfl
theorem jobActs_k12 : ((Rows.jobActsRow.recurses == Tryz.pinned.checked.prog.recurses 7)) = true := by kernel_rfl
theorem jobActs_k13 : ((Rows.jobActsRow.named == Tryz.pinned.checked.prog.varsNamed 7)) = true := by kernel_rfl
theorem jobActs_k14 : ((Rows.jobActsRow.maps == (Tryz.f7.params.toList ++ Rows.jobActsSpec.plain.varTypes Tryz.pinned.checked.prog).any (Tryz.pinned.checked.prog.mapsRec ·))) = true := by kernel_rfl
theorem jobActs_k15 : ((Rows.jobActsRow.ifaces == (Tryz.f7.params.toList ++ Rows.jobActsSpec.plain.varTypes Tryz.pinned.checked.prog).any (Tryz.pinned.checked.prog.ifacesRec ·))) = true := by kernel_rfl
theorem jobActs_k16 : ((Rows.jobActsRow.mapsOut == Tryz.pinned.checked.prog.mapsAmong Tryz.f7.resultTypes.toList)) = true := by kernel_rfl
theorem jobActs_k17 : ((Rows.jobActsRow.loops == (Tryz.f7.params.toList ++ Rows.jobActsSpec.plain.varTypes Tryz.pinned.checked.prog).any (Tryz.pinned.checked.prog.loopsFrom ·))) = true := by kernel_rfl
theorem jobActs_k17b : ((Rows.jobActsRow.wideKeys == (Tryz.f7.params.toList ++ Rows.jobActsSpec.plain.varTypes Tryz.pinned.checked.prog ++ Tryz.f7.resultTypes.toList).any (Tryz.pinned.checked.prog.wideKeysFrom ·))) = true := by kernel_rfl
theorem jobActs_k18 : (Rows.jobActsSpec.vars.all (Tryz.pinned.checked.prog.varReadable ·)) = true := by kernel_rfl
theorem jobActs_k19 : (Tryz.f7.resultTypes.all (fun t => Tryz.pinned.checked.prog.readableRec t && decide (t < Tryz.pinned.checked.prog.types.size))) = true := by kernel_rfl
theorem jobActs_k20 : ((Rows.jobActsRow.ifacesOut == Tryz.f7.resultTypes.toList.any (Tryz.pinned.checked.prog.ifacesRec ·))) = true := by kernel_rfl
theorem jobActs_k21 : ((Rows.jobActsRow.loopsOut == Tryz.f7.resultTypes.toList.any (Tryz.pinned.checked.prog.loopsFrom ·))) = true := by kernel_rfl
theorem jobActs_k22 : ((Rows.jobActsRow.plainKeys == Tryz.pinned.checked.prog.plainKeys)) = true := by kernel_rfl
theorem jobActs_k23 : (Rows.jobActsRow.shortTexts.isNone) = true := by kernel_rfl
theorem jobActs_k23b : (Tryz.pinned.checked.prog.stopsHeard) = true := by kernel_rfl
theorem jobActs_k24 : (Tryz.pinned.checked.prog.mayEnter) = true := by kernel_rfl
theorem jobActs_k24b : ((Rows.jobActsRow.lifted == Tryz.pinned.checked.prog.liftsFinal)) = true := by kernel_rfl
theorem jobActs_k24c : ((Tryz.pinned.checked.prog.make == some Rows.jobActsRow.make)) = true := by kernel_rfl
theorem jobActs_k25 : ((Rows.jobActsRow.kinds == (if Rows.jobActsRow.domain.isEmpty then [] else Tryz.f7.params.toList.map fun t => match Tryz.pinned.checked.prog.underlying t with | some (.int k) => some k | _ => none))) = true := by kernel_rfl
theorem jobActs_k26 : ((Rows.jobActsRow.pinned == Rows.jobActsRow.pinnedBy)) = true := by kernel_rfl
theorem jobActs_k27 : ((Rows.jobActsRow.veiled == (Tryz.f7.params.toList ++ Rows.jobActsSpec.plain.varTypes Tryz.pinned.checked.prog ++ Tryz.f7.resultTypes.toList).any (Tryz.pinned.checked.prog.veiledRec ·))) = true := by kernel_rfl
theorem jobActs_k28 : (Rows.jobActsRow.veiledFits Tryz.pinned.checked.prog Tryz.f7.params.toList (Tryz.f7.params.toList ++ Rows.jobActsSpec.plain.varTypes Tryz.pinned.checked.prog ++ Tryz.f7.resultTypes.toList)) = true := by kernel_rfl
theorem jobActs_closed : joinedFacts Tryz.pinned.checked.prog 7 Tryz.f7 Rows.jobActsSpec Rows.jobActsRow = true := by unfold joinedFacts; exact (jobActs_and (jobActs_and (jobActs_and (jobActs_and (jobActs_and (jobActs_and (jobActs_and (jobActs_and (jobActs_and (jobActs_and (jobActs_and (jobActs_and (jobActs_and (jobActs_and (jobActs_and (jobActs_and (jobActs_and (jobActs_and (jobActs_and (jobActs_and (jobActs_and (jobActs_and (jobActs_and (jobActs_and (jobActs_and (jobActs_and (jobActs_and (jobActs_and (jobActs_and (jobActs_and (jobActs_and jobActs_k1 jobActs_k2) jobActs_k3) jobActs_k4) jobActs_k5) jobActs_k6) jobActs_k7) jobActs_k8) jobActs_k9) jobActs_k10) jobActs_k11) jobActs_k12) jobActs_k13) jobActs_k14) jobActs_k15) jobActs_k16) jobActs_k17) jobActs_k17b) jobActs_k18) jobActs_k19) jobActs_k20) jobActs_k21) jobActs_k22) jobActs_k23) jobActs_k23b) jobActs_k24) jobActs_k24b) jobActs_k24c) jobActs_k25) jobActs_k26) jobActs_k27) jobActs_k28)
end Go.Proofs.YtkagolpnaicdoaaGreatDoor
