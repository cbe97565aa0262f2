/-
 The closed facts of the row of EngineErrors, each a theorem of its own.
-/
import Derived.Test.YtkjmgbifoaoefaaGreatDoorRows
import Derived.Test.YtkjmgbifoaoefaaGreatDoorChecked
import Derived.JoinedOf
set_option maxRecDepth 100000
set_option maxHeartbeats 8000000
namespace Go.Proofs.YtkjmgbifoaoefaaGreatDoor
open Go
theorem engineErrors_and {a b : Bool} (ha : a = true) (hb : b = true) : (a && b) = true := by rw [ha, hb]; rfl
theorem engineErrors_k1 : (Rows.engineErrorsRow.wf (OpenSpec.ofChange Rows.engineErrorsSpec)) = true := by kernel_rfl
theorem engineErrors_k2 : (laidOutB Tryz.pinned.checked.prog) = true := by kernel_rfl
theorem engineErrors_k3 : (mapsRowed Tryz.pinned.checked.prog) = true := by kernel_rfl
theorem engineErrors_k4 : (Tryz.f3.params.all (Tryz.pinned.checked.prog.readableRec ·)) = true := by kernel_rfl
theorem engineErrors_k5 : (namedTie Tryz.pinned.checked.prog Rows.engineErrorsRow.named Rows.engineErrorsSpec.vars) = true := by kernel_rfl
theorem engineErrors_k6 : ((Rows.engineErrorsRow.stops == [])) = true := by kernel_rfl
theorem engineErrors_k7 : ((Tryz.pinned.checked.prog.stops == [])) = true := by kernel_rfl
theorem engineErrors_k8 : ((Rows.engineErrorsRow.knobs == [])) = true := by kernel_rfl
theorem engineErrors_k9 : ((Tryz.pinned.checked.prog.stopKnobs == [])) = true := by kernel_rfl
theorem engineErrors_k10 : ((Rows.engineErrorsRow.inPlace == Tryz.pinned.checked.prog.inPlace 3)) = true := by kernel_rfl
theorem engineErrors_k11 : ((Rows.engineErrorsRow.unfollowed == Tryz.pinned.checked.prog.unfollowed 3)) = true := by kernel_rfl
theorem engineErrors_k12 : ((Rows.engineErrorsRow.recurses == Tryz.pinned.checked.prog.recurses 3)) = true := by kernel_rfl
theorem engineErrors_k13 : ((Rows.engineErrorsRow.named == Tryz.pinned.checked.prog.varsNamed 3)) = true := by kernel_rfl
theorem engineErrors_k14 : ((Rows.engineErrorsRow.maps == (Tryz.f3.params.toList ++ Rows.engineErrorsSpec.plain.varTypes Tryz.pinned.checked.prog).any (Tryz.pinned.checked.prog.mapsRec ·))) = true := by kernel_rfl
theorem engineErrors_k15 : ((Rows.engineErrorsRow.ifaces == (Tryz.f3.params.toList ++ Rows.engineErrorsSpec.plain.varTypes Tryz.pinned.checked.prog).any (Tryz.pinned.checked.prog.ifacesRec ·))) = true := by kernel_rfl
theorem engineErrors_k16 : ((Rows.engineErrorsRow.mapsOut == Tryz.pinned.checked.prog.mapsAmong Tryz.f3.resultTypes.toList)) = true := by kernel_rfl
theorem engineErrors_k17 : ((Rows.engineErrorsRow.loops == (Tryz.f3.params.toList ++ Rows.engineErrorsSpec.plain.varTypes Tryz.pinned.checked.prog).any (Tryz.pinned.checked.prog.loopsFrom ·))) = true := by kernel_rfl
theorem engineErrors_k17b : ((Rows.engineErrorsRow.wideKeys == (Tryz.f3.params.toList ++ Rows.engineErrorsSpec.plain.varTypes Tryz.pinned.checked.prog ++ Tryz.f3.resultTypes.toList).any (Tryz.pinned.checked.prog.wideKeysFrom ·))) = true := by kernel_rfl
theorem engineErrors_k18 : (Rows.engineErrorsSpec.vars.all (Tryz.pinned.checked.prog.varReadable ·)) = true := by kernel_rfl
theorem engineErrors_k19 : (Tryz.f3.resultTypes.all (fun t => Tryz.pinned.checked.prog.readableRec t && decide (t < Tryz.pinned.checked.prog.types.size))) = true := by kernel_rfl
theorem engineErrors_k20 : ((Rows.engineErrorsRow.ifacesOut == Tryz.f3.resultTypes.toList.any (Tryz.pinned.checked.prog.ifacesRec ·))) = true := by kernel_rfl
theorem engineErrors_k21 : ((Rows.engineErrorsRow.loopsOut == Tryz.f3.resultTypes.toList.any (Tryz.pinned.checked.prog.loopsFrom ·))) = true := by kernel_rfl
theorem engineErrors_k22 : ((Rows.engineErrorsRow.plainKeys == Tryz.pinned.checked.prog.plainKeys)) = true := by kernel_rfl
theorem engineErrors_k23 : (Rows.engineErrorsRow.shortTexts.isNone) = true := by kernel_rfl
theorem engineErrors_k23b : (Tryz.pinned.checked.prog.stopsHeard) = true := by kernel_rfl
theorem engineErrors_k24 : (Tryz.pinned.checked.prog.mayEnter) = true := by kernel_rfl
theorem engineErrors_k24b : ((Rows.engineErrorsRow.lifted == Tryz.pinned.checked.prog.liftsFinal)) = true := by kernel_rfl
theorem engineErrors_k24c : ((Tryz.pinned.checked.prog.make == some Rows.engineErrorsRow.make)) = true := by kernel_rfl
theorem engineErrors_k25 : ((Rows.engineErrorsRow.kinds == (if Rows.engineErrorsRow.domain.isEmpty then [] else Tryz.f3.params.toList.map fun t => match Tryz.pinned.checked.prog.underlying t with | some (.int k) => some k | _ => none))) = true := by kernel_rfl
theorem engineErrors_k26 : ((Rows.engineErrorsRow.pinned == Rows.engineErrorsRow.pinnedBy)) = true := by kernel_rfl
theorem engineErrors_k27 : ((Rows.engineErrorsRow.veiled == (Tryz.f3.params.toList ++ Rows.engineErrorsSpec.plain.varTypes Tryz.pinned.checked.prog ++ Tryz.f3.resultTypes.toList).any (Tryz.pinned.checked.prog.veiledRec ·))) = true := by kernel_rfl
theorem engineErrors_k28 : (Rows.engineErrorsRow.veiledFits Tryz.pinned.checked.prog Tryz.f3.params.toList (Tryz.f3.params.toList ++ Rows.engineErrorsSpec.plain.varTypes Tryz.pinned.checked.prog ++ Tryz.f3.resultTypes.toList)) = true := by kernel_rfl
theorem engineErrors_closed : joinedFacts Tryz.pinned.checked.prog 3 Tryz.f3 Rows.engineErrorsSpec Rows.engineErrorsRow = true := by unfold joinedFacts; exact (engineErrors_and (engineErrors_and (engineErrors_and (engineErrors_and (engineErrors_and (engineErrors_and (engineErrors_and (engineErrors_and (engineErrors_and (engineErrors_and (engineErrors_and (engineErrors_and (engineErrors_and (engineErrors_and (engineErrors_and (engineErrors_and (engineErrors_and (engineErrors_and (engineErrors_and (engineErrors_and (engineErrors_and (engineErrors_and (engineErrors_and (engineErrors_and (engineErrors_and (engineErrors_and (engineErrors_and (engineErrors_and (engineErrors_and (engineErrors_and (engineErrors_and engineErrors_k1 engineErrors_k2) engineErrors_k3) engineErrors_k4) engineErrors_k5) engineErrors_k6) engineErrors_k7) engineErrors_k8) engineErrors_k9) engineErrors_k10) engineErrors_k11) engineErrors_k12) engineErrors_k13) engineErrors_k14) engineErrors_k15) engineErrors_k16) engineErrors_k17) engineErrors_k17b) engineErrors_k18) engineErrors_k19) engineErrors_k20) engineErrors_k21) engineErrors_k22) engineErrors_k23) engineErrors_k23b) engineErrors_k24) engineErrors_k24b) engineErrors_k24c) engineErrors_k25) engineErrors_k26) engineErrors_k27) engineErrors_k28)
end Go.Proofs.YtkjmgbifoaoefaaGreatDoor
