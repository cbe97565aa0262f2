/- Lemmas. -/
import Derived.Test.YtkagolpnaicdoaaGreatDoorRows
import Derived.JoinedOf
set_option maxRecDepth 100000
set_option maxHeartbeats 8000000
namespace Go.Proofs.YtkagolpnaicdoaaGreatDoor
open Go
theorem jka{a b:Bool}(ha:a=true)(hb:b=true):(a&&b)=true:=by rw[ha,hb];rfl
theorem jk1:(Rows.jobMakesRow.wf (OpenSpec.ofChange Rows.jobMakesSpec))=true:=by kernel_rfl
theorem jk2:(laidOutB Tryz.pinned.checked.prog)=true:=by kernel_rfl
theorem jk3:(mapsRowed Tryz.pinned.checked.prog)=true:=by kernel_rfl
theorem jk4:(Tryz.f3.params.all (Tryz.pinned.checked.prog.readableRec ·))=true:=by kernel_rfl
theorem jk5:(namedTie Tryz.pinned.checked.prog Rows.jobMakesRow.named Rows.jobMakesSpec.vars)=true:=by kernel_rfl
theorem jk6:((Rows.jobMakesRow.stops==[]))=true:=by kernel_rfl
theorem jk7:((Tryz.pinned.checked.prog.stops==[]))=true:=by kernel_rfl
theorem jk8:((Rows.jobMakesRow.knobs==[]))=true:=by kernel_rfl
theorem jk9:((Tryz.pinned.checked.prog.stopKnobs==[]))=true:=by kernel_rfl
theorem jk10:((Rows.jobMakesRow.inPlace==Tryz.pinned.checked.prog.inPlace 3))=true:=by kernel_rfl
theorem jk11:((Rows.jobMakesRow.unfollowed==Tryz.pinned.checked.prog.unfollowed 3))=true:=by kernel_rfl
theorem jk12:((Rows.jobMakesRow.recurses==Tryz.pinned.checked.prog.recurses 3))=true:=by kernel_rfl
theorem jk13:((Rows.jobMakesRow.named==Tryz.pinned.checked.prog.varsNamed 3))=true:=by kernel_rfl
theorem jk14:((Rows.jobMakesRow.maps==(Tryz.f3.params.toList++Rows.jobMakesSpec.plain.varTypes Tryz.pinned.checked.prog).any (Tryz.pinned.checked.prog.mapsRec ·)))=true:=by kernel_rfl
theorem jk15:((Rows.jobMakesRow.ifaces==(Tryz.f3.params.toList++Rows.jobMakesSpec.plain.varTypes Tryz.pinned.checked.prog).any (Tryz.pinned.checked.prog.ifacesRec ·)))=true:=by kernel_rfl
theorem jk16:((Rows.jobMakesRow.mapsOut==Tryz.pinned.checked.prog.mapsAmong Tryz.f3.resultTypes.toList))=true:=by kernel_rfl
theorem jk17:((Rows.jobMakesRow.loops==(Tryz.f3.params.toList++Rows.jobMakesSpec.plain.varTypes Tryz.pinned.checked.prog).any (Tryz.pinned.checked.prog.loopsFrom ·)))=true:=by kernel_rfl
theorem jk17b:((Rows.jobMakesRow.wideKeys==(Tryz.f3.params.toList++Rows.jobMakesSpec.plain.varTypes Tryz.pinned.checked.prog++Tryz.f3.resultTypes.toList).any (Tryz.pinned.checked.prog.wideKeysFrom ·)))=true:=by kernel_rfl
theorem jk18:(Rows.jobMakesSpec.vars.all (Tryz.pinned.checked.prog.varReadable ·))=true:=by kernel_rfl
theorem jk19:(Tryz.f3.resultTypes.all (fun t=>Tryz.pinned.checked.prog.readableRec t&&decide (t<Tryz.pinned.checked.prog.types.size)))=true:=by kernel_rfl
theorem jk20:((Rows.jobMakesRow.ifacesOut==Tryz.f3.resultTypes.toList.any (Tryz.pinned.checked.prog.ifacesRec ·)))=true:=by kernel_rfl
theorem jk21:((Rows.jobMakesRow.loopsOut==Tryz.f3.resultTypes.toList.any (Tryz.pinned.checked.prog.loopsFrom ·)))=true:=by kernel_rfl
theorem jk22:((Rows.jobMakesRow.plainKeys==Tryz.pinned.checked.prog.plainKeys))=true:=by kernel_rfl
theorem jk23:(Rows.jobMakesRow.shortTexts.isNone)=true:=by kernel_rfl
theorem jk23b:(Tryz.pinned.checked.prog.stopsHeard)=true:=by kernel_rfl
theorem jk24:(Tryz.pinned.checked.prog.mayEnter)=true:=by kernel_rfl
theorem jk24b:((Rows.jobMakesRow.lifted==Tryz.pinned.checked.prog.liftsFinal))=true:=by kernel_rfl
theorem jk24c:((Tryz.pinned.checked.prog.make==some Rows.jobMakesRow.make))=true:=by kernel_rfl
theorem jk25:((Rows.jobMakesRow.kinds==(if Rows.jobMakesRow.domain.isEmpty then[] else Tryz.f3.params.toList.map fun t=>match Tryz.pinned.checked.prog.underlying t with|some (.int k)=>some k|_=>none)))=true:=by kernel_rfl
theorem jk26:((Rows.jobMakesRow.pinned==Rows.jobMakesRow.pinnedBy))=true:=by kernel_rfl
theorem jk27:((Rows.jobMakesRow.veiled==(Tryz.f3.params.toList++Rows.jobMakesSpec.plain.varTypes Tryz.pinned.checked.prog++Tryz.f3.resultTypes.toList).any (Tryz.pinned.checked.prog.veiledRec ·)))=true:=by kernel_rfl
theorem jk28:(Rows.jobMakesRow.veiledFits Tryz.pinned.checked.prog Tryz.f3.params.toList (Tryz.f3.params.toList++Rows.jobMakesSpec.plain.varTypes Tryz.pinned.checked.prog++Tryz.f3.resultTypes.toList))=true:=by kernel_rfl
theorem jobMakes_closed:joinedFacts Tryz.pinned.checked.prog 3 Tryz.f3 Rows.jobMakesSpec Rows.jobMakesRow=true:=by unfold joinedFacts;exact(jka (jka (jka (jka (jka (jka (jka (jka (jka (jka (jka (jka (jka (jka (jka (jka (jka (jka (jka (jka (jka (jka (jka (jka (jka (jka (jka (jka (jka (jka (jka jk1 jk2) jk3) jk4) jk5) jk6) jk7) jk8) jk9) jk10) jk11) jk12) jk13) jk14) jk15) jk16) jk17) jk17b) jk18) jk19) jk20) jk21) jk22) jk23) jk23b) jk24) jk24b) jk24c) jk25) jk26) jk27) jk28)
end Go.Proofs.YtkagolpnaicdoaaGreatDoor
