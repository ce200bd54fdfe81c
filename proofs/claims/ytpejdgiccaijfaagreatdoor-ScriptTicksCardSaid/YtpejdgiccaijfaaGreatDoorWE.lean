/- Ticks turn nothing that is read: a script with -/
import Derived.Test.YtpejdgiccaijfaaGreatDoorWT
set_option maxRecDepth 100000
namespace Go.Proofs.YtpejdgiccaijfaaGreatDoor.scriptTicks
open Go Go.RowKit Go.ChangeShapes Go.WideShapes Go.ChangeAt Go.Proofs.YtpejdgiccaijfaaGreatDoor
theorem zfP:(Rows.scriptTicksRow.wf (OpenSpec.ofChange (OpenSpec.ofChange Rows.scriptTicksSpec).bare))=true:=kR
theorem zfQ:(laidOutB Tryz.pinned.checked.prog)=true:=kR
theorem zfR:(mapsRowed Tryz.pinned.checked.prog)=true:=kR
theorem zfS:(Tryz.f3.params.all (Tryz.pinned.checked.prog.readableRec ·))=true:=kR
theorem zfT:(namedTie Tryz.pinned.checked.prog Rows.scriptTicksRow.named (OpenSpec.ofChange Rows.scriptTicksSpec).bare.vars)=true:=kR
theorem zfU:((Rows.scriptTicksRow.stops==[]))=true:=kR
theorem zfV:((Tryz.pinned.checked.prog.stops==[]))=true:=kR
theorem zfW:((Rows.scriptTicksRow.knobs==[]))=true:=kR
theorem zfX:((Tryz.pinned.checked.prog.stopKnobs==[]))=true:=kR
theorem zfY:((Rows.scriptTicksRow.inPlace==Tryz.pinned.checked.prog.inPlace 3))=true:=kR
theorem zdN:((Rows.scriptTicksRow.unfollowed==Tryz.pinned.checked.prog.unfollowed 3))=true:=kR
theorem zdO:((Rows.scriptTicksRow.recurses==Tryz.pinned.checked.prog.recurses 3))=true:=kR
theorem zdP:((Rows.scriptTicksRow.named==Tryz.pinned.checked.prog.varsNamed 3))=true:=kR
theorem zdQ:((Rows.scriptTicksRow.maps==(Tryz.f3.params.toList++(OpenSpec.ofChange Rows.scriptTicksSpec).bare.plain.varTypes Tryz.pinned.checked.prog).any (Tryz.pinned.checked.prog.mapsRec ·)))=true:=kR
theorem zdR:((Rows.scriptTicksRow.ifaces==(Tryz.f3.params.toList++(OpenSpec.ofChange Rows.scriptTicksSpec).bare.plain.varTypes Tryz.pinned.checked.prog).any (Tryz.pinned.checked.prog.ifacesRec ·)))=true:=kR
theorem zdS:((Rows.scriptTicksRow.mapsOut==Tryz.pinned.checked.prog.mapsAmong Tryz.f3.resultTypes.toList))=true:=kR
theorem zdT:((Rows.scriptTicksRow.loops==(Tryz.f3.params.toList++(OpenSpec.ofChange Rows.scriptTicksSpec).bare.plain.varTypes Tryz.pinned.checked.prog).any (Tryz.pinned.checked.prog.loopsFrom ·)))=true:=kR
theorem zdU:((Rows.scriptTicksRow.wideKeys==(Tryz.f3.params.toList++(OpenSpec.ofChange Rows.scriptTicksSpec).bare.plain.varTypes Tryz.pinned.checked.prog++Tryz.f3.resultTypes.toList).any (Tryz.pinned.checked.prog.wideKeysFrom ·)))=true:=kR
theorem zdV:((OpenSpec.ofChange Rows.scriptTicksSpec).bare.vars.all (Tryz.pinned.checked.prog.varReadable ·))=true:=kR
theorem zdW:(Tryz.f3.resultTypes.all (fun t=>Tryz.pinned.checked.prog.readableRec t&&decide (t<Tryz.pinned.checked.prog.types.size)))=true:=kR
theorem zdX:((Rows.scriptTicksRow.ifacesOut==Tryz.f3.resultTypes.toList.any (Tryz.pinned.checked.prog.ifacesRec ·)))=true:=kR
theorem zdY:((Rows.scriptTicksRow.loopsOut==Tryz.f3.resultTypes.toList.any (Tryz.pinned.checked.prog.loopsFrom ·)))=true:=kR
theorem zdZ:((Rows.scriptTicksRow.plainKeys==Tryz.pinned.checked.prog.plainKeys))=true:=kR
theorem zea:(Rows.scriptTicksRow.shortTexts.isNone)=true:=kR
theorem zeb:(Tryz.pinned.checked.prog.stopsHeard)=true:=kR
theorem zec:(Tryz.pinned.checked.prog.mayEnter)=true:=kR
theorem zed:((Rows.scriptTicksRow.lifted==Tryz.pinned.checked.prog.liftsFinal))=true:=kR
theorem zee:((Tryz.pinned.checked.prog.make==some Rows.scriptTicksRow.make))=true:=kR
theorem zef:((Rows.scriptTicksRow.kinds==(if Rows.scriptTicksRow.domain.isEmpty then[]else Tryz.f3.params.toList.map fun t=>match Tryz.pinned.checked.prog.underlying t with|some (.int k)=>some k|_=>none)))=true:=kR
theorem zeg:((Rows.scriptTicksRow.pinned==Rows.scriptTicksRow.pinnedBy))=true:=kR
theorem zeh:((Rows.scriptTicksRow.veiled==(Tryz.f3.params.toList++(OpenSpec.ofChange Rows.scriptTicksSpec).bare.plain.varTypes Tryz.pinned.checked.prog++Tryz.f3.resultTypes.toList).any (Tryz.pinned.checked.prog.veiledRec ·)))=true:=kR
theorem zei:(Rows.scriptTicksRow.veiledFits Tryz.pinned.checked.prog Tryz.f3.params.toList (Tryz.f3.params.toList++(OpenSpec.ofChange Rows.scriptTicksSpec).bare.plain.varTypes Tryz.pinned.checked.prog++Tryz.f3.resultTypes.toList))=true:=kR
theorem yG{a b:Bool}(h:a=true)(g:b=true):(a&&b)=true:=by rw[h,g];rfl
theorem Ae:joinedFacts Tryz.pinned.checked.prog 3 Tryz.f3 (OpenSpec.ofChange Rows.scriptTicksSpec).bare Rows.scriptTicksRow=true:=by
 unfold joinedFacts;exact(yG (yG (yG (yG (yG (yG (yG (yG (yG (yG (yG (yG (yG (yG (yG (yG (yG (yG (yG (yG (yG (yG (yG (yG (yG (yG (yG (yG (yG (yG (yG zfP zfQ) zfR) zfS) zfT) zfU) zfV) zfW) zfX) zfY) zdN) zdO) zdP) zdQ) zdR) zdS) zdT) zdU) zdV) zdW) zdX) zdY) zdZ) zea) zeb) zec) zed) zee) zef) zeg) zeh) zei)
end Go.Proofs.YtpejdgiccaijfaaGreatDoor.scriptTicks
