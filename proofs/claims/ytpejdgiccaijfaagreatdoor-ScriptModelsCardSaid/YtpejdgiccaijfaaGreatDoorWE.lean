/- What an array of blocks is behind ops, and wha -/
import Derived.Test.YtpejdgiccaijfaaGreatDoorWT
set_option maxRecDepth 100000
namespace Go.Proofs.YtpejdgiccaijfaaGreatDoor.scriptModels
open Go Go.RowKit Go.ChangeShapes Go.WideShapes Go.ChangeAt Go.Proofs.YtpejdgiccaijfaaGreatDoor
theorem zdn:(Rows.scriptModelsRow.wf (OpenSpec.ofChange (OpenSpec.ofChange Rows.scriptModelsSpec).bare))=true:=kR
theorem zdo:(laidOutB Tryz.pinned.checked.prog)=true:=kR
theorem zdp:(mapsRowed Tryz.pinned.checked.prog)=true:=kR
theorem zdq:(Tryz.f5.params.all (Tryz.pinned.checked.prog.readableRec ·))=true:=kR
theorem zdr:(namedTie Tryz.pinned.checked.prog Rows.scriptModelsRow.named (OpenSpec.ofChange Rows.scriptModelsSpec).bare.vars)=true:=kR
theorem zds:((Rows.scriptModelsRow.stops==[]))=true:=kR
theorem zdt:((Tryz.pinned.checked.prog.stops==[]))=true:=kR
theorem zdu:((Rows.scriptModelsRow.knobs==[]))=true:=kR
theorem zdv:((Tryz.pinned.checked.prog.stopKnobs==[]))=true:=kR
theorem zdw:((Rows.scriptModelsRow.inPlace==Tryz.pinned.checked.prog.inPlace 5))=true:=kR
theorem zbp:((Rows.scriptModelsRow.unfollowed==Tryz.pinned.checked.prog.unfollowed 5))=true:=kR
theorem zbq:((Rows.scriptModelsRow.recurses==Tryz.pinned.checked.prog.recurses 5))=true:=kR
theorem zbr:((Rows.scriptModelsRow.named==Tryz.pinned.checked.prog.varsNamed 5))=true:=kR
theorem zbs:((Rows.scriptModelsRow.maps==(Tryz.f5.params.toList++(OpenSpec.ofChange Rows.scriptModelsSpec).bare.plain.varTypes Tryz.pinned.checked.prog).any (Tryz.pinned.checked.prog.mapsRec ·)))=true:=kR
theorem zbt:((Rows.scriptModelsRow.ifaces==(Tryz.f5.params.toList++(OpenSpec.ofChange Rows.scriptModelsSpec).bare.plain.varTypes Tryz.pinned.checked.prog).any (Tryz.pinned.checked.prog.ifacesRec ·)))=true:=kR
theorem zbu:((Rows.scriptModelsRow.mapsOut==Tryz.pinned.checked.prog.mapsAmong Tryz.f5.resultTypes.toList))=true:=kR
theorem zbv:((Rows.scriptModelsRow.loops==(Tryz.f5.params.toList++(OpenSpec.ofChange Rows.scriptModelsSpec).bare.plain.varTypes Tryz.pinned.checked.prog).any (Tryz.pinned.checked.prog.loopsFrom ·)))=true:=kR
theorem zbw:((Rows.scriptModelsRow.wideKeys==(Tryz.f5.params.toList++(OpenSpec.ofChange Rows.scriptModelsSpec).bare.plain.varTypes Tryz.pinned.checked.prog++Tryz.f5.resultTypes.toList).any (Tryz.pinned.checked.prog.wideKeysFrom ·)))=true:=kR
theorem zbx:((OpenSpec.ofChange Rows.scriptModelsSpec).bare.vars.all (Tryz.pinned.checked.prog.varReadable ·))=true:=kR
theorem zby:(Tryz.f5.resultTypes.all (fun t=>Tryz.pinned.checked.prog.readableRec t&&decide (t<Tryz.pinned.checked.prog.types.size)))=true:=kR
theorem zbz:((Rows.scriptModelsRow.ifacesOut==Tryz.f5.resultTypes.toList.any (Tryz.pinned.checked.prog.ifacesRec ·)))=true:=kR
theorem zbA:((Rows.scriptModelsRow.loopsOut==Tryz.f5.resultTypes.toList.any (Tryz.pinned.checked.prog.loopsFrom ·)))=true:=kR
theorem zbB:((Rows.scriptModelsRow.plainKeys==Tryz.pinned.checked.prog.plainKeys))=true:=kR
theorem zbC:(Rows.scriptModelsRow.shortTexts.isNone)=true:=kR
theorem zbD:(Tryz.pinned.checked.prog.stopsHeard)=true:=kR
theorem zbE:(Tryz.pinned.checked.prog.mayEnter)=true:=kR
theorem zbF:((Rows.scriptModelsRow.lifted==Tryz.pinned.checked.prog.liftsFinal))=true:=kR
theorem zbG:((Tryz.pinned.checked.prog.make==some Rows.scriptModelsRow.make))=true:=kR
theorem zbH:((Rows.scriptModelsRow.kinds==(if Rows.scriptModelsRow.domain.isEmpty then[]else Tryz.f5.params.toList.map fun t=>match Tryz.pinned.checked.prog.underlying t with|some (.int k)=>some k|_=>none)))=true:=kR
theorem zbI:((Rows.scriptModelsRow.pinned==Rows.scriptModelsRow.pinnedBy))=true:=kR
theorem zbJ:((Rows.scriptModelsRow.veiled==(Tryz.f5.params.toList++(OpenSpec.ofChange Rows.scriptModelsSpec).bare.plain.varTypes Tryz.pinned.checked.prog++Tryz.f5.resultTypes.toList).any (Tryz.pinned.checked.prog.veiledRec ·)))=true:=kR
theorem zbK:(Rows.scriptModelsRow.veiledFits Tryz.pinned.checked.prog Tryz.f5.params.toList (Tryz.f5.params.toList++(OpenSpec.ofChange Rows.scriptModelsSpec).bare.plain.varTypes Tryz.pinned.checked.prog++Tryz.f5.resultTypes.toList))=true:=kR
theorem yD{a b:Bool}(h:a=true)(g:b=true):(a&&b)=true:=by rw[h,g];rfl
theorem SR:joinedFacts Tryz.pinned.checked.prog 5 Tryz.f5 (OpenSpec.ofChange Rows.scriptModelsSpec).bare Rows.scriptModelsRow=true:=by
 unfold joinedFacts;exact(yD (yD (yD (yD (yD (yD (yD (yD (yD (yD (yD (yD (yD (yD (yD (yD (yD (yD (yD (yD (yD (yD (yD (yD (yD (yD (yD (yD (yD (yD (yD zdn zdo) zdp) zdq) zdr) zds) zdt) zdu) zdv) zdw) zbp) zbq) zbr) zbs) zbt) zbu) zbv) zbw) zbx) zby) zbz) zbA) zbB) zbC) zbD) zbE) zbF) zbG) zbH) zbI) zbJ) zbK)
end Go.Proofs.YtpejdgiccaijfaaGreatDoor.scriptModels
