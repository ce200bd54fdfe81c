/- That to attach what was attached is to have th -/
import Derived.Test.YtfhfbpmlnjdfoaaGreatDoorWT
set_option maxRecDepth 100000
namespace Go.Proofs.YtfhfbpmlnjdfoaaGreatDoor.attachTwice
open Go Go.RowKit Go.ChangeShapes Go.WideShapes Go.ChangeAt Go.Proofs.YtfhfbpmlnjdfoaaGreatDoor
theorem zbZ:(Rows.attachTwiceRow.wf (OpenSpec.ofChange (OpenSpec.ofChange Rows.attachTwiceSpec).bare))=true:=by kernel_rfl
theorem zca:(laidOutB Tryz.pinned.checked.prog)=true:=by kernel_rfl
theorem zcb:(mapsRowed Tryz.pinned.checked.prog)=true:=by kernel_rfl
theorem zcc:(Tryz.f9.params.all (Tryz.pinned.checked.prog.readableRec ·))=true:=by kernel_rfl
theorem zcd:(namedTie Tryz.pinned.checked.prog Rows.attachTwiceRow.named (OpenSpec.ofChange Rows.attachTwiceSpec).bare.vars)=true:=by kernel_rfl
theorem zce:((Rows.attachTwiceRow.stops==[]))=true:=by kernel_rfl
theorem zcf:((Tryz.pinned.checked.prog.stops==[]))=true:=by kernel_rfl
theorem zcg:((Rows.attachTwiceRow.knobs==[]))=true:=by kernel_rfl
theorem zch:((Tryz.pinned.checked.prog.stopKnobs==[]))=true:=by kernel_rfl
theorem zci:((Rows.attachTwiceRow.inPlace==Tryz.pinned.checked.prog.inPlace 9))=true:=by kernel_rfl
theorem zan:((Rows.attachTwiceRow.unfollowed==Tryz.pinned.checked.prog.unfollowed 9))=true:=by kernel_rfl
theorem zao:((Rows.attachTwiceRow.recurses==Tryz.pinned.checked.prog.recurses 9))=true:=by kernel_rfl
theorem zap:((Rows.attachTwiceRow.named==Tryz.pinned.checked.prog.varsNamed 9))=true:=by kernel_rfl
theorem zaq:((Rows.attachTwiceRow.maps==(Tryz.f9.params.toList++(OpenSpec.ofChange Rows.attachTwiceSpec).bare.plain.varTypes Tryz.pinned.checked.prog).any (Tryz.pinned.checked.prog.mapsRec ·)))=true:=by kernel_rfl
theorem zar:((Rows.attachTwiceRow.ifaces==(Tryz.f9.params.toList++(OpenSpec.ofChange Rows.attachTwiceSpec).bare.plain.varTypes Tryz.pinned.checked.prog).any (Tryz.pinned.checked.prog.ifacesRec ·)))=true:=by kernel_rfl
theorem zas:((Rows.attachTwiceRow.mapsOut==Tryz.pinned.checked.prog.mapsAmong Tryz.f9.resultTypes.toList))=true:=by kernel_rfl
theorem zau:((Rows.attachTwiceRow.loops==(Tryz.f9.params.toList++(OpenSpec.ofChange Rows.attachTwiceSpec).bare.plain.varTypes Tryz.pinned.checked.prog).any (Tryz.pinned.checked.prog.loopsFrom ·)))=true:=by kernel_rfl
theorem zav:((Rows.attachTwiceRow.wideKeys==(Tryz.f9.params.toList++(OpenSpec.ofChange Rows.attachTwiceSpec).bare.plain.varTypes Tryz.pinned.checked.prog++Tryz.f9.resultTypes.toList).any (Tryz.pinned.checked.prog.wideKeysFrom ·)))=true:=by kernel_rfl
theorem zaw:((OpenSpec.ofChange Rows.attachTwiceSpec).bare.vars.all (Tryz.pinned.checked.prog.varReadable ·))=true:=by kernel_rfl
theorem zax:(Tryz.f9.resultTypes.all (fun t=>Tryz.pinned.checked.prog.readableRec t&&decide (t<Tryz.pinned.checked.prog.types.size)))=true:=by kernel_rfl
theorem zay:((Rows.attachTwiceRow.ifacesOut==Tryz.f9.resultTypes.toList.any (Tryz.pinned.checked.prog.ifacesRec ·)))=true:=by kernel_rfl
theorem zaz:((Rows.attachTwiceRow.loopsOut==Tryz.f9.resultTypes.toList.any (Tryz.pinned.checked.prog.loopsFrom ·)))=true:=by kernel_rfl
theorem zaA:((Rows.attachTwiceRow.plainKeys==Tryz.pinned.checked.prog.plainKeys))=true:=by kernel_rfl
theorem zaB:(Rows.attachTwiceRow.shortTexts.isNone)=true:=by kernel_rfl
theorem zaC:(Tryz.pinned.checked.prog.stopsHeard)=true:=by kernel_rfl
theorem zaD:(Tryz.pinned.checked.prog.mayEnter)=true:=by kernel_rfl
theorem zaE:((Rows.attachTwiceRow.lifted==Tryz.pinned.checked.prog.liftsFinal))=true:=by kernel_rfl
theorem zaF:((Tryz.pinned.checked.prog.make==some Rows.attachTwiceRow.make))=true:=by kernel_rfl
theorem zaG:((Rows.attachTwiceRow.kinds==(if Rows.attachTwiceRow.domain.isEmpty then[]else Tryz.f9.params.toList.map fun t=>match Tryz.pinned.checked.prog.underlying t with|some (.int k)=>some k|_=>none)))=true:=by kernel_rfl
theorem zaH:((Rows.attachTwiceRow.pinned==Rows.attachTwiceRow.pinnedBy))=true:=by kernel_rfl
theorem zaI:((Rows.attachTwiceRow.veiled==(Tryz.f9.params.toList++(OpenSpec.ofChange Rows.attachTwiceSpec).bare.plain.varTypes Tryz.pinned.checked.prog++Tryz.f9.resultTypes.toList).any (Tryz.pinned.checked.prog.veiledRec ·)))=true:=by kernel_rfl
theorem zaJ:(Rows.attachTwiceRow.veiledFits Tryz.pinned.checked.prog Tryz.f9.params.toList (Tryz.f9.params.toList++(OpenSpec.ofChange Rows.attachTwiceSpec).bare.plain.varTypes Tryz.pinned.checked.prog++Tryz.f9.resultTypes.toList))=true:=by kernel_rfl
theorem yE{a b:Bool}(h:a=true)(g:b=true):(a&&b)=true:=by rw[h,g];rfl
theorem SG:joinedFacts Tryz.pinned.checked.prog 9 Tryz.f9 (OpenSpec.ofChange Rows.attachTwiceSpec).bare Rows.attachTwiceRow=true:=by
 unfold joinedFacts;exact(yE (yE (yE (yE (yE (yE (yE (yE (yE (yE (yE (yE (yE (yE (yE (yE (yE (yE (yE (yE (yE (yE (yE (yE (yE (yE (yE (yE (yE (yE (yE zbZ zca) zcb) zcc) zcd) zce) zcf) zcg) zch) zci) zan) zao) zap) zaq) zar) zas) zau) zav) zaw) zax) zay) zaz) zaA) zaB) zaC) zaD) zaE) zaF) zaG) zaH) zaI) zaJ)
end Go.Proofs.YtfhfbpmlnjdfoaaGreatDoor.attachTwice
