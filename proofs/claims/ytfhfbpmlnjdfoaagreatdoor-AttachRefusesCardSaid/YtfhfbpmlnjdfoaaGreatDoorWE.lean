/- That what is no cache is told, and no sector i -/
import Derived.Test.YtfhfbpmlnjdfoaaGreatDoorWT
set_option maxRecDepth 100000
namespace Go.Proofs.YtfhfbpmlnjdfoaaGreatDoor.attachRefuses
open Go Go.RowKit Go.ChangeShapes Go.WideShapes Go.ChangeAt Go.Proofs.YtfhfbpmlnjdfoaaGreatDoor
theorem zcQ:(Rows.attachRefusesRow.wf (OpenSpec.ofChange (OpenSpec.ofChange Rows.attachRefusesSpec).bare))=true:=kR
theorem zcR:(laidOutB Tryz.pinned.checked.prog)=true:=kR
theorem zcS:(mapsRowed Tryz.pinned.checked.prog)=true:=kR
theorem zcT:(Tryz.f8.params.all (Tryz.pinned.checked.prog.readableRec ·))=true:=kR
theorem zcU:(namedTie Tryz.pinned.checked.prog Rows.attachRefusesRow.named (OpenSpec.ofChange Rows.attachRefusesSpec).bare.vars)=true:=kR
theorem zcV:((Rows.attachRefusesRow.stops==[]))=true:=kR
theorem zcW:((Tryz.pinned.checked.prog.stops==[]))=true:=kR
theorem zcX:((Rows.attachRefusesRow.knobs==[]))=true:=kR
theorem zcY:((Tryz.pinned.checked.prog.stopKnobs==[]))=true:=kR
theorem zcZ:((Rows.attachRefusesRow.inPlace==Tryz.pinned.checked.prog.inPlace 8))=true:=kR
theorem zaW:((Rows.attachRefusesRow.unfollowed==Tryz.pinned.checked.prog.unfollowed 8))=true:=kR
theorem zaX:((Rows.attachRefusesRow.recurses==Tryz.pinned.checked.prog.recurses 8))=true:=kR
theorem zaY:((Rows.attachRefusesRow.named==Tryz.pinned.checked.prog.varsNamed 8))=true:=kR
theorem zaZ:((Rows.attachRefusesRow.maps==(Tryz.f8.params.toList++(OpenSpec.ofChange Rows.attachRefusesSpec).bare.plain.varTypes Tryz.pinned.checked.prog).any (Tryz.pinned.checked.prog.mapsRec ·)))=true:=kR
theorem zba:((Rows.attachRefusesRow.ifaces==(Tryz.f8.params.toList++(OpenSpec.ofChange Rows.attachRefusesSpec).bare.plain.varTypes Tryz.pinned.checked.prog).any (Tryz.pinned.checked.prog.ifacesRec ·)))=true:=kR
theorem zbb:((Rows.attachRefusesRow.mapsOut==Tryz.pinned.checked.prog.mapsAmong Tryz.f8.resultTypes.toList))=true:=kR
theorem zbc:((Rows.attachRefusesRow.loops==(Tryz.f8.params.toList++(OpenSpec.ofChange Rows.attachRefusesSpec).bare.plain.varTypes Tryz.pinned.checked.prog).any (Tryz.pinned.checked.prog.loopsFrom ·)))=true:=kR
theorem zbd:((Rows.attachRefusesRow.wideKeys==(Tryz.f8.params.toList++(OpenSpec.ofChange Rows.attachRefusesSpec).bare.plain.varTypes Tryz.pinned.checked.prog++Tryz.f8.resultTypes.toList).any (Tryz.pinned.checked.prog.wideKeysFrom ·)))=true:=kR
theorem zbe:((OpenSpec.ofChange Rows.attachRefusesSpec).bare.vars.all (Tryz.pinned.checked.prog.varReadable ·))=true:=kR
theorem zbf:(Tryz.f8.resultTypes.all (fun t=>Tryz.pinned.checked.prog.readableRec t&&decide (t<Tryz.pinned.checked.prog.types.size)))=true:=kR
theorem zbg:((Rows.attachRefusesRow.ifacesOut==Tryz.f8.resultTypes.toList.any (Tryz.pinned.checked.prog.ifacesRec ·)))=true:=kR
theorem zbh:((Rows.attachRefusesRow.loopsOut==Tryz.f8.resultTypes.toList.any (Tryz.pinned.checked.prog.loopsFrom ·)))=true:=kR
theorem zbi:((Rows.attachRefusesRow.plainKeys==Tryz.pinned.checked.prog.plainKeys))=true:=kR
theorem zbj:(Rows.attachRefusesRow.shortTexts.isNone)=true:=kR
theorem zbk:(Tryz.pinned.checked.prog.stopsHeard)=true:=kR
theorem zbl:(Tryz.pinned.checked.prog.mayEnter)=true:=kR
theorem zbm:((Rows.attachRefusesRow.lifted==Tryz.pinned.checked.prog.liftsFinal))=true:=kR
theorem zbn:((Tryz.pinned.checked.prog.make==some Rows.attachRefusesRow.make))=true:=kR
theorem zbo:((Rows.attachRefusesRow.kinds==(if Rows.attachRefusesRow.domain.isEmpty then[]else Tryz.f8.params.toList.map fun t=>match Tryz.pinned.checked.prog.underlying t with|some (.int k)=>some k|_=>none)))=true:=kR
theorem zbp:((Rows.attachRefusesRow.pinned==Rows.attachRefusesRow.pinnedBy))=true:=kR
theorem zbq:((Rows.attachRefusesRow.veiled==(Tryz.f8.params.toList++(OpenSpec.ofChange Rows.attachRefusesSpec).bare.plain.varTypes Tryz.pinned.checked.prog++Tryz.f8.resultTypes.toList).any (Tryz.pinned.checked.prog.veiledRec ·)))=true:=kR
theorem zbr:(Rows.attachRefusesRow.veiledFits Tryz.pinned.checked.prog Tryz.f8.params.toList (Tryz.f8.params.toList++(OpenSpec.ofChange Rows.attachRefusesSpec).bare.plain.varTypes Tryz.pinned.checked.prog++Tryz.f8.resultTypes.toList))=true:=kR
theorem yH{a b:Bool}(h:a=true)(g:b=true):(a&&b)=true:=by rw[h,g];rfl
theorem ST:joinedFacts Tryz.pinned.checked.prog 8 Tryz.f8 (OpenSpec.ofChange Rows.attachRefusesSpec).bare Rows.attachRefusesRow=true:=by
 unfold joinedFacts;exact(yH (yH (yH (yH (yH (yH (yH (yH (yH (yH (yH (yH (yH (yH (yH (yH (yH (yH (yH (yH (yH (yH (yH (yH (yH (yH (yH (yH (yH (yH (yH zcQ zcR) zcS) zcT) zcU) zcV) zcW) zcX) zcY) zcZ) zaW) zaX) zaY) zaZ) zba) zbb) zbc) zbd) zbe) zbf) zbg) zbh) zbi) zbj) zbk) zbl) zbm) zbn) zbo) zbp) zbq) zbr)
end Go.Proofs.YtfhfbpmlnjdfoaaGreatDoor.attachRefuses
