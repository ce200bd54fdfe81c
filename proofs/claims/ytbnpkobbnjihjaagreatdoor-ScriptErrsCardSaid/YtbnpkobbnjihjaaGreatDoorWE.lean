/- Which ops, and runs, there are not. The facts -/
import Derived.Test.YtbnpkobbnjihjaaGreatDoorWT
set_option maxRecDepth 100000
namespace Go.Proofs.YtbnpkobbnjihjaaGreatDoor.scriptErrs
open Go Go.RowKit Go.ChangeShapes Go.WideShapes Go.ChangeAt Go.Proofs.YtbnpkobbnjihjaaGreatDoor
theorem zgi:(Rows.scriptErrsRow.wf (OpenSpec.ofChange (OpenSpec.ofChange Rows.scriptErrsSpec).bare))=true:=kR
theorem zgj:(laidOutB Tryz.pinned.checked.prog)=true:=kR
theorem zgk:(mapsRowed Tryz.pinned.checked.prog)=true:=kR
theorem zgl:(Tryz.f3.params.all (Tryz.pinned.checked.prog.readableRec ·))=true:=kR
theorem zgm:(namedTie Tryz.pinned.checked.prog Rows.scriptErrsRow.named (OpenSpec.ofChange Rows.scriptErrsSpec).bare.vars)=true:=kR
theorem zgn:((Rows.scriptErrsRow.stops==[]))=true:=kR
theorem zgo:((Tryz.pinned.checked.prog.stops==[]))=true:=kR
theorem zgp:((Rows.scriptErrsRow.knobs==[]))=true:=kR
theorem zgq:((Tryz.pinned.checked.prog.stopKnobs==[]))=true:=kR
theorem zgr:((Rows.scriptErrsRow.inPlace==Tryz.pinned.checked.prog.inPlace 3))=true:=kR
theorem zei:((Rows.scriptErrsRow.unfollowed==Tryz.pinned.checked.prog.unfollowed 3))=true:=kR
theorem zej:((Rows.scriptErrsRow.recurses==Tryz.pinned.checked.prog.recurses 3))=true:=kR
theorem zek:((Rows.scriptErrsRow.named==Tryz.pinned.checked.prog.varsNamed 3))=true:=kR
theorem zel:((Rows.scriptErrsRow.maps==(Tryz.f3.params.toList++(OpenSpec.ofChange Rows.scriptErrsSpec).bare.plain.varTypes Tryz.pinned.checked.prog).any (Tryz.pinned.checked.prog.mapsRec ·)))=true:=kR
theorem zem:((Rows.scriptErrsRow.ifaces==(Tryz.f3.params.toList++(OpenSpec.ofChange Rows.scriptErrsSpec).bare.plain.varTypes Tryz.pinned.checked.prog).any (Tryz.pinned.checked.prog.ifacesRec ·)))=true:=kR
theorem zen:((Rows.scriptErrsRow.mapsOut==Tryz.pinned.checked.prog.mapsAmong Tryz.f3.resultTypes.toList))=true:=kR
theorem zeo:((Rows.scriptErrsRow.loops==(Tryz.f3.params.toList++(OpenSpec.ofChange Rows.scriptErrsSpec).bare.plain.varTypes Tryz.pinned.checked.prog).any (Tryz.pinned.checked.prog.loopsFrom ·)))=true:=kR
theorem zep:((Rows.scriptErrsRow.wideKeys==(Tryz.f3.params.toList++(OpenSpec.ofChange Rows.scriptErrsSpec).bare.plain.varTypes Tryz.pinned.checked.prog++Tryz.f3.resultTypes.toList).any (Tryz.pinned.checked.prog.wideKeysFrom ·)))=true:=kR
theorem zeq:((OpenSpec.ofChange Rows.scriptErrsSpec).bare.vars.all (Tryz.pinned.checked.prog.varReadable ·))=true:=kR
theorem zer:(Tryz.f3.resultTypes.all (fun t=>Tryz.pinned.checked.prog.readableRec t&&decide (t<Tryz.pinned.checked.prog.types.size)))=true:=kR
theorem zes:((Rows.scriptErrsRow.ifacesOut==Tryz.f3.resultTypes.toList.any (Tryz.pinned.checked.prog.ifacesRec ·)))=true:=kR
theorem zet:((Rows.scriptErrsRow.loopsOut==Tryz.f3.resultTypes.toList.any (Tryz.pinned.checked.prog.loopsFrom ·)))=true:=kR
theorem zeu:((Rows.scriptErrsRow.plainKeys==Tryz.pinned.checked.prog.plainKeys))=true:=kR
theorem zev:(Rows.scriptErrsRow.shortTexts.isNone)=true:=kR
theorem zew:(Tryz.pinned.checked.prog.stopsHeard)=true:=kR
theorem zex:(Tryz.pinned.checked.prog.mayEnter)=true:=kR
theorem zey:((Rows.scriptErrsRow.lifted==Tryz.pinned.checked.prog.liftsFinal))=true:=kR
theorem zez:((Tryz.pinned.checked.prog.make==some Rows.scriptErrsRow.make))=true:=kR
theorem zeA:((Rows.scriptErrsRow.kinds==(if Rows.scriptErrsRow.domain.isEmpty then[]else Tryz.f3.params.toList.map fun t=>match Tryz.pinned.checked.prog.underlying t with|some (.int k)=>some k|_=>none)))=true:=kR
theorem zeB:((Rows.scriptErrsRow.pinned==Rows.scriptErrsRow.pinnedBy))=true:=kR
theorem zeC:((Rows.scriptErrsRow.veiled==(Tryz.f3.params.toList++(OpenSpec.ofChange Rows.scriptErrsSpec).bare.plain.varTypes Tryz.pinned.checked.prog++Tryz.f3.resultTypes.toList).any (Tryz.pinned.checked.prog.veiledRec ·)))=true:=kR
theorem zeD:(Rows.scriptErrsRow.veiledFits Tryz.pinned.checked.prog Tryz.f3.params.toList (Tryz.f3.params.toList++(OpenSpec.ofChange Rows.scriptErrsSpec).bare.plain.varTypes Tryz.pinned.checked.prog++Tryz.f3.resultTypes.toList))=true:=kR
theorem yG{a b:Bool}(h:a=true)(g:b=true):(a&&b)=true:=by rw[h,g];rfl
theorem Av:joinedFacts Tryz.pinned.checked.prog 3 Tryz.f3 (OpenSpec.ofChange Rows.scriptErrsSpec).bare Rows.scriptErrsRow=true:=by
 unfold joinedFacts;exact(yG (yG (yG (yG (yG (yG (yG (yG (yG (yG (yG (yG (yG (yG (yG (yG (yG (yG (yG (yG (yG (yG (yG (yG (yG (yG (yG (yG (yG (yG (yG zgi zgj) zgk) zgl) zgm) zgn) zgo) zgp) zgq) zgr) zei) zej) zek) zel) zem) zen) zeo) zep) zeq) zer) zes) zet) zeu) zev) zew) zex) zey) zez) zeA) zeB) zeC) zeD)
end Go.Proofs.YtbnpkobbnjihjaaGreatDoor.scriptErrs
