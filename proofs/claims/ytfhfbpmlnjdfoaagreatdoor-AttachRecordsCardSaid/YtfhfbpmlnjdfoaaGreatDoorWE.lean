/- That what Entries and the records tell is what -/
import Derived.Test.YtfhfbpmlnjdfoaaGreatDoorWT
set_option maxRecDepth 100000
namespace Go.Proofs.YtfhfbpmlnjdfoaaGreatDoor.attachRecords
open Go Go.RowKit Go.ChangeShapes Go.WideShapes Go.ChangeAt Go.Proofs.YtfhfbpmlnjdfoaaGreatDoor
theorem AZ:(Rows.attachRecordsRow.wf (OpenSpec.ofChange (OpenSpec.ofChange Rows.attachRecordsSpec).bare))=true:=by kernel_rfl
theorem zaa:(laidOutB Tryz.pinned.checked.prog)=true:=by kernel_rfl
theorem zab:(mapsRowed Tryz.pinned.checked.prog)=true:=by kernel_rfl
theorem zac:(Tryz.f6.params.all (Tryz.pinned.checked.prog.readableRec ·))=true:=by kernel_rfl
theorem zad:(namedTie Tryz.pinned.checked.prog Rows.attachRecordsRow.named (OpenSpec.ofChange Rows.attachRecordsSpec).bare.vars)=true:=by kernel_rfl
theorem zae:((Rows.attachRecordsRow.stops==[]))=true:=by kernel_rfl
theorem zaf:((Tryz.pinned.checked.prog.stops==[]))=true:=by kernel_rfl
theorem zag:((Rows.attachRecordsRow.knobs==[]))=true:=by kernel_rfl
theorem zah:((Tryz.pinned.checked.prog.stopKnobs==[]))=true:=by kernel_rfl
theorem zai:((Rows.attachRecordsRow.inPlace==Tryz.pinned.checked.prog.inPlace 6))=true:=by kernel_rfl
theorem EM:((Rows.attachRecordsRow.unfollowed==Tryz.pinned.checked.prog.unfollowed 6))=true:=by kernel_rfl
theorem EN:((Rows.attachRecordsRow.recurses==Tryz.pinned.checked.prog.recurses 6))=true:=by kernel_rfl
theorem EO:((Rows.attachRecordsRow.named==Tryz.pinned.checked.prog.varsNamed 6))=true:=by kernel_rfl
theorem EP:((Rows.attachRecordsRow.maps==(Tryz.f6.params.toList++(OpenSpec.ofChange Rows.attachRecordsSpec).bare.plain.varTypes Tryz.pinned.checked.prog).any (Tryz.pinned.checked.prog.mapsRec ·)))=true:=by kernel_rfl
theorem EQ:((Rows.attachRecordsRow.ifaces==(Tryz.f6.params.toList++(OpenSpec.ofChange Rows.attachRecordsSpec).bare.plain.varTypes Tryz.pinned.checked.prog).any (Tryz.pinned.checked.prog.ifacesRec ·)))=true:=by kernel_rfl
theorem ER:((Rows.attachRecordsRow.mapsOut==Tryz.pinned.checked.prog.mapsAmong Tryz.f6.resultTypes.toList))=true:=by kernel_rfl
theorem ES:((Rows.attachRecordsRow.loops==(Tryz.f6.params.toList++(OpenSpec.ofChange Rows.attachRecordsSpec).bare.plain.varTypes Tryz.pinned.checked.prog).any (Tryz.pinned.checked.prog.loopsFrom ·)))=true:=by kernel_rfl
theorem ET:((Rows.attachRecordsRow.wideKeys==(Tryz.f6.params.toList++(OpenSpec.ofChange Rows.attachRecordsSpec).bare.plain.varTypes Tryz.pinned.checked.prog++Tryz.f6.resultTypes.toList).any (Tryz.pinned.checked.prog.wideKeysFrom ·)))=true:=by kernel_rfl
theorem EU:((OpenSpec.ofChange Rows.attachRecordsSpec).bare.vars.all (Tryz.pinned.checked.prog.varReadable ·))=true:=by kernel_rfl
theorem EV:(Tryz.f6.resultTypes.all (fun t=>Tryz.pinned.checked.prog.readableRec t&&decide (t<Tryz.pinned.checked.prog.types.size)))=true:=by kernel_rfl
theorem EW:((Rows.attachRecordsRow.ifacesOut==Tryz.f6.resultTypes.toList.any (Tryz.pinned.checked.prog.ifacesRec ·)))=true:=by kernel_rfl
theorem EX:((Rows.attachRecordsRow.loopsOut==Tryz.f6.resultTypes.toList.any (Tryz.pinned.checked.prog.loopsFrom ·)))=true:=by kernel_rfl
theorem EY:((Rows.attachRecordsRow.plainKeys==Tryz.pinned.checked.prog.plainKeys))=true:=by kernel_rfl
theorem EZ:(Rows.attachRecordsRow.shortTexts.isNone)=true:=by kernel_rfl
theorem Ab:(Tryz.pinned.checked.prog.stopsHeard)=true:=by kernel_rfl
theorem Ac:(Tryz.pinned.checked.prog.mayEnter)=true:=by kernel_rfl
theorem Ad:((Rows.attachRecordsRow.lifted==Tryz.pinned.checked.prog.liftsFinal))=true:=by kernel_rfl
theorem Ae:((Tryz.pinned.checked.prog.make==some Rows.attachRecordsRow.make))=true:=by kernel_rfl
theorem Af:((Rows.attachRecordsRow.kinds==(if Rows.attachRecordsRow.domain.isEmpty then[]else Tryz.f6.params.toList.map fun t=>match Tryz.pinned.checked.prog.underlying t with|some (.int k)=>some k|_=>none)))=true:=by kernel_rfl
theorem Ag:((Rows.attachRecordsRow.pinned==Rows.attachRecordsRow.pinnedBy))=true:=by kernel_rfl
theorem Ah:((Rows.attachRecordsRow.veiled==(Tryz.f6.params.toList++(OpenSpec.ofChange Rows.attachRecordsSpec).bare.plain.varTypes Tryz.pinned.checked.prog++Tryz.f6.resultTypes.toList).any (Tryz.pinned.checked.prog.veiledRec ·)))=true:=by kernel_rfl
theorem Ai:(Rows.attachRecordsRow.veiledFits Tryz.pinned.checked.prog Tryz.f6.params.toList (Tryz.f6.params.toList++(OpenSpec.ofChange Rows.attachRecordsSpec).bare.plain.varTypes Tryz.pinned.checked.prog++Tryz.f6.resultTypes.toList))=true:=by kernel_rfl
theorem yD{a b:Bool}(h:a=true)(g:b=true):(a&&b)=true:=by rw[h,g];rfl
theorem Rj:joinedFacts Tryz.pinned.checked.prog 6 Tryz.f6 (OpenSpec.ofChange Rows.attachRecordsSpec).bare Rows.attachRecordsRow=true:=by
 unfold joinedFacts;exact(yD (yD (yD (yD (yD (yD (yD (yD (yD (yD (yD (yD (yD (yD (yD (yD (yD (yD (yD (yD (yD (yD (yD (yD (yD (yD (yD (yD (yD (yD (yD AZ zaa) zab) zac) zad) zae) zaf) zag) zah) zai) EM) EN) EO) EP) EQ) ER) ES) ET) EU) EV) EW) EX) EY) EZ) Ab) Ac) Ad) Ae) Af) Ag) Ah) Ai)
end Go.Proofs.YtfhfbpmlnjdfoaaGreatDoor.attachRecords
