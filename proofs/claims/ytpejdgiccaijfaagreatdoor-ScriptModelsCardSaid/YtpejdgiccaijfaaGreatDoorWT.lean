/- The two tables that the logs' laws read, as th -/
import Derived.Test.YtpejdgiccaijfaaGreatDoorG02
import Derived.Test.YtpejdgiccaijfaaGreatDoorG05
import Derived.Test.YtpejdgiccaijfaaGreatDoorCards
import Derived.Test.YtpejdgiccaijfaaGreatDoorTie
import Derived.Deep.DeepHandedRow
import Derived.Lib.LaidTab
namespace Go.Proofs.YtpejdgiccaijfaaGreatDoor
open Go Go.RowKit
theorem TX : Tryz.prog.globalNamed "lavabo/slots.turns" = some 1 := by kernel_rfl
theorem ST:(Tryz.prog.globals[1]?).map (·.type)=some 470:=kR
theorem zeC:Tryz.prog.underlying 470=some (.array 5 3):=kR
theorem zdx : Tryz.prog.globalNamed "lavabo/crc.nibbles" = some 0 := by kernel_rfl
theorem SU:(Tryz.prog.globals[0]?).map (·.type)=some 420:=kR
theorem zeD:Tryz.prog.underlying 420=some (.array 16 3):=kR
theorem TY{P:Program}{W:World}{x:String×DataW Unit}{rest:List (String×DataW Unit)}(h:laidMet P (x::rest) W):laidMet P rest W:=by
 obtain⟨ps,⟨g',t',cs,fuel,p,q,hg',ht',hvar,hd,hq,rfl⟩,hn,ha⟩:=h;exact⟨q,hq,(qzv.1 hn).2.1,fun b off hm=>ha b off (List.mem_append_right _ hm)⟩
theorem SV {W : World} (h : laidMetH Tryz.prog [("lavabo/crc.nibbles", Rows.laid_lavabo_crc_nibbles), ("lavabo/slots.turns", Rows.laid_lavabo_slots_turns)] W) : Nib W /\ Tur W := by
 have h' : laidMet Tryz.prog [("lavabo/crc.nibbles", Rows.laid_lavabo_crc_nibbles), ("lavabo/slots.turns", Rows.laid_lavabo_slots_turns)] W := h
 have hn : Lib.TabIs Tryz.prog W "lavabo/crc.nibbles" .i64 (nibT.map Int.ofNat) := Lib.tabIs_of_head (rest := [("lavabo/slots.turns", Rows.laid_lavabo_slots_turns)]) zdx SU zeD Tryz.underlying3 kR kR h'
 have ht : Lib.TabIs Tryz.prog W "lavabo/slots.turns" .i64 [2, 28, 24, 17, 0] := Lib.tabIs_of_head (rest := []) TX ST zeC Tryz.underlying3 kR kR (TY h')
 refine⟨⟨fun i hi=>?_⟩,ht.cell TX 0 de,ht.cell TX 1 de,ht.cell TX 2 de,ht.cell TX 3 de,ht.cell TX 4 de⟩;have hl:(nibT.map Int.ofNat).length=16:=de;have:=hn.cell zdx i (by rw[hl];exact hi);rw[this];have e:(nibT.map Int.ofNat).getD i 0=(nibC i:Int):=by
  unfold nibC;rw[qyf,qyf,qym];cases nibT[i]?<;>rfl
 rw[e]
def zeE:Obj->Obj
 | .cells _ t frozen=> .cells #[.int .i64 2,.int .i64 28,.int .i64 24,.int .i64 17,.int .i64 0] t frozen
 |o=>o
def zeF:Obj->Obj
 | .cells _ t frozen=> .cells #[.int .i64 0,.int .i64 274646895,.int .i64 549293790,.int .i64 820201905,.int .i64 1098587580,.int .i64 1361435347,.int .i64 1640403810,.int .i64 1905808397,.int .i64 2197175160,.int .i64 2460548119,.int .i64 2722870694,.int .i64 2987750089,.int .i64 3280807620,.int .i64 3553878443,.int .i64 3811616794,.int .i64 4084100981] t frozen
 |o=>o
noncomputable def laidWorld (os:Os):World:=
 {World.holding Tryz.prog os ⟨#[],#[],[]⟩with heap:=(((World.holding Tryz.prog os ⟨#[],#[],[]⟩).heap.modify 1 zeE).modify 0 zeF)}
end Go.Proofs.YtpejdgiccaijfaaGreatDoor
