/- The two tables that the logs' laws read, as th -/
import Derived.Test.YtpejdgiccaijfaaGreatDoorG02
import Derived.Test.YtpejdgiccaijfaaGreatDoorG03
import Derived.Test.YtpejdgiccaijfaaGreatDoorCards
import Derived.Test.YtpejdgiccaijfaaGreatDoorTie
import Derived.Deep.DeepHandedRow
import Derived.Lib.LaidTab
namespace Go.Proofs.YtpejdgiccaijfaaGreatDoor
open Go Go.RowKit
theorem RP : Tryz.prog.globalNamed "lavabo/slots.turns" = some 1 := by kernel_rfl
theorem Ag:(Tryz.prog.globals[1]?).map (·.type)=some 470:=kR
theorem zhh:Tryz.prog.underlying 470=some (.array 5 3):=kR
theorem zfZ : Tryz.prog.globalNamed "lavabo/crc.nibbles" = some 0 := by kernel_rfl
theorem Ah:(Tryz.prog.globals[0]?).map (·.type)=some 420:=kR
theorem zhi:Tryz.prog.underlying 420=some (.array 16 3):=kR
theorem RQ{P:Program}{W:World}{x:String×DataW Unit}{rest:List (String×DataW Unit)}(a:laidMet P (x::rest) W):laidMet P rest W:=by
 obtain⟨ps,⟨s,v,cs,w,A,b,D,E,F,G,h,rfl⟩,j,k⟩:=a;exact⟨b,h,(qzw.1 j).2.1,fun n p q=>k n p (List.mem_append_right _ q)⟩
theorem Ai {W : World} (h : laidMetH Tryz.prog [("lavabo/crc.nibbles", Rows.laid_lavabo_crc_nibbles), ("lavabo/slots.turns", Rows.laid_lavabo_slots_turns)] W) : Nib W /\ Tur W := by
 have b : laidMet Tryz.prog [("lavabo/crc.nibbles", Rows.laid_lavabo_crc_nibbles), ("lavabo/slots.turns", Rows.laid_lavabo_slots_turns)] W := h
 have j : Lib.TabIs Tryz.prog W "lavabo/crc.nibbles" .i64 (nibT.map Int.ofNat) := Lib.tabIs_of_head (rest := [("lavabo/slots.turns", Rows.laid_lavabo_slots_turns)]) zfZ Ah zhi Tryz.underlying3 kR kR b
 have a : Lib.TabIs Tryz.prog W "lavabo/slots.turns" .i64 [2, 28, 24, 17, 0] := Lib.tabIs_of_head (rest := []) RP Ag zhh Tryz.underlying3 kR kR (RQ b)
 refine⟨⟨fun i k=>?_⟩,a.cell RP 0 de,a.cell RP 1 de,a.cell RP 2 de,a.cell RP 3 de,a.cell RP 4 de⟩;have n:(nibT.map Int.ofNat).length=16:=de;have:=j.cell zfZ i (by rw[n];exact k);rw[this];have e:(nibT.map Int.ofNat).getD i 0=(nibC i:Int):=by
  unfold nibC;rw[qyg,qyg,qyn];cases nibT[i]?<;>rfl
 rw[e]
def zhj:Obj->Obj
 | .cells _ t frozen=> .cells #[.int .i64 2,.int .i64 28,.int .i64 24,.int .i64 17,.int .i64 0] t frozen
 |o=>o
def zhk:Obj->Obj
 | .cells _ t frozen=> .cells #[.int .i64 0,.int .i64 274646895,.int .i64 549293790,.int .i64 820201905,.int .i64 1098587580,.int .i64 1361435347,.int .i64 1640403810,.int .i64 1905808397,.int .i64 2197175160,.int .i64 2460548119,.int .i64 2722870694,.int .i64 2987750089,.int .i64 3280807620,.int .i64 3553878443,.int .i64 3811616794,.int .i64 4084100981] t frozen
 |o=>o
noncomputable def laidWorld (os:Os):World:=
 {World.holding Tryz.prog os ⟨#[],#[],[]⟩with heap:=(((World.holding Tryz.prog os ⟨#[],#[],[]⟩).heap.modify 1 zhj).modify 0 zhk)}
end Go.Proofs.YtpejdgiccaijfaaGreatDoor
