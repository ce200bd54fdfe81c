/- The two tables that the logs' laws read, as th -/
import Derived.Test.YtbnpkobbnjihjaaGreatDoorG02
import Derived.Test.YtbnpkobbnjihjaaGreatDoorG04
import Derived.Test.YtbnpkobbnjihjaaGreatDoorCards
import Derived.Test.YtbnpkobbnjihjaaGreatDoorTie
import Derived.Deep.DeepHandedRow
import Derived.Lib.LaidTab
namespace Go.Proofs.YtbnpkobbnjihjaaGreatDoor
open Go Go.RowKit
theorem RF : Tryz.prog.globalNamed "lavabo/slots.turns" = some 0 := by kernel_rfl
theorem Ax:(Tryz.prog.globals[0]?).map (·.type)=some 439:=kR
theorem zhB:Tryz.prog.underlying 439=some (.array 5 3):=kR
theorem zgs : Tryz.prog.globalNamed "lavabo/crc.nibbles" = some 1 := by kernel_rfl
theorem Ay:(Tryz.prog.globals[1]?).map (·.type)=some 448:=kR
theorem zhC:Tryz.prog.underlying 448=some (.array 16 3):=kR
theorem RG{P:Program}{W:World}{x:String×DataW Unit}{rest:List (String×DataW Unit)}(b:laidMet P (x::rest) W):laidMet P rest W:=by
 obtain⟨ps,⟨v,w,cs,A,D,h,E,F,G,H,j,rfl⟩,k,n⟩:=b;exact⟨h,j,(qzv.1 k).2.1,fun p q s=>n p q (List.mem_append_right _ s)⟩
theorem Az {W : World} (h : laidMetH Tryz.prog [("lavabo/crc.nibbles", Rows.laid_lavabo_crc_nibbles), ("lavabo/slots.turns", Rows.laid_lavabo_slots_turns)] W) : Nib W /\ Tur W := by
 have j : laidMet Tryz.prog [("lavabo/crc.nibbles", Rows.laid_lavabo_crc_nibbles), ("lavabo/slots.turns", Rows.laid_lavabo_slots_turns)] W := h
 have k : Lib.TabIs Tryz.prog W "lavabo/crc.nibbles" .i64 (nibT.map Int.ofNat) := Lib.tabIs_of_head (rest := [("lavabo/slots.turns", Rows.laid_lavabo_slots_turns)]) zgs Ay zhC Tryz.underlying3 kR kR j
 have b : Lib.TabIs Tryz.prog W "lavabo/slots.turns" .i64 [2, 28, 24, 17, 0] := Lib.tabIs_of_head (rest := []) RF Ax zhB Tryz.underlying3 kR kR (RG j)
 refine⟨⟨fun i n=>?_⟩,b.cell RF 0 de,b.cell RF 1 de,b.cell RF 2 de,b.cell RF 3 de,b.cell RF 4 de⟩;have p:(nibT.map Int.ofNat).length=16:=de;have:=k.cell zgs i (by rw[p];exact n);rw[this];have e:(nibT.map Int.ofNat).getD i 0=(nibC i:Int):=by
  unfold nibC;rw[qyf,qyf,qym];cases nibT[i]?<;>rfl
 rw[e]
def zhD:Obj->Obj
 | .cells _ t frozen=> .cells #[.int .i64 2,.int .i64 28,.int .i64 24,.int .i64 17,.int .i64 0] t frozen
 |o=>o
def zhE:Obj->Obj
 | .cells _ t frozen=> .cells #[.int .i64 0,.int .i64 274646895,.int .i64 549293790,.int .i64 820201905,.int .i64 1098587580,.int .i64 1361435347,.int .i64 1640403810,.int .i64 1905808397,.int .i64 2197175160,.int .i64 2460548119,.int .i64 2722870694,.int .i64 2987750089,.int .i64 3280807620,.int .i64 3553878443,.int .i64 3811616794,.int .i64 4084100981] t frozen
 |o=>o
noncomputable def laidWorld (os:Os):World:=
 {World.holding Tryz.prog os ⟨#[],#[],[]⟩with heap:=(((World.holding Tryz.prog os ⟨#[],#[],[]⟩).heap.modify 0 zhD).modify 1 zhE)}
end Go.Proofs.YtbnpkobbnjihjaaGreatDoor
