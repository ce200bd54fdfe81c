/- Which ops, and runs, there are not: the walk, -/
import Derived.Test.YtbnpkobbnjihjaaGreatDoorW0
set_option maxRecDepth 100000
set_option maxHeartbeats 8000000
namespace Go.Proofs.YtbnpkobbnjihjaaGreatDoor
open Go Go.RowKit Tryz
theorem zge(t0 t1 t2 d fr m fi:Int)(hd:d=0\/d=3\/d=5)(ak:Option Addr)(nk ck:Nat)(w:World)(nib:Nib w)(tur:Tur w):
  Calls prog 3 #[ue t0 t1 t2,.agg #[.int .i64 d,.int .i64 fr,.int .i64 m,.int .i64 fi,.slice ak nk ck]] w fun e w'=>e=.returned (.bool true)/\Below w.heap.size w w':=vz
theorem zgf(t0 t1 t2 d fr m fi:Int)(hd:d=1\/d=2)(ak:Option Addr)(nk ck:Nat)(w:World)(nib:Nib w)(tur:Tur w):
  Calls prog 3 #[ue t0 t1 t2,.agg #[.int .i64 d,.int .i64 fr,.int .i64 m,.int .i64 fi,.slice ak nk ck]] w fun e w'=>e=.returned (.bool true)/\Below w.heap.size w w':=vz
end Go.Proofs.YtbnpkobbnjihjaaGreatDoor
