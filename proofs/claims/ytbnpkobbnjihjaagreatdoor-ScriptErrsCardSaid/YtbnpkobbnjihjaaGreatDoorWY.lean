/- Which ops, and runs, there are not: the walk o -/
import Derived.Test.YtbnpkobbnjihjaaGreatDoorWA
import Derived.Test.YtbnpkobbnjihjaaGreatDoorWB
set_option maxRecDepth 100000
set_option maxHeartbeats 8000000
namespace Go.Proofs.YtbnpkobbnjihjaaGreatDoor
open Go Go.RowKit Tryz
theorem zgt(t0 t1 t2 d fr m fi:Int)(hd:d≠0/\d≠3/\d≠5/\d≠1/\d≠2/\d≠6/\d≠9/\d≠11)(ak:Option Addr)(nk ck:Nat)(w:World)(nib:Nib w)(tur:Tur w):
  Calls prog 3 #[ue t0 t1 t2,.agg #[.int .i64 d,.int .i64 fr,.int .i64 m,.int .i64 fi,.slice ak nk ck]] w fun e w'=>e=.returned (.bool true)/\Below w.heap.size w w':=vz
theorem RH(t0 b j d fr m fi:Int)(ak:Option Addr)(nk ck:Nat)(w:World)(nib:Nib w)(tur:Tur w):
  Calls prog 3 #[ue t0 b j,.agg #[.int .i64 d,.int .i64 fr,.int .i64 m,.int .i64 fi,.slice ak nk ck]] w fun e k=>e=.returned (.bool true)/\Below w.heap.size w k:=by
 by_cases h1:d=0\/d=3\/d=5
 .exact zge t0 b j d fr m fi h1 ak nk ck w nib tur
 by_cases h2:d=1\/d=2
 .exact zgf t0 b j d fr m fi h2 ak nk ck w nib tur
 by_cases n:d=6\/d=9
 .exact zgg t0 b j d fr m fi n ak nk ck w nib tur
 by_cases p:d=11
 .exact zgh t0 b j d fr m fi p ak nk ck w nib tur
 .exact zgt t0 b j d fr m fi oM ak nk ck w nib tur
end Go.Proofs.YtbnpkobbnjihjaaGreatDoor
