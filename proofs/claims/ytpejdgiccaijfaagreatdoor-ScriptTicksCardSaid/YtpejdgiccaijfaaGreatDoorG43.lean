/- A run that was made; alike; Ticks' pieces. -/
import Derived.Test.YtpejdgiccaijfaaGreatDoorG42
import Derived.Test.YtpejdgiccaijfaaGreatDoorG41
set_option maxRecDepth 100000
namespace Go.Proofs.YtpejdgiccaijfaaGreatDoor
open Go Go.RowKit Tryz
theorem Ve(n:CaN):Inv15 n (attS n) (fun _=>zB) 3:=by
 have b:=zbq n;have h:(attS n).ps=List.replicate n.bl (-1,false):=by rw[uj];rfl
 have j:∀a,plc (attS n).ps a=(-1,false):=fun a=>by
  rw[h,plc,qyg,qyo];split<;>rfl
 refine⟨b.fit,b.tie,ES n,?_,?_,by rw[h];exact qze,fun a k _=>?_,fun a k p=>absurd (j a) p⟩
 .rw [uj];show(flushF _ _).length=_;rw[zI];exact(WA n _ _).trans qze
 .rw [uj];exact qze
 .rw [uj];show curB (List.replicate n.bl zB) [] a=zB;show(List.replicate n.bl zB).getD a zB=zB;rw[qyg,qyo];split<;>rfl
theorem Ac{cd m:Int}{a1 a2:Option Addr}{k c1 c2:Nat}(w:World):Calls prog 12 #[.agg #[.int .i64 cd,.int .i64 m,.slice a1 k c1],.agg #[.int .i64 cd,.int .i64 m,.slice a2 k c2]] w fun e a=>e=.returned (.bool true)/\Below w.heap.size w a:=by
 go_enter func12,ntmps12
 go_wp2
 go_ret
 exact⟨rfl,((qxl _ w).alloc (qXp _) _).alloc oe _⟩
section
variable{base:Nat}{w W W':World}{n:CaN}{rA vA rB vB:Nat}{qA qB:VoP}{ownA ownB ownA' ownB':Nat->Nat}{PA PB:Nat->Prop}{S S':View}{N N':Nat}
def TkSt(w:World)(base:Nat)(n:CaN)(rA vA:Nat)(qA:VoP)(rB vB:Nat)(qB:VoP)(N:Nat)(W:World):Prop:=
 ∃ownA PA ownB PB S,TwoR base n rA vA qA ownA PA S N rB vB qB ownB PB S N W/\Below w.heap.size w W/\w.heap.size<=base/\∀i,(S.v i).length=64
theorem TwoR.below(a:TwoR base n rA vA qA ownA PA S N rB vB qB ownB PB S' N' W)(d:DidR rA vA ownA ownA' W W')(b:Below w.heap.size w W)(h:w.heap.size<=base):Below w.heap.size w W':=
 zj b d.upd (qXp _) (fun j k=>qXr h (a.la j (a.mine k)).1)
end
end Go.Proofs.YtpejdgiccaijfaaGreatDoor
