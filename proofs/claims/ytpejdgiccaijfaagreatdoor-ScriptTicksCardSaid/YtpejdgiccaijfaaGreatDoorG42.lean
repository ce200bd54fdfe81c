/- Two runs in one memory. -/
import Derived.Test.YtpejdgiccaijfaaGreatDoorG40
import Derived.Test.YtpejdgiccaijfaaGreatDoorG38
namespace Go.Proofs.YtpejdgiccaijfaaGreatDoor
open Go Go.RowKit Tryz
structure Ap(r v:Nat)(q:VoP)(own:Nat->Nat)(P:Nat->Prop):Prop where
 o:∀j,own j≠0->P j
 r:P r
 v:P v
 l:P q.lb
 m:P q.mb
section
variable{own own' ownB:Nat->Nat}{w w' W W':World}{r v rB vB base N N' NB:Nat}{q qB:VoP}{n:CaN}{p:CaP}{a a':CaS}{md md':Int}{cl cl':Bool}{S S' SB:View}{P PB T:Nat->Prop}
theorem RunAt.beside(b:RunAt own W r v q n p a md cl)(h:Ap r v q own P)(hu:Upd T W W')(j:∀k,T k->¬P k)(A:¬T 0/\¬T 1):RunAt own W' r v q n p a md cl:=
 ⟨⟨b.vo.ca.ky hu (fun k s=>⟨Classical.byContradiction fun e=>j k s (h.o k e),fun e=>A.1 (e▸s),fun e=>A.2 (e▸s)⟩),(hu.block v (zd b.vo.g) (fun e=>j _ e h.v)).trans b.vo.g,
  b.vo.lk.keep hu (fun e=>j _ e h.l) (fun e=>j _ e h.m),b.vo.o1,b.vo.o2,b.vo.o3⟩,(hu.block r (zd b.g) (fun e=>j _ e h.r)).trans b.g,b.o⟩
structure TwoR(base:Nat)(n:CaN)(r v:Nat)(q:VoP)(own:Nat->Nat)(P:Nat->Prop)(S:View)(N:Nat)(rB vB:Nat)(qB:VoP)(ownB:Nat->Nat)(PB:Nat->Prop)(SB:View)(NB:Nat)(W:World):Prop where
 a:xR own W r v q n S N
 b:xR ownB W rB vB qB n SB NB
 pa:Ap r v q own P
 pb:Ap rB vB qB ownB PB
 ap:∀j,P j->¬PB j
 la:∀j,P j->base<=j/\j<W.heap.size
 lb:∀j,PB j->base<=j/\j<W.heap.size
 gn:0<base/\1<base
theorem TwoR.swap(h:TwoR base n r v q own P S N rB vB qB ownB PB SB NB W):TwoR base n rB vB qB ownB PB SB NB r v q own P S N W:=⟨h.b,h.a,h.pb,h.pa,fun j k s=>h.ap j s k,h.lb,h.la,h.gn⟩
theorem TwoR.new(h:TwoR base n r v q own P S N rB vB qB ownB PB SB NB W)(hu:Upd (fun _=>False) W W'):TwoR base n r v q own P S N rB vB qB ownB PB SB NB W':=
 ⟨h.a.new hu,h.b.new hu,h.pa,h.pb,h.ap,fun j k=>⟨(h.la j k).1,qXs (h.la j k).2 hu.size⟩,fun j k=>⟨(h.lb j k).1,qXs (h.lb j k).2 hu.size⟩,h.gn⟩
theorem TwoR.mine(b:TwoR base n r v q own P S N rB vB qB ownB PB SB NB W){j:Nat}(h:own j≠0/\own j<16\/j=r\/j=v):P j:=by
 rcases h with h|rfl|rfl
 .exact b.pa.o j h.1
 .exact b.pa.r
 .exact b.pa.v
def GrP(P:Nat->Prop)(own':Nat->Nat)(W:World)(j:Nat):Prop:=P j\/W.heap.size<=j/\own' j≠0
theorem TwoR.step(h:TwoR base n r v q own P S N rB vB qB ownB PB SB NB W)(A:xR own' W' r v q n S' N')(d:DidR r v own own' W W'):TwoR base n r v q own' (GrP P own' W) S' N' rB vB qB ownB PB SB NB W':=by
 have D:=h.b;obtain⟨E,F,G,H⟩:=D;have M:base<=W.heap.size:=by have:=h.la _ h.pa.r;omega
 refine⟨A,⟨E,F,G.beside h.pb d.upd (fun k j s=>h.ap k (h.mine j) s) ⟨fun e=>?_,fun e=>?_⟩,H⟩,⟨fun k j=>?_,.inl h.pa.r,.inl h.pa.v,.inl h.pa.l,.inl h.pa.m⟩,h.pb,fun k j s=>?_,fun k j=>?_,fun k j=>⟨(h.lb k j).1,qXs (h.lb k j).2 d.upd.size⟩,h.gn⟩
 .have:=(h.la _ (h.mine e)).1;have:=h.gn.1;omega
 .have:=(h.la _ (h.mine e)).1;have:=h.gn.2;omega
 .by_cases J:k<W.heap.size
  .exact .inl (h.pa.o k (by rw[<-d.old k J];exact j))
  .exact .inr ⟨oM,j⟩
 .rcases j with j|j
  .exact h.ap k j s
  .have:=(h.lb k s).2;omega
 .rcases j with j|j
  .exact ⟨(h.la k j).1,qXs (h.la k j).2 d.upd.size⟩
  .exact ⟨oM,Nat.lt_of_not_le fun L=>j.2 (d.far k L)⟩
theorem TwoR.free(h:TwoR base n r v q own P S N rB vB qB ownB PB SB NB W)(d:DidR r v own own' W W'){b:Nat}(j:¬P b)(k:b<W.heap.size):W'.heap[b]?=W.heap[b]?/\¬GrP P own' W b/\b<W'.heap.size:=
 ⟨d.upd.block b k (fun e=>j (h.mine e)),fun e=>e.elim j (fun e=>oM),qXs k d.upd.size⟩
theorem TwoR.freeR(h:TwoR base n r v q own P S N rB vB qB ownB PB SB NB W)(d:DidR r v own own' W W'){u:Value}{L:List Bk}(j:Sl W 60 64 u L.length (rowC L))(k:∀g,u.ownBlock=some g->¬P g):
  Sl W' 60 64 u L.length (rowC L)/\∀g,u.ownBlock=some g->¬GrP P own' W g:=
 ⟨j.keep d.upd (fun g b e=>k g b (h.mine e)),fun g b=>(h.free d (k g b) (j.lt b)).2.1⟩
end
theorem Xj{v:Nat->Bk}(h:∀b,(v b).length=64){f:Int}{xs:List Bk}(hx:All64 xs):∀m b,(qO v f xs m b).length=64
 |0,b=>h b
 |m+1,b=>by
  show(updV _ _ _ b).length=64;unfold updV;split
  .by_cases j:m<xs.length
   .rw [qyg,qyk j];exact hx _ (qyv j)
   .rw [qyg,qyl oM];exact zH
  .exact Xj h hx m b
theorem zdL{n:CaN}{S:View}(h:∀k,(S.v k).length=64)(d fr m fi:Int):∀k,((doS n S d fr m fi).v k).length=64:=by
 unfold doS;intro k;split
 .exact h k
 .split
  .exact Xj h (WX _ _ _) _ k
  .split
   .exact Xj h (fun x hx=>by cases hx) _ k
   .split
    .exact h k
    .split
     .exact h k
     .exact h k
theorem zdM{n:CaN}{S:View}(h:∀k,(S.v k).length=64)(d fr m:Int):All64 (doL n S d fr m):=by
 unfold doL;split
 .intro x hx;obtain⟨k,-,rfl⟩:=qzr.1 hx;exact h _
 .intro x hx;cases hx
end Go.Proofs.YtpejdgiccaijfaaGreatDoor
