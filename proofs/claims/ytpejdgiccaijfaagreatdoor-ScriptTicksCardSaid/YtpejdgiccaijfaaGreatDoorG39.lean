/- What Attach finds on a cache's device behind a -/
import Derived.Test.YtpejdgiccaijfaaGreatDoorG34
import Derived.Test.YtpejdgiccaijfaaGreatDoorG35
namespace Go.Proofs.YtpejdgiccaijfaaGreatDoor
open Go Go.RowKit Tryz
section
variable{n:CaN}{Z:Nat->Bk}{a:CaS}{E:Nat->List Ent}{R:Nat->List Int}{f0 com fp:Nat}{S:Nat->Prop}{w w':World}{b:Nat}{e:Ending}{F:List Bk}{O:List (Nat×Bk)}
theorem zbt{M:List Ent}(k:Zo n M){c:Int}{L:List EI}{wh sq wh' sq':Nat}(p:∀h,Lists (EJ M) h->¬(h.map EI.s).Nodup->False)
  (hx:(c=12/\L=[]/\(¬((M.map Ent.toI).map EI.b).Nodup\/∃h,Lists (EJ M) h/\¬(h.map EI.s).Nodup))\/(c=0/\wh'=wh/\sq'=sq/\Lists (EJ M) L/\(L.map EI.s).Nodup/\L.Pairwise (fun x y=>x.b<y.b))):
  c=0/\wh'=wh/\sq'=sq/\L=M.map Ent.toI:=by
 have q:∀e,e∈M.map Ent.toI↔EJ M e.b=some e:=fun e=>by
  unfold EJ;rw[TN k.nd];exact⟨fun j=>⟨j,rfl⟩,fun j=>j.1⟩
 rcases hx with⟨-,-,hx|⟨h,h1,h2⟩⟩|⟨h1,h2,v,A,-,D⟩
 .exact absurd k.nd hx
 .exact (p h h1 h2).elim
 .exact ⟨h1,h2,v,TO EI.b D (qXb.2 (k.2.2.imp fun j=>by show(_:Int)<_;simp only[Ent.toI];omega)) (fun x=>(A.2 x).trans (q x).symm)⟩
theorem ET{M:List Ent}(k:Zo n M)(p:List EI)(j:Lists (EJ M) p):(p.map EI.s).Nodup:=by
 have q:∀e,EJ M e.b=some e->e∈M.map Ent.toI:=fun e h=>by
  unfold EJ at h;exact((TN k.nd).1 h).1
 refine qXb.2 ((qXb.1 j.1).imp_of_mem fun{x y} hx hy A v=>A ?_);obtain⟨D,G,rfl⟩:=qzr.1 (q x ((j.2 x).1 hx));obtain⟨H,J,rfl⟩:=qzr.1 (q y ((j.2 y).1 hy));have v:(D.s:Int)=(H.s:Int):=v;rw[uw k.2.1 G J oM]
end
def n21:CaN:=smN 9 2 8
def uK:Bk:=xz 2 5
def x210:CaS:=attS n21
def x211:CaS:=(x210.kG n21 2 uK 0).1
def x212:CaS:=((caS0 n21 1 (1+1) x211.dF [] [] x211.bF [] []).ckpt n21).1
def zfD:CaS:=(x212.kG n21 2 uK 0).1
def x214:CaS:=(zfD.j9 n21).1
def e21:Ent:=⟨2,0,true,3629795150⟩
def x215:CaS:=((newS n21 0 3 x214.dF [] x214.bF [] [e21]).ckpt n21).1
theorem zfF:n21.Ok:=ED 9 2 8 oM oM oM oM oM oM
theorem Xg:(x210.kG n21 2 uK 0).2=0/\(x212.kG n21 2 uK 0).2=0/\(zfD.j9 n21).2=0:=⟨kR,kR,kR⟩
theorem Xh:(x211.kw n21 2).2=(uK,0)/\(x212.kw n21 2).2=(zB,0)/\(x215.kw n21 2).2=(uK,0):=⟨kR,kR,kR⟩
theorem zfG{F:List Bk}(k:F.getD 11 zB=zB)(h1:F.getD 12 zB=zB)(h2:F.getD 13 zB=zB)(p:F.getD 14 zB=zB)(q:F.getD 15 zB=zB)(s:F.getD 16 zB=zB):
  ∀h,h<n21.lo+n21.lo+n21.lo->curB F [] (1+2*n21.pa+n21.jo+h)=zB:=fun h j=>by
 have j:h<6:=j;rcases(show h=0\/h=1\/h=2\/h=3\/h=4\/h=5 by omega)with rfl|rfl|rfl|rfl|rfl|rfl
 .exact k
 .exact h1
 .exact h2
 .exact p
 .exact q
 .exact s
theorem zfH:Emp n21 x211.dF [] 1 1:=
 ⟨zfF,kR,kR,kR,kR,kR,oM,oM,zfG kR kR kR kR kR kR,qXz _⟩
theorem zdJ:Zo n21 [e21]:=⟨fun x hx=>by simp at hx;subst hx;exact⟨de,de,de⟩,oe,oe⟩
theorem zfI:Tel n21 x214.dF [] (fun p wh s=>p=[e21]/\wh=0/\s=3):=by
 have v:nwS x214.dF [] 1 n21.pa 2=(true,0,2,[]):=kR;have A:scanTo x214.dF [] (1+2*n21.pa) n21.jo n21.jo=[[3,0,0,2,0,1,3629795150]]:=kR;have D:repS [[3,0,0,2,0,1,3629795150]] 2=⟨[[3,0,0,2,0,1,3629795150]],3,3⟩:=kR;have G:apRs (apM (([]:List Ent).map Ent.toI)) (([[3,0,0,2,0,1,3629795150]]:List (List Nat)).map natsI)=EJ [e21]:=by
  funext q
  show(if q=2 then some (⟨2,0,true,3629795150⟩:EI)else none)=if q=2 then some (⟨2,0,true,3629795150⟩:EI)else none
  rfl
 refine⟨zfF,kR,kR,kR,zfG kR kR kR kR kR kR,qXz _,fun H=>?_,fun J=>?_⟩
 .obtain ⟨L,p,M,N,c,rfl,hsl,Q,T,U,h⟩:=H;rw[v,A]at h;rcases h with⟨-,-,h⟩|⟨-,R,V,-,r,j,h⟩
  .cases h
  .obtain rfl:=List.perm_singleton.1 V;dsimp only at j h;rw[D]at j;subst j;rw[G]at h;obtain⟨W,X,Y,a6⟩:=zbt zdJ (wh:=0) (sq:=3) (wh':=M) (sq':=N) (fun a7 h1 h2=>h2 (ET zdJ a7 h1)) (by
    rcases h with⟨h1,h2,k|k⟩|h
    .exact absurd qzy k
    .exact .inl ⟨h1,h2,.inr k⟩
    .exact .inr h)
   subst W;subst X;subst Y;subst a6;rw[qzc,WG]at hsl;exact⟨L,[e21],_,_,⟨rfl,rfl,rfl⟩,rfl,hsl,Q,T,U⟩
 .obtain ⟨rfl,rfl,rfl⟩:=J;exact⟨zdJ,oM,oM⟩
end Go.Proofs.YtpejdgiccaijfaaGreatDoor
