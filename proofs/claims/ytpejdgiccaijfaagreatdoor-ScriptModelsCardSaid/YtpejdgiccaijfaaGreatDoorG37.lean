/- What Attach finds on a cache's device behind a -/
import Derived.Test.YtpejdgiccaijfaaGreatDoorG34
import Derived.Test.YtpejdgiccaijfaaGreatDoorG35
import Derived.Test.YtpejdgiccaijfaaGreatDoorG33
namespace Go.Proofs.YtpejdgiccaijfaaGreatDoor
open Go Go.RowKit Tryz
section
variable{n:CaN}{Z:Nat->Bk}{a:CaS}{E:Nat->List Ent}{R:Nat->List Int}{f0 com fp:Nat}{S:Nat->Prop}{w w':World}{b:Nat}{e:Ending}{F:List Bk}{O:List (Nat×Bk)}
theorem Ac{M:List Ent}(hen:sa n M){c:Int}{L:List EI}{wh sq wh' sq':Nat}(hL0:∀L0,Lists (Sx M) L0->¬(L0.map EI.s).Nodup->False)
  (hx:(c=12/\L=[]/\(¬((M.map Ent.toI).map EI.b).Nodup\/∃L0,Lists (Sx M) L0/\¬(L0.map EI.s).Nodup))\/(c=0/\wh'=wh/\sq'=sq/\Lists (Sx M) L/\(L.map EI.s).Nodup/\L.Pairwise (fun x y=>x.b<y.b))):
  c=0/\wh'=wh/\sq'=sq/\L=M.map Ent.toI:=by
 have hmL:∀e,e∈M.map Ent.toI↔Sx M e.b=some e:=fun e=>by
  unfold Sx;rw[Uo hen.nd];exact⟨fun h=>⟨h,rfl⟩,fun h=>h.1⟩
 rcases hx with⟨-,-,hx|⟨L0,h1,h2⟩⟩|⟨h1,h2,h3,hL,-,hst⟩
 .exact absurd hen.nd hx
 .exact (hL0 L0 h1 h2).elim
 .exact ⟨h1,h2,h3,Up EI.b hst (qXa.2 (hen.2.2.imp fun h=>by show(_:Int)<_;simp only[Ent.toI];omega)) (fun x=>(hL.2 x).trans (hmL x).symm)⟩
theorem SL{M:List Ent}(hen:sa n M)(L0:List EI)(hL0:Lists (Sx M) L0):(L0.map EI.s).Nodup:=by
 have hmL:∀e,Sx M e.b=some e->e∈M.map Ent.toI:=fun e h=>by
  unfold Sx at h;exact((Uo hen.nd).1 h).1
 refine qXa.2 ((qXa.1 hL0.1).imp_of_mem fun{x y} hx hy hb hs=>hb ?_);obtain⟨x',hx',rfl⟩:=qzq.1 (hmL x ((hL0.2 x).1 hx));obtain⟨y',hy',rfl⟩:=qzq.1 (hmL y ((hL0.2 y).1 hy));have hs:(x'.s:Int)=(y'.s:Int):=hs;rw[vL hen.2.1 hx' hy' oM]
end
def n21:CaN:=smN 9 2 8
def tr:Bk:=yl 2 5
def x210:CaS:=SK n21
def x211:CaS:=(x210.kq n21 2 tr 0).1
def x212:CaS:=((caS0 n21 1 (1+1) x211.dF [] [] x211.bF [] []).ckpt n21).1
def zda:CaS:=(x212.kq n21 2 tr 0).1
def x214:CaS:=(zda.jX n21).1
def e21:Ent:=⟨2,0,true,3629795150⟩
def x215:CaS:=((newS n21 0 3 x214.dF [] x214.bF [] [e21]).ckpt n21).1
theorem zdc:n21.Ok:=SG 9 2 8 oM oM oM oM oM oM
theorem Yi:(x210.kq n21 2 tr 0).2=0/\(x212.kq n21 2 tr 0).2=0/\(zda.jX n21).2=0:=⟨kR,kR,kR⟩
theorem Yj:(x211.j7 n21 2).2=(tr,0)/\(x212.j7 n21 2).2=(zB,0)/\(x215.j7 n21 2).2=(tr,0):=⟨kR,kR,kR⟩
theorem zdd{F:List Bk}(h0:F.getD 11 zB=zB)(h1:F.getD 12 zB=zB)(h2:F.getD 13 zB=zB)(h3:F.getD 14 zB=zB)(h4:F.getD 15 zB=zB)(h5:F.getD 16 zB=zB):
  ∀j,j<n21.lo+n21.lo+n21.lo->curB F [] (1+2*n21.pa+n21.jo+j)=zB:=fun j hj=>by
 have hj:j<6:=hj;rcases(show j=0\/j=1\/j=2\/j=3\/j=4\/j=5 by omega)with rfl|rfl|rfl|rfl|rfl|rfl
 .exact h0
 .exact h1
 .exact h2
 .exact h3
 .exact h4
 .exact h5
theorem zde:Emp n21 x211.dF [] 1 1:=
 ⟨zdc,kR,kR,kR,kR,kR,oM,oM,zdd kR kR kR kR kR kR,qXy _⟩
theorem zbk:sa n21 [e21]:=⟨fun x hx=>by simp at hx;subst hx;exact⟨de,de,de⟩,oe,oe⟩
theorem zdf:Tel n21 x214.dF [] (fun L wh sq=>L=[e21]/\wh=0/\sq=3):=by
 have hnw:nwS x214.dF [] 1 n21.pa 2=(true,0,2,[]):=kR;have hjs:scanTo x214.dF [] (1+2*n21.pa) n21.jo n21.jo=[[3,0,0,2,0,1,3629795150]]:=kR;have hrp:repS [[3,0,0,2,0,1,3629795150]] 2=⟨[[3,0,0,2,0,1,3629795150]],3,3⟩:=kR;have hap:apRs (apM (([]:List Ent).map Ent.toI)) (([[3,0,0,2,0,1,3629795150]]:List (List Nat)).map natsI)=Sx [e21]:=by
  funext s
  show(if s=2 then some (⟨2,0,true,3629795150⟩:EI)else none)=if s=2 then some (⟨2,0,true,3629795150⟩:EI)else none
  rfl
 refine⟨zdc,kR,kR,kR,zdd kR kR kR kR kR kR,qXy _,fun he=>?_,fun hq=>?_⟩
 .obtain ⟨v,L,wh',sq',c,rfl,hsl,hfr,hd,hu,h⟩:=he;rw[hnw,hjs]at h;rcases h with⟨-,-,h⟩|⟨-,R,hp,-,r,hr,h⟩
  .cases h
  .obtain rfl:=List.perm_singleton.1 hp;dsimp only at hr h;rw[hrp]at hr;subst hr;rw[hap]at h;obtain⟨hc,hw,hs,hL⟩:=Ac zbk (wh:=0) (sq:=3) (wh':=wh') (sq':=sq') (fun L0 h1 h2=>h2 (SL zbk L0 h1)) (by
    rcases h with⟨h1,h2,h3|h3⟩|h
    .exact absurd qzx h3
    .exact .inl ⟨h1,h2,.inr h3⟩
    .exact .inr h)
   subst hc;subst hw;subst hs;subst hL;rw[qzb,XG]at hsl;exact⟨v,[e21],_,_,⟨rfl,rfl,rfl⟩,rfl,hsl,hfr,hd,hu⟩
 .obtain ⟨rfl,rfl,rfl⟩:=hq;exact⟨zbk,oM,oM⟩
end Go.Proofs.YtpejdgiccaijfaaGreatDoor
