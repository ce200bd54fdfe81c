/- A cache: what its blocks are; its devices' cal -/
import Derived.Test.YtfhfbpmlnjdfoaaGreatDoorG27
namespace Go.Proofs.YtfhfbpmlnjdfoaaGreatDoor
open Go Go.RowKit
def Pl(P:List Int):Prop:=∀x∈P,x=0\/x=1
theorem Pl.tail{P:List Int}(h:Pl P):Pl P.tail:=fun x hx=>h x (List.mem_of_mem_tail hx)
theorem Pl.fate{P:List Int}(h:Pl P):fate P=0\/fate P=1:=by
 cases P with
 |nil=>exact .inl rfl
 |cons x P=>exact h x (by simp)
theorem uK(F:List Bk)(O:List (Nat×Bk))(t:Nat)(y:Bk)(s:Nat):curB F (O++[(t,y)]) s=if t=s/\t<F.length then y else curB F O s:=by
 have e:flushF F (O++[(t,y)])=(flushF F O).set t y:=by simp[flushF]
 unfold curB;rw[e,yh,zH]
structure Kp(b:Nat)(F:List Bk)(O:List (Nat×Bk))(P:List Int)(r:DRes):Prop where
 len:r.F.length=F.length
 cur:∀s,b<=s->curB r.F r.O s=curB F O s
 pl:Pl P->Pl r.P
 no:P=[]->r.P=[]
theorem Kp.trans{b:Nat}{F:List Bk}{O:List (Nat×Bk)}{P:List Int}{r q:DRes}(h1:Kp b F O P r)(h2:Kp b r.F r.O r.P q):Kp b F O P q:=
 ⟨h2.len.trans h1.len,fun s hs=>(h2.cur s hs).trans (h1.cur s hs),fun h=>h2.pl (h1.pl h),fun h=>h2.no (h1.no h)⟩
theorem uL(b:Nat)(F:List Bk)(O:List (Nat×Bk))(P:List Int):Kp b F O P (flushR F O P):=by
 unfold flushR;split
 .exact ⟨rfl,fun _ _=>rfl,Pl.tail,fun h=>by rw[h];rfl⟩
 split
 .exact ⟨zH _ _,fun _ _=>rfl,Pl.tail,fun h=>by rw[h];rfl⟩
 .exact ⟨rfl,fun _ _=>rfl,Pl.tail,fun h=>by rw[h];rfl⟩
theorem Ud(b:Nat)(F:List Bk)(O:List (Nat×Bk))(P:List Int)(t:Nat)(y:Bk)(ht:t<b):Kp b F O P (writeR F O P t y):=by
 unfold writeR;split
 .exact ⟨rfl,fun _ _=>rfl,Pl.tail,fun h=>by rw[h];rfl⟩
 split
 .exact ⟨rfl,fun s hs=>by rw[uK,if_neg (by omega)],Pl.tail,fun h=>by rw[h];rfl⟩
 .exact ⟨rfl,fun _ _=>rfl,Pl.tail,fun h=>by rw[h];rfl⟩
theorem vA(F:List Bk)(O:List (Nat×Bk)):flushR F O []=⟨flushF F O,[],[],0⟩:=rfl
theorem XD(F:List Bk)(O:List (Nat×Bk))(t:Nat)(y:Bk):writeR F O [] t y=⟨F,O++[(t,y)],[],0⟩:=rfl
theorem Sw(b:Nat)(F:List Bk)(L:List (Nat×Bk)):∀O P,(∀q∈L,q.1<b)->Kp b F O P (wrsR F L O P):=by
 induction L with
 |nil=>intro O P _;exact⟨rfl,fun _ _=>rfl,fun h=>h,fun h=>h⟩
 |cons x L ih=>
  intro O P hL;have h1:=Ud b F O P x.1 x.2 (hL x (by simp));have hF:=yu F O P x.1 x.2;simp only[wrsR];split
  .have h2:=ih (writeR F O P x.1 x.2).O (writeR F O P x.1 x.2).P (fun q hq=>hL q (by simp[hq]));exact Kp.trans h1 (by rw[hF];exact h2)
  .exact h1
theorem TX(b:Nat)(F:List Bk)(O:List (Nat×Bk))(P:List Int)(L:List (Nat×Bk))(hL:∀q∈L,q.1<b):Kp b F O P (saveR F O P L):=by
 have h1:=Sw b F L O P hL;have hF:=uH F L O P;unfold saveR;split
 .exact Kp.trans h1 (by rw[hF];exact uL b F _ _)
 .exact h1
theorem Yo(base n:Nat)(F:List Bk):∀(W O:List (Nat×Bk)),(comW base n F W O []).cd=0/\(comW base n F W O []).P=[]
 |[],O=>⟨rfl,rfl⟩
 |(s,y)::W,O=>by
  unfold comW;rw[if_pos (show(writeR F O [] (base+(s-1)%n) y).cd=0 from rfl)];exact Yo base n F W _
theorem Yp(base n:Nat)(F:List Bk)(O W:List (Nat×Bk)):(comR base n F O [] W).1.cd=0/\(comR base n F O [] W).1.O=[]/\(W=[]\/(comR base n F O [] W).2=[]):=by
 obtain⟨h1,h2⟩:=Yo base n (flushF F O) W [];unfold comR;rw[vA];dsimp only;by_cases hW:W=[]
 .rw [if_pos (.inr hW)];exact⟨rfl,rfl,.inl hW⟩
 .rw [if_neg (fun h=>h.elim (fun h=>h rfl) hW),if_neg (by rw[h1];exact fun h=>h rfl),h2,vA,if_neg (by exact fun h=>h rfl)];exact⟨rfl,rfl,.inr rfl⟩
structure CaS.Same(n:CaN)(x y:CaS):Prop where
 dl:y.dF.length=x.dF.length
 bl:y.bF.length=x.bF.length
 d:∀s,n.slot0<=s->curB y.dF y.dO s=curB x.dF x.dO s
 b:∀s,curB y.bF y.bO s=curB x.bF x.bO s
 ps:y.ps=x.ps
 sums:y.sums=x.sums
 pd:Pl x.dP->Pl y.dP
 pb:Pl x.bP->Pl y.bP
 nd:x.dP=[]->y.dP=[]
 nb:x.bP=[]->y.bP=[]
section
variable{n:CaN}{a b c:CaS}
theorem CaS.Same.refl(n:CaN)(a:CaS):CaS.Same n a a:=⟨rfl,rfl,fun _ _=>rfl,fun _=>rfl,rfl,rfl,fun h=>h,fun h=>h,fun h=>h,fun h=>h⟩
theorem CaS.Same.trans(h:CaS.Same n a b)(g:CaS.Same n b c):CaS.Same n a c:=
 ⟨g.dl.trans h.dl,g.bl.trans h.bl,fun s hs=>(g.d s hs).trans (h.d s hs),fun s=>(g.b s).trans (h.b s),g.ps.trans h.ps,g.sums.trans h.sums,fun x=>g.pd (h.pd x),fun x=>g.pb (h.pb x),fun x=>g.nd (h.nd x),fun x=>g.nb (h.nb x)⟩
theorem CaS.Same.onD{r:DRes}(h:Kp n.slot0 a.dF a.dO a.dP r):CaS.Same n a (a.dev r):={CaS.Same.refl n a with dl:=h.len,d:=h.cur,pd:=h.pl,nd:=h.no}
theorem CaS.Same.onB{r:DRes}(h:Kp 0 a.bF a.bO a.bP r):CaS.Same n a (a.bdev r):={CaS.Same.refl n a with bl:=h.len,b:=fun s=>h.cur s (qYf _),pb:=h.pl,nb:=h.no}
theorem CaS.same_fb(n:CaN)(a:CaS):CaS.Same n a a.fb:=CaS.Same.onB (uL 0 _ _ _)
theorem CaS.same_fd(n:CaN)(a:CaS):CaS.Same n a a.fd:=CaS.Same.onD (uL _ _ _ _)
theorem CaS.svR_kp(n:CaN)(a:CaS):Kp n.slot0 a.dF a.dO a.dP (a.svR n):=by
 refine TX _ _ _ _ _ fun q hq=>?_;obtain⟨i,hi,rfl⟩:=qzv.1 hq;have hi:=qzx.1 hi;show 1+(1-a.which)*n.pa+i<n.slot0;have:(1-a.which)*n.pa<=1*n.pa:=qYb _ (by omega);unfold CaN.slot0;omega
theorem CaS.same_sv(n:CaN)(a:CaS):CaS.Same n a (a.dev (a.svR n)):=CaS.Same.onD (a.svR_kp n)
theorem CaS.same_ckpt(n:CaN)(a:CaS):CaS.Same n a (a.ckpt n).1:=by
 have h1:=a.same_fb n;have h2:=h1.trans (a.fb.same_fd n);have h3:=h2.trans (a.fb.fd.same_sv n);unfold CaS.ckpt;split
 .exact h1
 split
 .exact h2
 split
 .exact h3
 .exact {h3 with}
def CaS.NoP(a:CaS):Prop:=a.dP=[]/\a.bP=[]
theorem CaS.same_roomed(n:CaN)(a:CaS):CaS.Same n a (a.roomed n).1:=by
 unfold CaS.roomed;split
 .exact CaS.Same.refl n a
 .exact a.same_ckpt n
theorem CaS.NoP.committed(h:a.NoP):(a.committed n).2=0/\(a.committed n).1.dO=[]/\(a.committed n).1.bO=[]/\(a.committed n).1.st=freeTo a.st (pos a.st 3):=by
 have e1:(flushR a.bF a.bO a.bP).cd=0:=by rw[h.2];rfl
 have e3:a.fb.bO=[]:=by show(flushR a.bF a.bO a.bP).O=[];rw[h.2];rfl
 have e2:=Yp (1+2*n.pa) n.jo a.dF a.dO a.W;have e4:a.fb.com n=comR (1+2*n.pa) n.jo a.dF a.dO [] a.W:=by show comR _ _ a.dF a.dO a.dP a.W=_;rw[h.1]
 rw[<-e4]at e2;unfold CaS.committed;rw[if_neg (fun x=>x e1),if_neg (fun x=>x e2.1)];exact⟨rfl,e2.2.1,e3,rfl⟩
end
section
variable{n:CaN}{a b:CaS}{v:Nat->Bk}{N:Nat}
def CaS.cleaned(n:CaN)(a:CaS)(k:Int):CaS×Int:=
 if getC a.ps k≠0 then(a,getC a.ps k)
 else if(a.roomed n).2≠0 then((a.roomed n).1,(a.roomed n).2)
 else({(a.roomed n).1.noted n 0 k (getV a.ps k).1 false ((a.sums k).getD 0)with ps:=cleanL a.ps k},0)
theorem CaS.Fit.noted(h:a.Fit N)(h1:1<=a.next)(op block slot:Int)(d:Bool)(sum:Int)(ps:List (Int×Bool)):CaS.Fit {a.noted n op block slot d sum with ps:=ps} (N+1):=
 {h.mono (qXw N)with
  nx:=by have:=h.nx;show a.next+1<=N+1;omega
  w1:=fun q hq=>by
   rcases qzq.1 hq with hq|hq
   .exact h.w1 q hq
   .simp at hq;subst hq;exact h1}
theorem CaS.Fit.cleaned(h:a.Fit N)(h1:1<=a.next)(k:Int):(a.cleaned n k).1.Fit (N+n.pa+1):=by
 have hr:=h.roomed (n:=n);have hn:=(a.roomed_next n).1;unfold CaS.cleaned;split
 .exact h.mono (by omega)
 split
 .exact hr.mono (by omega)
 .exact hr.noted (by omega) _ _ _ _ _ _
theorem CaS.Tie.cleaned{o:Option Nat}(h:a.Tie n o)(k:Int):(a.cleaned n k).1.Tie n o:=by
 have hr:=CaS.Tie.roomed h;have hn:=(a.roomed_next n).2;unfold CaS.cleaned;split
 .exact h
 split
 .exact hr
 .have:=TieL.clean hr k;rw[hn]at this;exact this
end
end Go.Proofs.YtfhfbpmlnjdfoaaGreatDoor
