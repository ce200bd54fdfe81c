/- A cache: what its blocks are; its devices' cal -/
import Derived.Test.YtfhfbpmlnjdfoaaGreatDoorG32
namespace Go.Proofs.YtfhfbpmlnjdfoaaGreatDoor
open Go Go.RowKit Tryz
def Pl(P:List Int):Prop:=∀x∈P,x=0\/x=1
theorem Pl.tail{P:List Int}(h:Pl P):Pl P.tail:=fun x hx=>h x (List.mem_of_mem_tail hx)
theorem Pl.fate{P:List Int}(h:Pl P):fate P=0\/fate P=1:=by
 cases P with
 |nil=>exact .inl rfl
 |cons x P=>exact h x (by simp)
theorem ti(F:List Bk)(O:List (Nat×Bk))(t:Nat)(y:Bk)(s:Nat):curB F (O++[(t,y)]) s=if t=s/\t<F.length then y else curB F O s:=by
 have e:flushF F (O++[(t,y)])=(flushF F O).set t y:=by simp[flushF]
 unfold curB;rw[e,yh,zC]
structure Kp(b:Nat)(F:List Bk)(O:List (Nat×Bk))(P:List Int)(r:DRes):Prop where
 len:r.F.length=F.length
 cur:∀s,b<=s->curB r.F r.O s=curB F O s
 pl:Pl P->Pl r.P
 no:P=[]->r.P=[]
theorem Kp.trans{b:Nat}{F:List Bk}{O:List (Nat×Bk)}{P:List Int}{r q:DRes}(h1:Kp b F O P r)(h2:Kp b r.F r.O r.P q):Kp b F O P q:=
 ⟨h2.len.trans h1.len,fun s hs=>(h2.cur s hs).trans (h1.cur s hs),fun h=>h2.pl (h1.pl h),fun h=>h2.no (h1.no h)⟩
theorem tj(b:Nat)(F:List Bk)(O:List (Nat×Bk))(P:List Int):Kp b F O P (flushR F O P):=by
 unfold flushR;split
 .exact ⟨rfl,fun _ _=>rfl,Pl.tail,fun h=>by rw[h];rfl⟩
 split
 .exact ⟨zC _ _,fun _ _=>rfl,Pl.tail,fun h=>by rw[h];rfl⟩
 .exact ⟨rfl,fun _ _=>rfl,Pl.tail,fun h=>by rw[h];rfl⟩
theorem Tt(b:Nat)(F:List Bk)(O:List (Nat×Bk))(P:List Int)(t:Nat)(y:Bk)(ht:t<b):Kp b F O P (writeR F O P t y):=by
 unfold writeR;split
 .exact ⟨rfl,fun _ _=>rfl,Pl.tail,fun h=>by rw[h];rfl⟩
 split
 .exact ⟨rfl,fun s hs=>by rw[ti,if_neg (by omega)],Pl.tail,fun h=>by rw[h];rfl⟩
 .exact ⟨rfl,fun _ _=>rfl,Pl.tail,fun h=>by rw[h];rfl⟩
theorem WP(F:List Bk)(O:List (Nat×Bk)):flushR F O []=⟨flushF F O,[],[],0⟩:=rfl
theorem WQ(F:List Bk)(O:List (Nat×Bk))(t:Nat)(y:Bk):writeR F O [] t y=⟨F,O++[(t,y)],[],0⟩:=rfl
theorem Eg(b:Nat)(F:List Bk)(L:List (Nat×Bk)):∀O P,(∀q∈L,q.1<b)->Kp b F O P (wrsR F L O P):=by
 induction L with
 |nil=>intro O P _;exact⟨rfl,fun _ _=>rfl,fun h=>h,fun h=>h⟩
 |cons x L ih=>
  intro O P hL;have h1:=Tt b F O P x.1 x.2 (hL x (by simp));have hF:=yu F O P x.1 x.2;simp only[wrsR];split
  .have h2:=ih (writeR F O P x.1 x.2).O (writeR F O P x.1 x.2).P (fun q hq=>hL q (by simp[hq]));exact Kp.trans h1 (by rw[hF];exact h2)
  .exact h1
theorem RU(F:List Bk)(L:List (Nat×Bk)):∀O,(wrsR F L O []).cd=0/\(wrsR F L O []).P=[]:=by
 induction L with
 |nil=>intro O;exact⟨rfl,rfl⟩
 |cons x L ih=>intro O;rw[wrsR_yes rfl];exact ih _
theorem RV(b:Nat)(F:List Bk)(O:List (Nat×Bk))(P:List Int)(L:List (Nat×Bk))(hL:∀q∈L,q.1<b):Kp b F O P (saveR F O P L):=by
 have h1:=Eg b F L O P hL;have hF:=uS F L O P;unfold saveR;split
 .exact Kp.trans h1 (by rw[hF];exact tj b F _ _)
 .exact h1
theorem Tu(F:List Bk)(O:List (Nat×Bk))(L:List (Nat×Bk)):(saveR F O [] L).cd=0:=by
 obtain⟨h1,h2⟩:=RU F L O;unfold saveR;rw[if_pos h1,h2];rfl
structure CaS.Same(n:CaN)(x y:CaS):Prop where
 dl:y.dF.length=x.dF.length
 bl:y.bF.length=x.bF.length
 d:∀s,n.jq<=s->curB y.dF y.dO s=curB x.dF x.dO s
 b:∀s,curB y.bF y.bO s=curB x.bF x.bO s
 ps:y.ps=x.ps
 sums:y.sums=x.sums
 pd:Pl x.dP->Pl y.dP
 pb:Pl x.bP->Pl y.bP
 nd:x.dP=[]->y.dP=[]
 nb:x.bP=[]->y.bP=[]
section
variable{n:CaN}{a b c:CaS}
theorem CaS.Same.refl(n:CaN)(a:CaS):CaS.Same n a a:=⟨rfl,rfl,fun _ _=>rfl,fun _=>rfl,rfl,rfl,fun h=>h,fun h=>h,fun h=>h,fun h=>h⟩
theorem CaS.Same.trans(h:CaS.Same n a b)(g:CaS.Same n b c):CaS.Same n a c:=
 ⟨g.dl.trans h.dl,g.bl.trans h.bl,fun s hs=>(g.d s hs).trans (h.d s hs),fun s=>(g.b s).trans (h.b s),g.ps.trans h.ps,g.sums.trans h.sums,fun x=>g.pd (h.pd x),fun x=>g.pb (h.pb x),fun x=>g.nd (h.nd x),fun x=>g.nb (h.nb x)⟩
theorem CaS.Same.onD{r:DRes}(h:Kp n.jq a.dF a.dO a.dP r):CaS.Same n a (a.dev r):={CaS.Same.refl n a with dl:=h.len,d:=h.cur,pd:=h.pl,nd:=h.no}
theorem CaS.Same.onB{r:DRes}(h:Kp 0 a.bF a.bO a.bP r):CaS.Same n a (a.jy r):={CaS.Same.refl n a with bl:=h.len,b:=fun s=>h.cur s (qYf _),pb:=h.pl,nb:=h.no}
theorem CaS.same_fb(n:CaN)(a:CaS):CaS.Same n a a.fb:=CaS.Same.onB (tj 0 _ _ _)
theorem CaS.same_fd(n:CaN)(a:CaS):CaS.Same n a a.fd:=CaS.Same.onD (tj _ _ _ _)
theorem CaS.svR_kp(n:CaN)(a:CaS):Kp n.jq a.dF a.dO a.dP (a.svR n):=by
 refine RV _ _ _ _ _ fun q hq=>?_;obtain⟨i,hi,rfl⟩:=qzv.1 hq;have hi:=qzx.1 hi;show 1+(1-a.which)*n.pa+i<n.jq;have:(1-a.which)*n.pa<=1*n.pa:=qYb _ (by omega);unfold CaN.jq;omega
theorem CaS.same_sv(n:CaN)(a:CaS):CaS.Same n a (a.dev (a.svR n)):=CaS.Same.onD (a.svR_kp n)
theorem CaS.same_ckpt(n:CaN)(a:CaS):CaS.Same n a (a.ckpt n).1:=by
 have h1:=a.same_fb n;have h2:=h1.trans (a.fb.same_fd n);have h3:=h2.trans (a.fb.fd.same_sv n);unfold CaS.ckpt;split
 .exact h1
 split
 .exact h2
 split
 .exact h3
 .exact {h3 with}
def CaS.NoP(a:CaS):Prop:=a.dP=[]/\a.bP=[]
theorem CaS.NoP.ckpt(h:a.NoP):(a.ckpt n).2=0:=by
 have e1:(flushR a.bF a.bO a.bP).cd=0:=by rw[h.2];rfl
 have e2:(flushR a.fb.dF a.fb.dO a.fb.dP).cd=0:=by show(flushR a.dF a.dO a.dP).cd=0;rw[h.1];rfl
 have e3:(a.fb.fd.svR n).cd=0:=by
  have hP:a.fb.fd.dP=[]:=by show(flushR a.dF a.dO a.dP).P=[];rw[h.1];rfl
  unfold CaS.svR;rw[hP];exact Tu _ _ _
 unfold CaS.ckpt;rw[if_neg (fun x=>x e1),if_neg (fun x=>x e2),if_neg (fun x=>x e3)]
theorem CaS.same_roomed(n:CaN)(a:CaS):CaS.Same n a (a.je n).1:=by
 unfold CaS.je;split
 .exact CaS.Same.refl n a
 .exact a.same_ckpt n
end
section
variable{n:CaN}{a b:CaS}{v:Nat->Bk}{N:Nat}
def CaS.jv(n:CaN)(a:CaS)(k:Int):CaS×Int:=
 if getC a.ps k≠0 then(a,getC a.ps k)
 else if(a.je n).2≠0 then((a.je n).1,(a.je n).2)
 else({(a.je n).1.noted n 0 k (getV a.ps k).1 false ((a.sums k).getD 0)with ps:=cleanL a.ps k},0)
theorem CaS.Fit.noted(h:a.Fit N)(h1:1<=a.next)(op block slot:Int)(d:Bool)(sum:Int)(ps:List (Int×Bool)):CaS.Fit {a.noted n op block slot d sum with ps:=ps} (N+1):=
 {h.mono (qXw N)with
  nx:=by have:=h.nx;show a.next+1<=N+1;omega
  w1:=fun q hq=>by
   rcases qzq.1 hq with hq|hq
   .exact h.w1 q hq
   .simp at hq;subst hq;exact h1}
theorem CaS.Fit.jv(h:a.Fit N)(h1:1<=a.next)(k:Int):(a.jv n k).1.Fit (N+n.pa+1):=by
 have hr:=h.je (n:=n);have hn:=(a.jf n).1;unfold CaS.jv;split
 .exact h.mono (by omega)
 split
 .exact hr.mono (by omega)
 .exact hr.noted (by omega) _ _ _ _ _ _
theorem CaS.Tie.jv{o:Option Nat}(h:a.Tie n o)(k:Int):(a.jv n k).1.Tie n o:=by
 have hr:=CaS.Tie.je h;have hn:=(a.jf n).2;unfold CaS.jv;split
 .exact h
 split
 .exact hr
 .have:=TieL.clean hr k;rw[hn]at this;exact this
end
end Go.Proofs.YtfhfbpmlnjdfoaaGreatDoor
