/- What a cache's -/
import Derived.Test.YtfhfbpmlnjdfoaaGreatDoorG30
set_option maxRecDepth 100000
set_option maxHeartbeats 1000000
namespace Go.Proofs.YtfhfbpmlnjdfoaaGreatDoor
open Go Go.RowKit Tryz
section
section
variable{n:CaN}{a:CaS}
theorem St{k m:Nat}(h:k<=m):needN k<=needN m:=by unfold needN;omega
end
theorem tG{P:Nat->Bk->Prop}:∀(O:List (Nat×Bk)) (F:List Bk),(∀s,s<F.length->P s (F.getD s zB))->(∀q∈O,P q.1 q.2)->∀s,s<F.length->P s ((flushF F O).getD s zB)
 |[],_,hF,_=>hF
 |q::O,F,hF,hO=>fun s hs=>by
  have h1:∀s,s<(F.set q.1 q.2).length->P s ((F.set q.1 q.2).getD s zB):=fun s hs=>by
   rw[yh];split
   .next h=>rw[<-h.1];exact hO q qzt
   .exact hF s (by simpa using hs)
  exact tG O (F.set q.1 q.2) h1 (fun q hq=>hO q (qzs _ hq)) s (by simpa using hs)
theorem rW{F:List Bk}{O:List (Nat×Bk)}{s:Nat}(h:∀q∈O,q.1≠s):(flushF F O).getD s zB=F.getD s zB:=by
 rw[qyh,tK h,qyh]
theorem Zk{y:Bk}{s:Nat}:∀(O:List (Nat×Bk)) (F:List Bk),(∃q∈O,q.1=s)->(∀q∈O,q.1=s->q.2=y)->s<F.length->(flushF F O).getD s zB=y
 |[],_,h,_,_=>by obtain⟨q,hq,-⟩:=h;cases hq
 |q::O,F,h,h2,hs=>by
  show(flushF (F.set q.1 q.2) O).getD s zB=y;by_cases hO:∃q∈O,q.1=s
  .exact Zk O _ hO (fun q hq=>h2 q (qzs _ hq)) (by simpa using hs)
  .have hq:q.1=s:=by
    obtain⟨r,hr,e⟩:=h;rcases qzr.1 hr with rfl|hr
    .exact e
    .exact absurd ⟨r,hr,e⟩ hO
   rw[rW (fun r hr e=>hO ⟨r,hr,e⟩),yh,if_pos ⟨hq,by rw[hq];exact hs⟩];exact h2 q qzt hq
def EnOk(n:CaN)(L:List Ent):Prop:=(∀x∈L,x.b<n.bl/\x.s<n.sl/\x.m<=4294967295)/\(L.map (·.s)).Nodup/\L.Pairwise (fun x y=>x.b<y.b)
def tH(E:Nat->List Ent)(top i:Nat)(y:Bk):Prop:=okP y=false\/∃s,s<=top/\i<needN (E s).length/\y=sectP (pageXs s (needN (E s).length) (E s) i)
def Aj(jo:Nat)(R:Nat->List Int)(f0 top j:Nat)(y:Bk):Prop:=y=zB\/∃t,f0<t/\t<=top/\(t-1)%jo=j/\y=sectR (R t)
theorem tH.mono{E:Nat->List Ent}{top top' i:Nat}{y:Bk}(h:tH E top i y)(ht:top<=top'):tH E top' i y:=h.imp id (fun⟨s,h1,h2⟩=>⟨s,qXx h1 ht,h2⟩)
theorem Aj.mono{jo f0 top top' j:Nat}{R:Nat->List Int}{y:Bk}(h:Aj jo R f0 top j y)(ht:top<=top'):Aj jo R f0 top' j y:=h.imp id (fun⟨t,h1,h2,h3⟩=>⟨t,h1,qXx h2 ht,h3⟩)
def enM(L:List Ent):Int->Option EI:=apM (L.map Ent.toI)
abbrev CaN.jb(n:CaN):Nat:=1+2*n.pa
def OOk(n:CaN)(wh:Nat)(E:Nat->List Ent)(R:Nat->List Int)(com fp:Nat)(q:Nat×Bk):Prop:=
 (∃i,i<n.pa/\q.1=1+(1-wh)*n.pa+i/\tH E fp i q.2)\/(∃t,com<t/\t<=fp/\q=(n.jb+(t-1)%n.jo,sectR (R t)))\/n.ku<=q.1
structure Hs(n:CaN)(Z:Nat->Bk)(a:CaS)(E:Nat->List Ent)(R:Nat->List Int)(f0 com fp:Nat):Prop where
 pl:Pl a.dP
 dl:a.dF.length=n.size
 f1:f0<=a.cov
 c1:a.cov<=com
 c2:com+a.W.length+1=a.next
 c3:com<=fp
 c4:fp+1<=a.next
 c5:a.next<=a.cov+n.jo+1
 wh:a.which<=1
 wq:∀i,i<a.W.length->a.W[i]?=some (com+1+i,sectR (R (com+1+i)))
 rc:∀t,f0<t->t<a.next->((R t).length=7/\mayR (R t)=true/\(R t).getD 0 0=(t:Int)/\(R t).getD 1 0=(((t-1)/n.jo:Nat):Int))/\enM (E t)=apR (enM (E (t-1))) (R t)
 en:∀t,t<a.next->EnOk n (E t)
 cur:E (a.next-1)=a.ents n
 fx:∀s,s=0\/(n.jb+n.jo<=s/\s<n.ku)->a.dF.getD s zB=Z s
 o0:∀q∈a.dO,OOk n a.which E R com fp q
 sd:∀i,i<n.pa->a.dF.getD (1+a.which*n.pa+i) zB=(pagesB a.cov (E a.cov)).getD i zB
 so:∀i,i<n.pa->tH E fp i (a.dF.getD (1+(1-a.which)*n.pa+i) zB)
 jr:∀j,j<n.jo->Aj n.jo R f0 fp j (a.dF.getD (n.jb+j) zB)
 jw:∀t,a.cov<t->t<=com->a.dF.getD (n.jb+(t-1)%n.jo) zB=sectR (R t)
 sl:∀t,com<=t->t<a.next->∀x∈E t,(a.st.getD x.s 0=2\/a.st.getD x.s 0=3)/\crcC (curB a.dF a.dO (n.ku+x.s))=x.m
 sf:∀t,com<=t->t<=fp->∀x∈E t,crcC (a.dF.getD (n.ku+x.s) zB)=x.m
theorem CaN.kJ(n:CaN):n.ku=1+2*n.pa+n.jo+n.lo+n.lo+n.lo:=rfl
theorem CaN.size_eq(n:CaN):n.size=n.ku+n.sl:=rfl
theorem mod_one{jo t t':Nat}(h:(t-1)%jo=(t'-1)%jo)(h1:t<t')(h2:t'<t+jo)(h0:1<=t):False:=by
 have e1:=Nat.div_add_mod (t-1) jo;have e2:=Nat.div_add_mod (t'-1) jo;rcases Nat.lt_or_ge ((t-1)/jo) ((t'-1)/jo)with hl|hl
 .have:=Nat.mul_le_mul_left jo (Nat.succ_le_of_lt hl);rw[Nat.mul_succ]at this;omega
 .have:=Nat.mul_le_mul_left jo hl;omega
section
variable{n:CaN}{Z:Nat->Bk}{a b:CaS}{E:Nat->List Ent}{R:Nat->List Int}{f0 com fp:Nat}
theorem Su(m:Nat){k:Nat}(h:k<=1):k*m=0/\(1-k)*m=m\/k*m=m/\(1-k)*m=0:=by
 rcases(show k=0\/k=1 by omega)with rfl|rfl
 .left;simp
 .right;simp
theorem Hs.tail(h:Hs n Z a E R f0 com fp):Hs n Z {a with dP:=a.dP.tail} E R f0 com fp:={h with pl:=h.pl.tail}
theorem Hs.flushed(h:Hs n Z a E R f0 com fp)(hj:1<=n.jo):Hs n Z {a with dF:=flushF a.dF a.dO,dO:=[],dP:=a.dP.tail} E R f0 com (a.next-1):=by
 have hz:=n.size_eq;have hs0:=n.kJ;have hdl:=h.dl;have hwm:=Su n.pa h.wh;have c2:=h.c2;have c4:=h.c4;have hmod:∀t,(t-1)%n.jo<n.jo:=fun t=>qYa _ oM;have hmiss:∀s,(∀i,i<n.pa->s≠1+(1-a.which)*n.pa+i)->(∀t,com<t->t<=fp->s≠n.jb+(t-1)%n.jo)->s<n.ku->(flushF a.dF a.dO).getD s zB=a.dF.getD s zB:=fun s h1 h2 h3=>
  rW (fun q hq e=>by
   rcases h.o0 q hq with⟨i,hi,e2,-⟩|⟨t,ht1,ht2,e2⟩|h4
   .exact h1 i hi (by rw[<-e,e2])
   .exact h2 t ht1 ht2 (by rw[<-e,e2])
   .omega)
 refine{h with
  pl:=h.pl.tail
  dl:=by show(flushF a.dF a.dO).length=_;rw[zG];exact h.dl
  c3:=oM
  c4:=by show a.next-1+1<=a.next;omega
  fx:=fun s hs=>?_
  o0:=fun q hq=>by cases hq
  sd:=fun i hi=>?_
  so:=fun i hi=>?_
  jr:=fun j hj=>?_
  jw:=fun t h1 h2=>?_
  sl:=fun t h1 h2 x hx=>h.sl t h1 h2 x hx
  sf:=fun t h1 h2 x hx=>(h.sl t h1 oM x hx).2}
 .show (flushF a.dF a.dO).getD s zB=Z s;rw[hmiss s (fun i hi=>by simp only[CaN.jb]at hs;omega) (fun t h1 h2=>by have:=hmod t;simp only[CaN.jb]at hs⊢;omega) (by simp only[CaN.jb]at hs;omega)];exact h.fx s hs
 .show (flushF a.dF a.dO).getD (1+a.which*n.pa+i) zB=_;rw[hmiss _ (fun k hk=>oM) (fun t h1 h2=>by have:=hmod t;simp only[CaN.jb];omega) oM];exact h.sd i hi
 .have:=tG (P:=fun s y=>∀i,i<n.pa->s=1+(1-a.which)*n.pa+i->tH E (a.next-1) i y) a.dO a.dF (fun s _ i hi e=>by subst e;exact(h.so i hi).mono oM) (fun q hq i hi e=>by
   rcases h.o0 q hq with⟨i',hi',e2,hp⟩|⟨t,ht1,ht2,e2⟩|h4
   .obtain rfl:i=i':=oM;exact hp.mono oM
   .rw [e2]at e;have:=hmod t;simp only[CaN.jb]at e;omega
   .omega) (1+(1-a.which)*n.pa+i) oM i hi rfl
  exact this
 .have:=tG (P:=fun s y=>∀j,j<n.jo->s=n.jb+j->Aj n.jo R f0 (a.next-1) j y) a.dO a.dF (fun s _ i hi e=>by subst e;exact(h.jr i hi).mono oM) (fun q hq i hi e=>by
   rcases h.o0 q hq with⟨i',hi',e2,hp⟩|⟨t,ht1,ht2,e2⟩|h4
   .simp only[CaN.jb]at e;omega
   .rw [e2]at e⊢;have e:n.jb+(t-1)%n.jo=n.jb+i:=e;exact .inr ⟨t,by have:=h.f1;have:=h.c1;omega,oM,oM,rfl⟩
   .simp only[CaN.jb]at e;omega) (n.jb+j) (by simp only[CaN.jb];omega) j hj rfl
  exact this
 .show (flushF a.dF a.dO).getD _ zB=_;have:=hmod t;have h1:a.cov<t:=h1;have c5:=h.c5;rw[hmiss _ (fun i hi=>by simp only[CaN.jb];omega) (fun t' h3 h4 e=>mod_one (jo:=n.jo) (t:=t) (t':=t') oM oM oM oM) (by simp only[CaN.jb];omega)];exact h.jw t h1 h2
theorem Hs.flush(h:Hs n Z a E R f0 com fp)(hj:1<=n.jo):((flushR a.dF a.dO a.dP).cd≠0/\Hs n Z (a.dev (flushR a.dF a.dO a.dP)) E R f0 com fp)\/((flushR a.dF a.dO a.dP).cd=0/\Hs n Z (a.dev (flushR a.dF a.dO a.dP)) E R f0 com (a.next-1)/\(flushR a.dF a.dO a.dP).O=[]):=by
 rcases h.pl.fate with hf|hf
 .have e:flushR a.dF a.dO a.dP=⟨flushF a.dF a.dO,[],a.dP.tail,0⟩:=by unfold flushR;rw[if_neg (by rw[hf];decide),if_pos hf]
  rw[e];exact .inr ⟨rfl,h.flushed hj,rfl⟩
 .have e:flushR a.dF a.dO a.dP=⟨a.dF,a.dO,a.dP.tail,21⟩:=by unfold flushR;rw[if_pos hf]
  rw[e];exact .inl ⟨show (21:Int)≠0 by decide,h.tail⟩
theorem Hs.kF(h:Hs n Z a E R f0 com fp)(s:Nat)(y:Bk)(ho:OOk n a.which E R com fp (s,y))(hsl:n.ku<=s->∀t,com<=t->t<a.next->∀x∈E t,n.ku+x.s≠s):((writeR a.dF a.dO a.dP s y).cd≠0/\(writeR a.dF a.dO a.dP s y).O=a.dO\/(writeR a.dF a.dO a.dP s y).cd=0/\(writeR a.dF a.dO a.dP s y).O=a.dO++[(s,y)])/\Hs n Z (a.dev (writeR a.dF a.dO a.dP s y)) E R f0 com fp:=by
 rcases h.pl.fate with hf|hf
 .have e:writeR a.dF a.dO a.dP s y=⟨a.dF,a.dO++[(s,y)],a.dP.tail,0⟩:=by unfold writeR;rw[if_neg (by rw[hf];decide),if_pos hf]
  rw[e];refine⟨.inr ⟨rfl,rfl⟩,{h with pl:=h.pl.tail,o0:=fun q hq=>?_,sl:=fun t h1 h2 x hx=>⟨(h.sl t h1 h2 x hx).1,?_⟩}⟩
  .rcases qzq.1 hq with hq|hq
   .exact h.o0 q hq
   .rw [qzy.1 hq];exact ho
  .show crcC (curB a.dF (a.dO++[(s,y)]) _)=_;rw[tx,if_neg (fun e=>hsl (by rw[e.1];exact qXu _ _) t h1 h2 x hx e.1.symm)];exact(h.sl t h1 h2 x hx).2
 .have e:writeR a.dF a.dO a.dP s y=⟨a.dF,a.dO,a.dP.tail,20⟩:=by unfold writeR;rw[if_pos hf]
  rw[e];exact⟨.inl ⟨show (20:Int)≠0 by decide,rfl⟩,h.tail⟩
end
theorem Zl{F:List Bk}{O:List (Nat×Bk)}{P:List Int}(hp:Pl P)(h:(flushR F O P).cd=0):flushR F O P=⟨flushF F O,[],P.tail,0⟩:=by
 unfold flushR at h⊢;rcases hp.fate with hf|hf
 .rw [if_neg (by rw[hf];decide),if_pos hf]
 .rw [if_pos hf]at h;cases h
def comO(n:CaN)(W:List (Nat×Bk)):List (Nat×Bk):=W.map fun q=>(n.jb+(q.1-1)%n.jo,q.2)
theorem Vf(s:Nat)(L:List Ent)(i:Nat):(pagesB s L).getD i zB=if i<needN L.length then sectP (pageXs s (needN L.length) L i)else zB:=by
 rw[pagesB,zZ,qyh,qyq];split
 .next h=>rw[qyr h];rfl
 .next h=>rw[qyo (by simpa using h)];rfl
theorem vH{E:Nat->List Ent}{s top:Nat}(hs:s<=top)(i:Nat):tH E top i ((pagesB s (E s)).getD i zB):=by
 rw[Vf];split
 .next h=>exact .inr ⟨s,hs,h,rfl⟩
 .exact .inl rv
section
variable{n:CaN}{Z:Nat->Bk}{a b:CaS}{E:Nat->List Ent}{R:Nat->List Int}{f0 com fp:Nat}
theorem Hs.comW:∀(W:List (Nat×Bk)) {a:CaS},Hs n Z a E R f0 com fp->(∀q∈W,∃t,com<t/\t<=fp/\q=(t,sectR (R t)))->(1<=n.jo)->
  ((Go.Proofs.YtfhfbpmlnjdfoaaGreatDoor.comW n.jb n.jo a.dF W a.dO a.dP).cd≠0\/(Go.Proofs.YtfhfbpmlnjdfoaaGreatDoor.comW n.jb n.jo a.dF W a.dO a.dP).O=a.dO++comO n W)/\Hs n Z (a.dev (Go.Proofs.YtfhfbpmlnjdfoaaGreatDoor.comW n.jb n.jo a.dF W a.dO a.dP)) E R f0 com fp
 |[],a,h,_,_=>⟨.inr (by simp[Go.Proofs.YtfhfbpmlnjdfoaaGreatDoor.comW,comO]),h⟩
 |(s,y)::W,a,h,hW,hj=>by
  obtain⟨t,h1,h2,he⟩:=hW _ qzt;cases he;have hlt:=qYa (s-1) (show 0<n.jo by omega);have hs0:=n.kJ;obtain⟨hw1,hw2⟩:=h.kF (n.jb+(s-1)%n.jo) (sectR (R s)) (.inr (.inl ⟨s,h1,h2,rfl⟩)) (fun h3=>by simp only[CaN.jb]at h3;omega);rw[Go.Proofs.YtfhfbpmlnjdfoaaGreatDoor.comW];split
  .next hc=>
   have hO:=hw1.resolve_left (fun e=>e.1 hc);have ih:=Hs.comW W hw2 (fun q hq=>hW q (qzs _ hq)) hj;have hF:(writeR a.dF a.dO a.dP (n.jb+(s-1)%n.jo) (sectR (R s))).F=a.dF:=yv _ _ _ _ _;rw[show(a.dev (writeR a.dF a.dO a.dP (n.jb+(s-1)%n.jo) (sectR (R s)))).dF=a.dF from hF]at ih;refine⟨ih.1.imp id (fun h=>?_),ih.2⟩;rw[show(a.dev (writeR a.dF a.dO a.dP (n.jb+(s-1)%n.jo) (sectR (R s)))).dO=a.dO++[(n.jb+(s-1)%n.jo,sectR (R s))]from hO.2]at h;rw[show(writeR a.dF a.dO a.dP (n.jb+(s-1)%n.jo) (sectR (R s))).O=a.dO++[(n.jb+(s-1)%n.jo,sectR (R s))]from hO.2,h];simp[comO]
  .next hc=>exact⟨.inl hc,hw2⟩
theorem Hs.cm(h:Hs n Z a E R f0 com fp)(hj:1<=n.jo):∃com' fp',Hs n Z (a.cm n) E R f0 com' fp'/\((a.com n).1.cd=0->com'=a.next-1/\(a.cm n).dO=[]/\(a.cm n).W=[]):=by
 have hcm:a.cm n={a.dev (comR n.jb n.jo a.dF a.dO a.dP a.W).1 with W:=(comR n.jb n.jo a.dF a.dO a.dP a.W).2}:=rfl;have hco:a.com n=comR n.jb n.jo a.dF a.dO a.dP a.W:=rfl;rw[hcm,hco];have c2:=h.c2;have hf:=h.flush hj;unfold comR;split
 .next hc=>
  rcases hf with⟨f1,f2⟩|⟨f1,f2,f3⟩
  .exact ⟨com,fp,f2,fun e=>absurd e f1⟩
  .have hW:a.W=[]:=hc.resolve_left (fun e=>e f1);rw[hW]at c2;exact⟨com,a.next-1,f2,fun _=>⟨by simp at c2;omega,f3,hW⟩⟩
 next hc=>
 have hc0:(flushR a.dF a.dO a.dP).cd=0:=Classical.byContradiction fun e=>hc (.inl e);obtain⟨f1,f2,f3⟩:=hf.resolve_left (fun e=>e.1 hc0);have hWq:∀q∈a.W,∃t,com<t/\t<=a.next-1/\q=(t,sectR (R t)):=fun q hq=>by
  obtain⟨i,hi,rfl⟩:=qza hq;have:=h.wq i hi;rw[qyn hi]at this;exact⟨com+1+i,oM,oM,qYj this⟩
 obtain⟨g1,g2⟩:=Hs.comW a.W f2 hWq hj;obtain⟨a1,ha1⟩:=qqe (a.dev (flushR a.dF a.dO a.dP));have e1:Go.Proofs.YtfhfbpmlnjdfoaaGreatDoor.comW n.jb n.jo (flushR a.dF a.dO a.dP).F a.W (flushR a.dF a.dO a.dP).O (flushR a.dF a.dO a.dP).P=Go.Proofs.YtfhfbpmlnjdfoaaGreatDoor.comW n.jb n.jo a1.dF a.W a1.dO a1.dP:=by rw[ha1]
 rw[e1];rw[<-ha1]at f2 g1 g2;obtain⟨r2,hr2⟩:=qqe (Go.Proofs.YtfhfbpmlnjdfoaaGreatDoor.comW n.jb n.jo a1.dF a.W a1.dO a1.dP);rw[<-hr2]at g1 g2⊢;have hsame:∀r:DRes,({a.dev r with W:=a.W}:CaS)=(a1.dev r2).dev r:=fun r=>by rw[ha1]
 split
 .next h2=>exact⟨com,a.next-1,by rw[hsame,show(a1.dev r2).dev r2=a1.dev r2 from rfl];exact g2,fun e=>absurd e h2⟩
 next h2=>
 have h20:r2.cd=0:=qxq h2;have hO2:=g1.resolve_left (fun e=>e h20);rcases g2.flush hj with⟨k1,k2⟩|⟨k1,k2,k3⟩
 .rw [show flushR (a1.dev r2).dF (a1.dev r2).dO (a1.dev r2).dP=flushR r2.F r2.O r2.P from rfl]at k1 k2;rw[if_pos k1];exact⟨com,a.next-1,by rw[hsame];exact k2,fun e=>absurd e k1⟩
 .rw [show flushR (a1.dev r2).dF (a1.dev r2).dO (a1.dev r2).dP=flushR r2.F r2.O r2.P from rfl]at k1 k2 k3;rw[if_neg (fun e=>e k1)];have ek:=Zl (F:=r2.F) (O:=r2.O) g2.pl k1;have hnx:((a1.dev r2).dev (flushR r2.F r2.O r2.P)).next=a.next:=by rw[ha1]
  have hnx1:(a1.dev r2).next=a.next:=by rw[ha1]
  have hcv:((a1.dev r2).dev (flushR r2.F r2.O r2.P)).cov=a.cov:=by rw[ha1]
  have hc1:=h.c1;have hc5:=h.c5;have hjw:∀t,a.cov<t->t<=a.next-1->(flushR r2.F r2.O r2.P).F.getD (n.jb+(t-1)%n.jo) zB=sectR (R t):=fun t t1 t2=>by
   by_cases htc:t<=com
   .exact k2.jw t (by rw[hcv];exact t1) htc
   .have hml:=qYa (t-1) (show 0<n.jo by omega);have hs0:=n.kJ;have hz:=n.size_eq;rw[ek];have hO3:r2.O=comO n a.W:=by rw[hO2,ha1,show(a.dev (flushR a.dF a.dO a.dP)).dO=[]from f3];rfl
    rw[hO3];refine Zk _ _ ⟨(n.jb+(t-1)%n.jo,sectR (R t)),?_,rfl⟩ (fun q hq e=>?_) ?_
    .have hi:t-(com+1)<a.W.length:=oM;have:=h.wq (t-(com+1)) hi;rw[show com+1+(t-(com+1))=t by omega]at this;exact qzv.2 ⟨(t,sectR (R t)),List.mem_of_getElem? this,rfl⟩
    .obtain ⟨p,hp,rfl⟩:=qzv.1 hq;obtain⟨t',p1,p2,rfl⟩:=hWq p hp;have e:n.jb+(t'-1)%n.jo=n.jb+(t-1)%n.jo:=e;rcases Nat.lt_trichotomy t t' with hl|rfl|hl
     .exact (mod_one (jo:=n.jo) (t:=t) (t':=t') oM hl oM oM).elim
     .rfl
     .exact (mod_one (jo:=n.jo) (t:=t') (t':=t) oM hl oM oM).elim
    .have hl2:r2.F.length=n.size:=g2.dl;rw[hl2];simp only[CaN.jb];omega
  refine⟨a.next-1,a.next-1,?_,fun _=>⟨rfl,k3,rfl⟩⟩;have hb:({a.dev (flushR r2.F r2.O r2.P)with W:=[]}:CaS)={(a1.dev r2).dev (flushR r2.F r2.O r2.P)with W:=[]}:=by rw[ha1]
  rw[hb];rw[hnx1]at k2;exact{k2 with
   c1:=by show((a1.dev r2).dev (flushR r2.F r2.O r2.P)).cov<=_;rw[hcv];omega
   c2:=by show a.next-1+0+1=((a1.dev r2).dev (flushR r2.F r2.O r2.P)).next;rw[hnx];omega
   c3:=qXv _
   wq:=fun i hi=>absurd hi (Nat.not_lt_zero _)
   o0:=fun q hq=>by
    have:(flushR r2.F r2.O r2.P).O=[]:=k3;replace hq:q∈(flushR r2.F r2.O r2.P).O:=hq;rw[this]at hq;cases hq
   jw:=fun t t1 t2=>hjw t (by rw[<-hcv];exact t1) t2
   sl:=fun t t1 t2=>k2.sl t oM t2
   sf:=fun t t1 t2=>k2.sf t oM t2}
end
theorem Yn{l:List EI}(hn:(l.map EI.b).Nodup){s:Int}{e:EI}:apM l s=some e↔e∈l/\e.b=s:=by
 have:∀(l:List EI),(l.map EI.b).Nodup->∀(f:Int->Option EI),(l.foldl apPut f) s=some e↔(e∈l/\e.b=s)\/(s∉l.map EI.b/\f s=some e):=by
  intro l
  induction l with
  |nil=>intro _ f;simp
  |cons x l ih=>
   intro hn f;rw[qzm,qXb]at hn;rw[List.foldl_cons,ih hn.2];unfold apPut;by_cases hs:s=x.b
   .subst hs;constructor
    .rintro (h|⟨h1,h2⟩)
     .exact .inl ⟨qzs _ h.1,h.2⟩
     .rw [if_pos rfl]at h2;cases h2;exact .inl ⟨qzt,rfl⟩
    .rintro (⟨h1,h2⟩|⟨h1,-⟩)
     .rcases qzr.1 h1 with rfl|h1
      .exact .inr ⟨hn.1,if_pos rfl⟩
      .exact .inl ⟨h1,h2⟩
     .exact absurd oe h1
   .rw [if_neg hs];constructor
    .rintro (h|⟨h1,h2⟩)
     .exact .inl ⟨qzs _ h.1,h.2⟩
     .refine .inr ⟨?_,h2⟩;rw[qzm,qzr];exact fun h=>h.elim hs h1
    .rintro (⟨h1,h2⟩|⟨h1,h2⟩)
     .rcases qzr.1 h1 with rfl|h1
      .exact absurd h2.symm hs
      .exact .inl ⟨h1,h2⟩
     .refine .inr ⟨fun h=>h1 ?_,h2⟩;rw[qzm];exact qzs _ h
 simpa[apM]using this l hn (fun _=>none)
theorem vI{qs:List (Int×Bool)}{fr:Nat}{x:It9}:∀{m:Nat},x∈visTo qs fr m↔∃k,k<m/\qs.getD k (-1,false)≠(-1,false)/\x=(fr+k,qs.getD k (-1,false))
 |0=>by simp[visTo]
 |m+1=>by
  rw[visTo,qzq,vI];unfold uJ;rw[<-qyh];constructor
  .rintro (⟨k,h1,h2⟩|h)
   .exact ⟨k,oM,h2⟩
   .split at h
    .cases h
    .next hn=>exact⟨m,oM,hn,qzy.1 h⟩
  .rintro ⟨k,h1,h2,rfl⟩;by_cases hk:k=m
   .subst hk
    right
    rw[if_neg h2];exact qzy.2 rfl
   .exact .inl ⟨k,oM,h2,rfl⟩
theorem uP(qs:List (Int×Bool))(fr:Nat):∀m,(visTo qs fr m).Pairwise (fun x y=>x.1<y.1)
 |0=>List.Pairwise.nil
 |m+1=>by
  rw[visTo,List.pairwise_append];refine⟨uP qs fr m,?_,fun x hx y hy=>?_⟩
  .unfold uJ;split
   .exact List.Pairwise.nil
   .exact List.pairwise_singleton _ _
  .obtain ⟨k,hk,-,rfl⟩:=vI.1 hx;unfold uJ at hy;split at hy
   .cases hy
   .rw [qzy.1 hy];show fr+k<fr+m;omega
section
variable{n:CaN}{a b:CaS}
theorem CaS.kI(hl:a.ps.length=n.bl){x:Ent}:x∈a.ents n↔∃k,k<n.bl/\plc a.ps k≠(-1,false)/\x=⟨k,(plc a.ps k).1.toNat,(plc a.ps k).2,(a.sums (k:Int)).getD 0⟩:=by
 have e:spanL a.ps 0 n.bl=a.ps:=by unfold spanL;rw[qyc,<-hl,List.take_length]
 unfold CaS.ents;rw[e,qzv];constructor
 .rintro ⟨y,hy,rfl⟩;obtain⟨k,h1,h2,rfl⟩:=vI.1 hy;exact⟨k,oM,h2,by simp[CaS.ent]⟩
 .rintro ⟨k,h1,h2,rfl⟩;exact⟨(0+k,plc a.ps k),vI.2 ⟨k,oM,h2,rfl⟩,by simp[CaS.ent]⟩
theorem CaS.ents_sorted(n:CaN)(a:CaS):(a.ents n).Pairwise (fun x y=>x.b<y.b):=qXf.2 (uP _ _ _)
def CaS.mp(n:CaN)(a:CaS):Int->Option EI:=fun s=>if 0<=s/\s<(n.bl:Int)/\plc a.ps s.toNat≠(-1,false)then some ⟨s,(plc a.ps s.toNat).1,(plc a.ps s.toNat).2,((a.sums s).getD 0:Nat)⟩else none
theorem CaS.ents_mp{o:Option Nat}(ht:a.Tie n o):enM (a.ents n)=a.mp n:=by
 have hnd:(((a.ents n).map Ent.toI).map EI.b).Nodup:=by
  rw[qzn];refine qXf.2 ((a.ents_sorted n).imp fun h e=>?_);simp only[Function.comp,Ent.toI]at e;omega
 have hpos:∀k,k<n.bl->plc a.ps k≠(-1,false)->0<=(plc a.ps k).1:=fun k hk hn=>by
  obtain⟨s,-,e,-⟩:=ht.slot hk hn;rw[e];omega
 funext s
 apply Option.ext;intro e;unfold enM;rw[Yn hnd];unfold CaS.mp;constructor
 .rintro ⟨h1,rfl⟩;obtain⟨x,hx,rfl⟩:=qzv.1 h1;obtain⟨k,hk,hn,rfl⟩:=(CaS.kI ht.hpl).1 hx;have:=hpos k hk hn;show(if 0<=(k:Int)/\(k:Int)<(n.bl:Int)/\plc a.ps (k:Int).toNat≠(-1,false)then _ else _)=some (Ent.toI _);rw[if_pos ⟨oM,oM,by rw[qxu];exact hn⟩];simp only[Ent.toI,qxu,Option.some.injEq,EI.mk.injEq,true_and,and_true];omega
 .intro h;split at h
  .next hc=>
   obtain⟨h0,h1,h2⟩:=hc;cases h;obtain⟨k,rfl⟩:=qxs h0;rw[qxu]at h2⊢;have:=hpos k oM h2;refine⟨qzv.2 ⟨⟨k,(plc a.ps k).1.toNat,(plc a.ps k).2,(a.sums (k:Int)).getD 0⟩,(CaS.kI ht.hpl).2 ⟨k,oM,h2,rfl⟩,?_⟩,rfl⟩;unfold Ent.toI;simp only[EI.mk.injEq,true_and];exact⟨oM,trivial⟩
  .cases h
theorem CaS.ents_enok{o:Option Nat}(ht:a.Tie n o)(hsm:∀k v,a.sums k=some v->v<=4294967295):EnOk n (a.ents n):=by
 have hin:∀x∈a.ents n,∃k s:Nat,k<n.bl/\s<n.sl/\plc a.ps k≠(-1,false)/\(plc a.ps k).1=(s:Int)/\x.b=k/\x.s=s/\x.m=(a.sums (k:Int)).getD 0/\a.st.getD s 0=2:=fun x hx=>by
  obtain⟨k,hk,hn,rfl⟩:=(CaS.kI ht.hpl).1 hx;obtain⟨s,hs,e,h2⟩:=ht.slot hk hn;exact⟨k,s,hk,hs,hn,e,rfl,by show(plc a.ps k).1.toNat=s;rw[e,qxu],rfl,h2⟩
 refine⟨fun x hx=>?_,?_,a.ents_sorted n⟩
 .obtain ⟨k,s,hk,hs,-,-,e1,e2,e3,-⟩:=hin x hx;refine⟨oM,oM,?_⟩;rw[e3];cases hc:a.sums (k:Int)with
  |none=>simp
  |some m=>exact hsm _ _ hc
 .refine qXf.2 ((a.ents_sorted n).imp_of_mem fun{x y} hx hy hlt e=>?_);obtain⟨k,s,hk,hs,hn,e0,e1,e2,-⟩:=hin x hx;obtain⟨k',s',hk',hs',hn',e0',e1',e2',-⟩:=hin y hy;have:=ht.inj hk hk' (by rw[e0];omega) (by rw[e0,e0'];omega);omega
theorem CaS.ents_live{o:Option Nat}(ht:a.Tie n o){x:Ent}(hx:x∈a.ents n):x.s<n.sl/\a.st.getD x.s 0=2:=by
 obtain⟨k,hk,hn,rfl⟩:=(CaS.kI ht.hpl).1 hx;obtain⟨s,hs,e,h2⟩:=ht.slot hk hn;have e2:(plc a.ps k).1.toNat=s:=by rw[e,qxu]
 exact⟨by show(plc a.ps k).1.toNat<_;rw[e2];exact hs,by show a.st.getD (plc a.ps k).1.toNat 0=2;rw[e2];exact h2⟩
end
theorem EnOk.need{n:CaN}{L:List Ent}(h:EnOk n L)(hok:n.Ok):needN L.length<=n.pa/\needN L.length<=256/\∀x∈L,qN x:=by
 have hl:L.length<=n.sl:=by
  have h1:=xx n.sl _ h.2.1 (fun s hs=>by
   obtain⟨x,hx,rfl⟩:=qzv.1 hs;exact(h.1 x hx).2.1)
  simpa using h1
 have h2:=St hl;have h3:=hok.p1;have h4:=hok.s2;have h5:=hok.b2;refine⟨by unfold needN at h2⊢;omega,by unfold needN at h2⊢;omega,fun x hx=>?_⟩;obtain⟨q1,q2,q3⟩:=h.1 x hx;exact⟨oM,oM,q3⟩
theorem tH.congr{E E':Nat->List Ent}{top i:Nat}{y:Bk}(h:tH E top i y)(he:∀s,s<=top->E' s=E s):tH E' top i y:=
 h.imp id (fun⟨s,h1,h2,h3⟩=>⟨s,h1,by rw[he s h1];exact h2,by rw[he s h1];exact h3⟩)
theorem Aj.congr{jo f0 top j:Nat}{R R':Nat->List Int}{y:Bk}(h:Aj jo R f0 top j y)(he:∀t,t<=top->R' t=R t):Aj jo R' f0 top j y:=
 h.imp id (fun⟨t,h1,h2,h3,h4⟩=>⟨t,h1,h2,h3,by rw[he t h2];exact h4⟩)
section
variable{n:CaN}{Z:Nat->Bk}{a:CaS}{E:Nat->List Ent}{R:Nat->List Int}{f0 com fp:Nat}
theorem Hs.note(h:Hs n Z a E R f0 com fp)(b:CaS)(xs:List Int)(hd:b.dF=a.dF/\b.dO=a.dO/\b.dP=a.dP)(hc:b.cov=a.cov/\b.which=a.which/\b.next=a.next+1/\b.W=a.W++[(a.next,sectR xs)])
  (hx:xs.length=7/\mayR xs=true/\xs.getD 0 0=(a.next:Int)/\xs.getD 1 0=(((a.next-1)/n.jo:Nat):Int)) (hm:enM (b.ents n)=apR (enM (a.ents n)) xs) (he:EnOk n (b.ents n)) (hr:a.next<=a.cov+n.jo)
  (hs:∀s,a.st.getD s 0=2\/a.st.getD s 0=3->b.st.getD s 0=2\/b.st.getD s 0=3) (hn:∀x∈b.ents n,(b.st.getD x.s 0=2\/b.st.getD x.s 0=3)/\crcC (curB a.dF a.dO (n.ku+x.s))=x.m):
  Hs n Z b (fun t=>if t=a.next then b.ents n else E t) (fun t=>if t=a.next then xs else R t) f0 com fp:=by
 obtain⟨d1,d2,d3⟩:=hd;obtain⟨q1,q2,q3,q4⟩:=hc;have c2:=h.c2;have c3:=h.c3;have c4:=h.c4;have c1:=h.c1;have f1:=h.f1;have hE:∀t,t<a.next->(fun t=>if t=a.next then b.ents n else E t) t=E t:=fun t ht=>if_neg oM;have hR:∀t,t<a.next->(fun t=>if t=a.next then xs else R t) t=R t:=fun t ht=>if_neg oM;refine{
  pl:=by rw[d3];exact h.pl
  dl:=by rw[d1];exact h.dl
  f1:=by rw[q1];exact h.f1
  c1:=by rw[q1];exact h.c1
  c2:=by rw[q3,q4,qzd];simp;omega
  c3:=h.c3
  c4:=by rw[q3];omega
  c5:=by rw[q3,q1];omega
  wh:=by rw[q2];exact h.wh
  wq:=fun i hi=>?_
  rc:=fun t h1 h2=>?_
  en:=fun t h2=>?_
  cur:=?_
  fx:=by rw[d1];exact h.fx
  o0:=by
   rw[d2,q2];intro q hq;rcases h.o0 q hq with⟨i,i1,i2,i3⟩|⟨t,t1,t2,t3⟩|h3
   .exact .inl ⟨i,i1,i2,i3.congr (fun s hs=>hE s oM)⟩
   .exact .inr (.inl ⟨t,t1,t2,by rw[hR t oM];exact t3⟩)
   .exact .inr (.inr h3)
  sd:=by rw[d1,q1,q2,if_neg (show¬a.cov=a.next by omega)];exact h.sd
  so:=by rw[d1,q2];exact fun i hi=>(h.so i hi).congr (fun s hs=>hE s oM)
  jr:=by rw[d1];exact fun j hj=>(h.jr j hj).congr (fun t ht=>hR t oM)
  jw:=by rw[d1,q1];exact fun t t1 t2=>by rw[if_neg (show¬t=a.next by omega)];exact h.jw t t1 t2
  sl:=fun t t1 t2 x hx=>?_
  sf:=by rw[d1];exact fun t t1 t2 x hx=>by rw[if_neg (show¬t=a.next by omega)]at hx;exact h.sf t t1 t2 x hx}
 .rw [q4]at hi⊢;rw[qzd]at hi;by_cases hw:i<a.W.length
  .rw [qyi hw,if_neg (show¬com+1+i=a.next by omega)];exact h.wq i hw
  .have:i=a.W.length:=by simp at hi;omega
   subst this;rw[qyj (qXv _),Nat.sub_self];have e:com+1+a.W.length=a.next:=oM;rw[e,if_pos rfl];rfl
 .rw [q3]at h2;by_cases ht:t=a.next
  .subst ht;rw[if_pos rfl,if_pos rfl,if_neg oM,h.cur];exact⟨hx,hm⟩
  .rw [if_neg ht,if_neg ht,if_neg oM];exact h.rc t h1 oM
 .rw [q3]at h2;by_cases ht:t=a.next
  .rw [if_pos ht];exact he
  .rw [if_neg ht];exact h.en t oM
 .rw [q3];exact if_pos oM
 .rw [q3]at t2;rw[d1,d2];by_cases ht:t=a.next
  .rw [if_pos ht]at hx;exact hn x hx
  .rw [if_neg ht]at hx;obtain⟨k1,k2⟩:=h.sl t t1 oM x hx;exact⟨hs _ k1,k2⟩
theorem Hs.turn(h:Hs n Z a E R f0 com fp)(st:List Int)(hs:∀s,a.st.getD s 0=2\/a.st.getD s 0=3->st.getD s 0=2\/st.getD s 0=3):Hs n Z {a with st:=st} E R f0 com fp:=
 {h with sl:=fun t t1 t2 x hx=>⟨hs _ (h.sl t t1 t2 x hx).1,(h.sl t t1 t2 x hx).2⟩}
theorem Hs.freed{o:Option Nat}(h:Hs n Z a E R f0 com fp)(hc:com=a.next-1)(ht:a.Tie n o):Hs n Z {a with st:=freeTo a.st (pos a.st 3)} E R f0 com fp:=
 {h with
  sl:=fun t t1 t2 x hx=>by
   have t2:t<a.next:=t2;have:t=a.next-1:=oM;subst this;rw[h.cur]at hx;obtain⟨k1,k2⟩:=CaS.ents_live ht hx;refine⟨.inl ?_,(h.sl _ t1 t2 x (by rw[h.cur];exact hx)).2⟩;show(freeTo a.st (pos a.st 3)).getD x.s 0=2;rw[tu _ _ (by rw[ht.hsl];exact k1),k2];rfl}
theorem wG(st:List Int)(k:Int)(s:Nat)(h:st.getD s 0=2\/st.getD s 0=3):(turnList st k 3).getD s 0=2\/(turnList st k 3).getD s 0=3:=by
 unfold turnList;split
 .rw [yh];split
  .exact .inr rfl
  .exact h
 .exact h
end
open Go Go.RowKit Go.Shelf Go.Lib Tryz
def A4Y(bad:Prop)(S:Nat->Prop)(w:World)(d s15:Nat)(F:List Bk)(O:List (Nat×Bk))(e:Ending)(w':World):Prop:=
 ∃cd,(cd=0\/bad/\cd=12)/\e=.returned (.int .i64 cd)/\∃w2,Dv S w2 d F O []/\Upd S w w2/\w'=w2.setCell ⟨s15,0,none⟩ (.slice none 0 0)
theorem zcK{bad:Prop}{S:Nat->Prop}{w:World}{li lc lf d base k s14 s15:Nat}{F:List Bk}{O:List (Nat×Bk)}{x:Value}(h:LgsY bad S w li lc lf d base k F O)(h14:w.heap[s14]?=some (.cells #[ptr li,ptr lc,ptr lf] 67 (0,0)))
  (h15:w.heap[s15]?=some (.cells #[x] 68 (0,0))) (o15:¬S s15):
  Calls prog 77 #[ptr s14,ptr s15] w (A4Y bad S w d s15 F O):=by
 have HW:=qqh (JW h);have r14:w.rangeAt s14 0 [ptr li,ptr lc,ptr lf]:=zh h14;have H15:=Y2 h15 o15;clear h h14 h15 o15;go_enter func77,ntmps77
 go_wp2_with (first
  |(refine qZg rfl _ _ rfl _ _ rfl _ _ r14 underlying67 rfl yx ?_)
  |fail)
 refine HW.o.mono ?_;rintro e w2 ⟨cd,hcd,rfl,hd,hu⟩;have g2:=(hu.block _ (zf H15.o.1) H15.o.2).trans H15.o.1;have k2:=za g2 0;have f2:=zg g2 0;have HE:=Y3 hcd hd hu;clear hd hu g2 r14 HW hcd;go_wp2
 go_ret
 exact⟨cd,HE.o.1,rfl,w2,HE.o.2.1,HE.o.2.2,rfl⟩
end
section
def CaS.Hi(n:CaN)(Z:Nat->Bk)(a:CaS):Prop:=∃E R f0 com fp,Hs n Z a E R f0 com fp
section
variable{n:CaN}{Z:Nat->Bk}{a b:CaS}{E:Nat->List Ent}{R:Nat->List Int}{f0 com fp:Nat}{o:Option Nat}
theorem Hs.hi(h:Hs n Z a E R f0 com fp):a.Hi n Z:=⟨E,R,f0,com,fp,h⟩
theorem Hs.kz(h:Hs n Z a E R f0 com fp)(r:DRes):Hs n Z (a.kz r) E R f0 com fp:={h with}
theorem Hs.fb(h:Hs n Z a E R f0 com fp):Hs n Z a.fb E R f0 com fp:=h.kz _
theorem CaS.Hi.kz(h:a.Hi n Z)(r:DRes):(a.kz r).Hi n Z:=by obtain⟨E,R,f0,com,fp,h⟩:=h;exact(h.kz r).hi
theorem Hs.wrs:∀(L:List (Nat×Bk)) {a:CaS},Hs n Z a E R f0 com fp->(∀q∈L,q.1<n.ku/\OOk n a.which E R com fp q)->
  ((wrsR a.dF L a.dO a.dP).cd≠0\/(wrsR a.dF L a.dO a.dP).O=a.dO++L)/\Hs n Z (a.dev (wrsR a.dF L a.dO a.dP)) E R f0 com fp
 |[],a,h,_=>⟨.inr (by simp[wrsR]),h⟩
 |(s,y)::L,a,h,hL=>by
  obtain⟨h1,h2⟩:=hL _ qzt;obtain⟨hw1,hw2⟩:=h.kF s y h2 (fun h3=>absurd h1 (by show¬s<n.ku;omega));rw[wrsR];split
  .next hc=>
   have hO:=hw1.resolve_left (fun e=>e.1 hc);have ih:=Hs.wrs L hw2 (fun q hq=>hL q (qzs _ hq));rw[show(a.dev (writeR a.dF a.dO a.dP s y)).dF=a.dF from yv _ _ _ _ _]at ih;refine⟨ih.1.imp id (fun h=>?_),ih.2⟩;rw[show(a.dev (writeR a.dF a.dO a.dP s y)).dO=a.dO++[(s,y)]from hO.2]at h;rw[show(writeR a.dF a.dO a.dP s y).O=a.dO++[(s,y)]from hO.2,h];simp
  .next hc=>exact⟨.inl hc,hw2⟩
theorem Hs.ckpt(h:Hs n Z a E R f0 com fp)(hok:n.Ok)(ht:a.Tie n o):(a.ckpt n).1.Hi n Z:=by
 have hj:1<=n.jo:=by have:=hok.j1;omega
 unfold CaS.ckpt;split
 .exact h.fb.hi
 split
 .next hc=>
  rcases h.fb.flush hj with⟨-,f⟩|⟨-,f,-⟩
  .exact f.hi
  .exact f.hi
 next hc=>
 have hc0:(flushR a.fb.dF a.fb.dO a.fb.dP).cd=0:=qxq hc;obtain⟨-,f2,f3⟩:=h.fb.flush hj|>.resolve_left (fun e=>e.1 hc0)
 obtain⟨b,hb⟩:=qqe (a.fb.fd);have f2:Hs n Z b E R f0 com (b.next-1):=by rw[hb];exact f2
 have f3:b.dO=[]:=by rw[hb];exact f3
 have htb:b.Tie n o:=by rw[hb];exact ht
 rw[<-hb];obtain⟨L,hL⟩:=qqe (ckO (1+(1-b.which)*n.pa) n.pa (pagesB (b.next-1) (b.ents n)));have hs0:=n.kJ;have hwm:=Su n.pa f2.wh;have hLq:∀q∈L,q.1<n.ku/\OOk n b.which E R com (b.next-1) q:=fun q hq=>by
  rw[hL]at hq;obtain⟨i,hi,rfl⟩:=qzv.1 hq;have hi:=qzx.1 hi;refine⟨by show 1+(1-b.which)*n.pa+i<n.ku;omega,.inl ⟨i,hi,rfl,?_⟩⟩;show tH E (b.next-1) i ((pagesB (b.next-1) (b.ents n)).getD i zB);rw[<-f2.cur];exact vH (qXv _) i
 obtain⟨g1,g2⟩:=Hs.wrs L f2 hLq;have hsv:b.svR n=saveR b.dF b.dO b.dP L:=by rw[hL];rfl
 have hF:=tf b.dF L b.dO b.dP;have key:∃fp',Hs n Z (b.dev (b.svR n)) E R f0 com fp'/\((b.svR n).cd=0->fp'=b.next-1/\(b.svR n).O=[]/\(b.svR n).F=flushF b.dF L):=by
  rw[hsv];unfold saveR;split
  .next hw=>
   have hO0:=g1.resolve_left (fun e=>e hw);have hO:(wrsR b.dF L b.dO b.dP).O=L:=by rw[hO0,f3];rfl
   rcases g2.flush hj with⟨k1,k2⟩|⟨k1,k2,k3⟩
   .rw [show(b.dev (wrsR b.dF L b.dO b.dP)).dF=b.dF from hF]at k1 k2;exact⟨b.next-1,k2,fun e=>absurd e k1⟩
   .have ek:=Zl g2.pl k1;rw[show(b.dev (wrsR b.dF L b.dO b.dP)).dF=b.dF from hF]at k1 k2 k3 ek;refine⟨b.next-1,k2,fun _=>⟨rfl,k3,?_⟩⟩;have:=congrArg DRes.F ek;rw[show(b.dev (wrsR b.dF L b.dO b.dP)).dO=L from hO]at this;exact(congrArg (fun O=>(flushR b.dF O (wrsR b.dF L b.dO b.dP).P).F) hO).trans this
  .next hw=>exact⟨b.next-1,g2,fun e=>absurd e hw⟩
 obtain⟨fp',k1,k2⟩:=key;split
 .exact k1.hi
 next hc2=>
 obtain⟨rfl,e2,e3⟩:=k2 (qxq hc2);have c1:=f2.c1;have c2:=f2.c2;have c4:=f2.c4;have hz:=n.size_eq;have hlen:(flushF b.dF L).length=n.size:=by rw[zG];exact f2.dl
 have hbl:b.dF.length=n.size:=f2.dl;refine Hs.hi (E:=E) (R:=R) (f0:=f0) (com:=b.next-1) (fp:=b.next-1) ?_;exact{k1 with
  f1:=by show f0<=b.next-1;have:=f2.f1;omega
  c1:=qXv _
  c2:=by show b.next-1+0+1=b.next;omega
  c3:=qXv _
  c5:=by show b.next<=b.next-1+n.jo+1;omega
  wh:=by show 1-b.which<=1;omega
  wq:=fun i hi=>absurd hi (Nat.not_lt_zero _)
  o0:=fun q hq=>by
   replace hq:q∈(b.svR n).O:=hq;rw[e2]at hq;cases hq
  sd:=fun i hi=>by
   show(b.svR n).F.getD (1+(1-b.which)*n.pa+i) zB=(pagesB (b.next-1) (E (b.next-1))).getD i zB;rw[e3,hL,rT,if_pos ⟨oM,oM,oM⟩,f2.cur]
   congr 1
   omega
  so:=fun i hi=>by
   show tH E (b.next-1) i ((b.svR n).F.getD (1+(1-(1-b.which))*n.pa+i) zB);have hw2:1-(1-b.which)=b.which:=by have:=f2.wh;omega
   have:=k1.sd i hi;rw[hw2,show(b.svR n).F.getD (1+b.which*n.pa+i) zB=(pagesB b.cov (E b.cov)).getD i zB from this];exact vH oM i
  jw:=fun t t1 t2=>absurd t2 (by have t1:b.next-1<t:=t1;omega)
  sl:=fun t t1 t2 x hx=>by
   have t2:t<b.next:=t2;have:t=b.next-1:=oM;subst this;have hx':x∈b.ents n:=by rw[<-f2.cur];exact hx
   obtain⟨q1,q2⟩:=CaS.ents_live htb hx';refine⟨.inl ?_,(k1.sl (b.next-1) oM (by show b.next-1<b.next;omega) x hx).2⟩;show(freeTo b.st (pos b.st 3)).getD x.s 0=2;rw[tu _ _ (by rw[htb.hsl];exact q1),q2];rfl
  sf:=fun t t1 t2=>k1.sf t oM t2}
theorem CaS.Hi.ckpt(h:a.Hi n Z)(hok:n.Ok)(ht:a.Tie n o):(a.ckpt n).1.Hi n Z:=by obtain⟨E,R,f0,com,fp,h⟩:=h;exact h.ckpt hok ht
theorem CaS.Hi.j8(h:a.Hi n Z)(hok:n.Ok)(ht:a.Tie n o):(a.j8 n).1.Hi n Z:=by
 unfold CaS.j8;split
 .exact h
 .exact h.ckpt hok ht
theorem CaS.Hi.kh(h:a.Hi n Z)(hok:n.Ok)(ht:a.Tie n o):(a.kh n).1.Hi n Z:=by
 obtain⟨E,R,f0,com,fp,h⟩:=h;obtain⟨com',fp',h2,h3⟩:=h.fb.cm oP;unfold CaS.kh;split
 .exact h.fb.hi
 split
 .exact h2.hi
 .next hc=>
  obtain⟨e1,-,-⟩:=h3 (qxq hc);exact(h2.freed (o:=o) e1 ht).hi
theorem CaS.Hi.turn(h:a.Hi n Z)(st:List Int)(hs:∀s,a.st.getD s 0=2\/a.st.getD s 0=3->st.getD s 0=2\/st.getD s 0=3):({a with st:=st}:CaS).Hi n Z:=by
 obtain⟨E,R,f0,com,fp,h⟩:=h;exact(h.turn st hs).hi
theorem CaS.Hi.ev(h:a.Hi n Z):(a.ev n).Hi n Z:=by
 obtain⟨E,R,f0,com,fp,h⟩:=h;exact Hs.hi (E:=E) (R:=R) (f0:=f0) (com:=com) (fp:=fp) {h with}
theorem Sv(f:Int->Option EI)(next jo:Nat)(op k s:Int)(d:Bool)(sum:Int):apR f (jaddX next jo op k s d sum)=fun x=>if x=k then(if op=0 then some ⟨k,s,d,sum⟩else none)else f x:=by
 funext x
 cases d<;>rfl
theorem Sw(next jo:Nat)(op k s:Int)(d:Bool)(sum:Int):(jaddX next jo op k s d sum).length=7/\(jaddX next jo op k s d sum).getD 0 0=(next:Int)/\(jaddX next jo op k s d sum).getD 1 0=(((next-1)/jo:Nat):Int):=⟨rfl,rfl,rfl⟩
end
section
variable{n:CaN}{Z:Nat->Bk}{a b:CaS}{E:Nat->List Ent}{R:Nat->List Int}{f0 com fp N:Nat}{o o':Option Nat}
theorem zaI(hl:a.ps.length=n.bl){m:Nat}(hm:m<n.bl){v:Int×Bool}(hps:b.ps=a.ps.set m v)(hsm:∀s:Int,s≠(m:Int)->b.sums s=a.sums s)(s:Int):
  b.mp n s=if s=(m:Int)then(if v=(-1,false)then none else some ⟨(m:Int),v.1,v.2,((b.sums (m:Int)).getD 0:Nat)⟩)else a.mp n s:=by
 have hp:∀j,plc b.ps j=if j=m then v else plc a.ps j:=fun j=>by rw[hps,vD _ _ _ _ (by rw[hl];exact hm)]
 unfold CaS.mp;by_cases hs:s=(m:Int)
 .subst hs;rw[if_pos rfl,hp,qxu,if_pos rfl];by_cases hv:v=(-1,false)
  .rw [if_pos hv,if_neg (fun h=>h.2.2 hv)]
  .rw [if_neg hv,if_pos ⟨oM,oM,hv⟩]
 .rw [if_neg hs];by_cases h0:0<=s
  .have:s.toNat≠m:=fun e=>hs oM;rw[hp,if_neg this,hsm s hs]
  .rw [if_neg (fun h=>h0 h.1),if_neg (fun h=>h0 h.1)]
theorem ents_set(hl:a.ps.length=n.bl){m:Nat}(hm:m<n.bl){v:Int×Bool}(hps:b.ps=a.ps.set m v)(hsm:∀s:Int,s≠(m:Int)->b.sums s=a.sums s){x:Ent}(hx:x∈b.ents n):
  x∈a.ents n\/(v≠(-1,false)/\x=⟨m,v.1.toNat,v.2,(b.sums (m:Int)).getD 0⟩):=by
 have hp:∀j,plc b.ps j=if j=m then v else plc a.ps j:=fun j=>by rw[hps,vD _ _ _ _ (by rw[hl];exact hm)]
 obtain⟨k,hk,hn,rfl⟩:=(CaS.kI (by rw[hps,qzj];exact hl)).1 hx;by_cases e:k=m
 .subst e;rw[hp,if_pos rfl]at hn⊢;exact .inr ⟨hn,rfl⟩
 .rw [hp,if_neg e]at hn⊢;rw[hsm _ (fun h=>e oM)];exact .inl ((CaS.kI hl).2 ⟨k,hk,hn,rfl⟩)
theorem Hs.noteSet(h:Hs n Z a E R f0 com fp)(ht:a.Tie n o)(b:CaS)(htb:b.Tie n o')(hsb:∀k v,b.sums k=some v->v<=4294967295){m:Nat}(hm:m<n.bl)(v:Int×Bool)(op s:Int)(d:Bool)(sum:Int)
  (hop:(op=0/\v=(s,d)/\v≠(-1,false)/\((b.sums (m:Int)).getD 0:Int)=sum)\/(op=1/\v=(-1,false))) (hd:b.dF=a.dF/\b.dO=a.dO/\b.dP=a.dP)
  (hc:b.cov=a.cov/\b.which=a.which/\b.next=a.next+1/\b.W=a.W++[(a.next,sectR (jaddX a.next n.jo op (m:Int) s d sum))]) (hmay:mayR (jaddX a.next n.jo op (m:Int) s d sum)=true) (hr:a.next<=a.cov+n.jo)
  (hs:∀s,a.st.getD s 0=2\/a.st.getD s 0=3->b.st.getD s 0=2\/b.st.getD s 0=3) (hps:b.ps=a.ps.set m v) (hsm:∀s:Int,s≠(m:Int)->b.sums s=a.sums s)
  (hcr:v≠(-1,false)->crcC (curB a.dF a.dO (n.ku+v.1.toNat))=(b.sums (m:Int)).getD 0):b.Hi n Z:=by
 obtain⟨j1,j2,j3⟩:=Sw a.next n.jo op (m:Int) s d sum;have c2:=h.c2;refine(h.note b (jaddX a.next n.jo op (m:Int) s d sum) hd hc ⟨j1,hmay,j2,j3⟩ ?_ (CaS.ents_enok htb hsb) hr hs (fun x hx=>⟨.inl (CaS.ents_live htb hx).2,?_⟩)).hi
 .rw [CaS.ents_mp htb,CaS.ents_mp ht,Sv]
  funext x
  rw[zaI ht.hpl hm hps hsm x];split
  .rcases hop with⟨rfl,rfl,hv,e⟩|⟨rfl,rfl⟩
   .rw [if_neg hv,if_pos rfl,<-e]
   .rw [if_pos rfl,if_neg de]
  .rfl
 .rcases ents_set ht.hpl hm hps hsm hx with hx|⟨hv,rfl⟩
  .exact (h.sl (a.next-1) oM oM x (by rw[h.cur];exact hx)).2
  .exact hcr hv
theorem Hs.n1(h:Hs n Z a E R f0 com fp):1<=a.next:=by have:=h.c2;omega
theorem CaS.Hi.n1(h:a.Hi n Z):1<=a.next:=by obtain⟨E,R,f0,com,fp,h⟩:=h;exact h.n1
theorem CaS.Hi.leave(h:a.Hi n Z)(hok:n.Ok)(ht:a.Tie n o)(hf:a.Fit N)(hN:N<=1000000){k:Int}(hg:getC a.ps k=0)(hr:a.next<=a.cov+n.jo)(b:CaS)(htb:b.Tie n o')
  (hb:b.dF=a.dF/\b.dO=a.dO/\b.dP=a.dP) (hc:b.cov=a.cov/\b.which=a.which/\b.next=a.next+1/\b.W=a.W++[(a.next,sectR (jaddX a.next n.jo 1 k 0 false 0))]) (hps:b.ps=dropL a.ps k) (hsu:b.sums=upd1 a.sums k none) (hst:b.st=turnList a.st (getV a.ps k).1 3):b.Hi n Z:=by
 have h1:=h.n1;obtain⟨E,R,f0,com,fp,h⟩:=h;obtain⟨m,hm,rfl,hn⟩:=zX.1 hg;rw[ht.hpl]at hm;have hb2:=hok.b2;refine h.noteSet ht b htb (fun x v hv=>?_) hm (-1,false) 1 0 false 0 (.inr ⟨rfl,rfl⟩) hb hc (tt h1 jU oP ⟨oM,oM⟩) hr (fun s hs=>by rw[hst];exact wG _ _ s hs) ?_ (fun s hs=>?_) (fun e=>absurd rfl e)
 .rw [hsu]at hv;simp only[upd1]at hv;split at hv
  .cases hv
  .exact hf.sm x v hv
 .rw [hps];unfold dropL;rw[if_pos hg,qxu]
 .rw [hsu];simp only[upd1];rw[if_neg hs]
theorem CaS.Hi.kq:∀(m g:Nat) {a:CaS} {N:Nat},a.Hi n Z->n.Ok->a.Tie n o->a.Fit N->N+m*(n.pa+1)<=1000000->(CaS.kq n m g a).1.Hi n Z
 |0,g,a,N,h,_,_,_,_=>h
 |m+1,g,a,N,h,hok,ht,hf,hN=>by
  have hr:=h.j8 hok ht;have htr:=CaS.Tie.j8 ht;have hfr:=hf.j8 (n:=n);have h1:=h.n1;have hnx:=(a.j9 n).1;have hmul:(m+1)*(n.pa+1)=m*(n.pa+1)+(n.pa+1):=Nat.succ_mul _ _;simp only[CaS.kq];split
  .exact h
  split
  .exact hr
  next hc0=>
  split
  .exact hr.ev
  .next hc=>
   obtain⟨h2,h3,h4⟩:=CaS.Tie.evLeft htr (qxq hc);have hroom:=CaS.kC (qxq hc0) h1 hok.j1;have hlv:(((a.j8 n).1.ev n).left n ((a.j8 n).1.evK n)).Hi n Z:=hr.leave hok htr hfr oM h2 oM _ h4 ⟨rfl,rfl,rfl⟩ ⟨rfl,rfl,rfl,rfl⟩ rfl rfl rfl;rw[if_neg (fun e=>e h3)];refine CaS.Hi.kq m (g+1) hlv hok h4 (N:=N+n.pa+1) ?_ oM;exact(CaS.Fit.ev (n:=n) hfr).left ju _
theorem ED(st:List Int)(s:Nat)(h:st.getD s 0=2\/st.getD s 0=3):(allocList st).getD s 0=2\/(allocList st).getD s 0=3:=by
 unfold allocList;rw[yh];split
 .next e=>
  have:=rH e.2;rw[e.1]at this;omega
 .exact h
theorem CaS.Hi.al(h:a.Hi n Z):a.al.Hi n Z:=h.turn _ (ED a.st)
theorem CaS.Hi.kE(h:a.Hi n Z)(hok:n.Ok)(ht:a.Tie n o)(s:Int):(a.kE n s).1.Hi n Z:=by
 have hr:=h.j8 hok ht;unfold CaS.kE;split
 .exact hr
 .exact hr.turn _ (fun r hr=>wG _ _ r hr)
theorem CaS.Hi.kG(h:a.Hi n Z)(hok:n.Ok)(ht:a.Tie n none):(a.kG n).1.Hi n Z:=by
 have hc:=h.kh hok ht;have htc:=CaS.Tie.kh ht;unfold CaS.kG CaS.take3;split
 .exact h
 split
 .exact hc
 split
 .exact hc.al
 .next hc2=>
  obtain⟨s,-,-,-,h4⟩:=TieL.alloc htc (qxq hc2);exact hc.al.kE hok (o:=some s) h4 _
theorem CaS.Hi.kj(h:a.Hi n Z)(hok:n.Ok)(ht:a.Tie n none)(hf:a.Fit N)(hN:N+n.pa+1<=1000000):(a.kj n).1.Hi n Z:=by
 unfold CaS.kj;split
 .next hc=>
  obtain⟨s,-,-,-,h4⟩:=TieL.alloc ht hc;exact h.al.kE hok (o:=some s) h4 _
 .next hc=>
  have hta:a.al.Tie n none:=by show TieL n.bl n.sl a.ps (allocList a.st) a.K none;rw[ub hc];exact ht
  unfold CaS.take1;split
  .have he:=CaS.Hi.kq 1 0 h.al hok hta hf.al oM;split
   .exact he
   .exact he.kG hok (CaS.Tie.kq 1 0 hta)
  .exact h.al.kG hok hta
theorem CaS.Hi.kp(h:a.Hi n Z){s:Nat}(ht:a.Tie n (some s))(blk:Int)(x:Bk):(a.kp n s blk x).1.Hi n Z/\((a.kp n s blk x).2=0->curB (a.kp n s blk x).1.dF (a.kp n s blk x).1.dO (n.ku+s)=x):=by
 obtain⟨E,R,f0,com,fp,h⟩:=h;have hs:=ht.olt s rfl;have h1:=(ht.opn s hs).2 rfl;have hG:Hs n Z {a with G:=sy a.G s blk} E R f0 com fp:={h with}
 obtain⟨hw1,hw2⟩:=hG.kF (n.ku+s) x (.inr (.inr (qXu _ _))) (fun _ t t1 t2 y hy e=>by
  have:=(h.sl t t1 t2 y hy).1;have e:y.s=s:=oM;rw[e,h1]at this;omega)
 unfold CaS.kp;split
 .next hc=>
  refine⟨hw2.hi,fun _=>?_⟩;have hO:=hw1.resolve_left (fun e=>e.1 hc);show curB (writeR a.dF a.dO a.dP (n.ku+s) x).F (writeR a.dF a.dO a.dP (n.ku+s) x).O _=x;rw[yv,show(writeR a.dF a.dO a.dP (n.ku+s) x).O=_ from hO.2,tx,if_pos ⟨rfl,by rw[h.dl,n.size_eq];omega⟩]
 .next hc=>
  refine⟨hw2.hi.turn _ (fun r hr=>?_),fun e=>absurd e hc⟩;have hr:a.st.getD r 0=2\/a.st.getD r 0=3:=hr;show(turnList a.st (s:Int) 4).getD r 0=2\/(turnList a.st (s:Int) 4).getD r 0=3;unfold turnList;split
  .rw [yh];split
   .next e=>rw[<-e.1,qxu,h1]at hr;omega
   .exact hr
  .exact hr
theorem CaS.Hi.kw(h:a.Hi n Z)(hok:n.Ok){s k:Nat}(ht:a.Tie n (some s))(hf:a.Fit N)(hN:N<=1000000)(hk:k<n.bl)(x:Bk)(d:Bool)(hx:curB a.dF a.dO (n.ku+s)=x)(hr:a.next<=a.cov+n.jo):(a.kw n (k:Int) s (crcC x) d).1.Hi n Z:=by
 have h1:=h.n1;obtain⟨E,R,f0,com,fp,h⟩:=h;obtain⟨hp1,-,hp3⟩:=CaS.Tie.put ht hk (crcC x) d;have hs:=ht.olt s rfl;have hst:=(ht.opn s hs).2 rfl;have hb2:=hok.b2;have hs2:=hok.s2;have hcr:=vq x;obtain⟨b,hb⟩:=qqe ((a.kw n (k:Int) s (crcC x) d).1);have hfit:b.Fit (N+1):=by rw[hb];exact hf.kw h1 (k:Int) s (crcC x) d oM
 have hsu:b.sums=upd1 a.sums (k:Int) (some (crcC x)):=by rw[hb];unfold CaS.kw;split<;>rfl
 have hps:b.ps=a.ps.set k ((s:Int),d):=by
  have:b.ps=putL a.ps n.sl (k:Int) (s:Int) d:=by rw[hb];unfold CaS.kw;split<;>rfl
  rw[this];unfold putL;rw[if_pos hp1,qxu]
 have hstk:∀r,a.st.getD r 0=2\/a.st.getD r 0=3->b.st.getD r 0=2\/b.st.getD r 0=3:=by
  have t2:∀r,a.st.getD r 0=2\/a.st.getD r 0=3->(turnList a.st (s:Int) 2).getD r 0=2\/(turnList a.st (s:Int) 2).getD r 0=3:=fun r hr=>by
   unfold turnList;split
   .rw [yh];split
    .exact .inl rfl
    .exact hr
   .exact hr
  intro r hr;rw[hb];unfold CaS.kw;split
  .exact t2 r hr
  .exact wG _ _ r (t2 r hr)
 rw[<-hb]at hp3⊢;have hbn:(b.sums (k:Int)).getD 0=crcC x:=by rw[hsu];simp only[upd1,if_true];rfl
 refine h.noteSet ht b hp3 hfit.sm hk ((s:Int),d) 0 (s:Int) d (crcC x:Nat) (.inl ⟨rfl,rfl,fun e=>by have:=congrArg Prod.fst e;simp only at this;omega,by rw[hbn]⟩) ?_ ?_ (vh d h1 jU oP ⟨oM,oM⟩ oM oM) hr hstk hps (fun z hz=>?_) (fun _=>?_)
 .rw [hb];unfold CaS.kw;split<;>exact⟨rfl,rfl,rfl⟩
 .rw [hb];unfold CaS.kw;split<;>exact⟨rfl,rfl,rfl,rfl⟩
 .rw [hsu];simp only[upd1];rw[if_neg hz]
 .rw [hbn,<-hx];rfl
theorem CaS.Hi.byp(h:a.Hi n Z)(hok:n.Ok)(ht:a.Tie n o)(hf:a.Fit N)(hN:N<=1000000)(hr:a.next<=a.cov+n.jo)(k:Nat):(a.byp n k).Hi n Z:=by
 unfold CaS.byp;split
 .next hg=>exact h.leave hok ht hf hN hg hr _ (CaS.Tie.kM ht hg).2.2 ⟨rfl,rfl,rfl⟩ ⟨rfl,rfl,rfl,rfl⟩ rfl rfl rfl
 .exact h
theorem CaS.Hi.ko(h:a.Hi n Z)(hok:n.Ok)(ht:a.Tie n none)(hf:a.Fit N)(hN:N+n.pa+1<=1000000)(k:Nat)(x:Bk):(a.ko n k x).1.Hi n Z:=by
 have hr:=h.j8 hok ht;have htr:=CaS.Tie.j8 ht;have hfr:=(hf.j8 (n:=n)).bw k x;unfold CaS.ko;split
 .exact hr
 next hc=>
 split
 .exact hr.kz _
 .have hroom:=CaS.kC (qxq hc) h.n1 hok.j1;exact(hr.kz _).byp hok (o:=none) htr hfr oM jh k
theorem CaS.Hi.kD(h:a.Hi n Z)(hok:n.Ok)(ht:a.Tie n none)(hg:a.Jg n)(hf:a.Fit N)(hN:N+3*n.pa+n.jo+6<=1000000){k:Nat}(hk:k<n.bl)(x:Bk):(a.kD n k x).1.Hi n Z:=by
 have hj:=hok.j1;have h1:=h.n1;have h2:=h.kj hok ht hf oM;have hft:=hf.takes' hg h1 hj;unfold CaS.kD;rcases CaS.Tie.kj ht h1 hj with⟨q1,q2,q3,s,q4,q5⟩|⟨q1,q5⟩
 .rw [if_neg oM,if_neg (by rw[q1];decide),q4,qxu];obtain⟨f1,f2⟩:=h2.kp q5 (k:Int) x;unfold CaS.backS;split
  .exact f1
  .next hc=>
   have hc:=qxq hc;obtain⟨-,t2⟩:=(CaS.Tie.kp q5 (k:Int) x).resolve_right (fun e=>e.1 hc);obtain⟨n1,n2⟩:=yL n (a.kj n).1 s (k:Int) x;exact f1.kw hok t2 (hft.kp s (k:Int) x) oM hk x true (f2 hc) (by rw[n1,n2];omega)
 .split
  .exact h2
  .first
   |exact h2.ko hok q5 hft oM k x
   |(rw[if_pos q1];exact h2.ko hok q5 hft oM k x)
theorem CaS.Hi.thru(h:a.Hi n Z)(hok:n.Ok)(ht:a.Tie n none)(hg:a.Jg n)(hf:a.Fit N)(hN:N+3*n.pa+n.jo+6<=1000000){k:Nat}(hk:k<n.bl)(x:Bk):(a.thru n k x).1.Hi n Z:=by
 have hj:=hok.j1;have h1:=h.n1;have h2:=h.kj hok ht hf oM;have hft:=hf.takes' hg h1 hj;unfold CaS.thru;rcases CaS.Tie.kj ht h1 hj with⟨q1,q2,q3,s,q4,q5⟩|⟨q1,q5⟩
 .rw [if_neg oM,if_neg (by rw[q1];decide),q4,qxu];obtain⟨b,hb⟩:=qqe ((a.kj n).1.kz (writeR (a.kj n).1.bF (a.kj n).1.bO (a.kj n).1.bP k x));have hB:b.Hi n Z:=by rw[hb];exact h2.kz _
  have tB:b.Tie n (some s):=by rw[hb];exact q5
  have fB:b.Fit (N+2*n.pa+n.jo+1+1):=by rw[hb];exact hft.bw k x
  have nB:b.next+1<=b.cov+n.jo:=by rw[hb];exact q3
  obtain⟨f1,f2⟩:=hB.kp tB (k:Int) x;unfold CaS.thruS CaS.thruF;rw[<-hb];split
  .refine hB.turn _ (fun r hr=>?_);rw[show(a.kj n).1.st=b.st by rw[hb]];exact wG _ _ r hr
  obtain⟨n1,n2⟩:=yL n b s (k:Int) x;split
  .next hc=>
   obtain⟨-,t2⟩:=(CaS.Tie.kp tB (k:Int) x).resolve_left (fun e=>hc e.1);exact f1.byp hok t2 (fB.kp s (k:Int) x) oM (by rw[n1,n2];omega) k
  .next hc=>
   have hc:=qxq hc;obtain⟨-,t2⟩:=(CaS.Tie.kp tB (k:Int) x).resolve_right (fun e=>e.1 hc);exact f1.kw hok t2 (fB.kp s (k:Int) x) oM hk x false (f2 hc) (by rw[n1,n2];omega)
 .split
  .exact h2
  .first
   |exact h2.ko hok q5 hft oM k x
   |(rw[if_pos q1];exact h2.ko hok q5 hft oM k x)
theorem CaS.Hi.kx(h:a.Hi n Z)(hok:n.Ok)(ht:a.Tie n none)(hf:a.Fit N)(hN:N+n.pa+1<=1000000)(k:Int):(a.kx n k).1.Hi n Z:=by
 have hr:=h.j8 hok ht;have htr:=CaS.Tie.j8 ht;have hfr:=hf.j8 (n:=n);have h1:=h.n1;obtain⟨hn1,hn2⟩:=a.j9 n;have hsu:=(a.same_roomed n).sums;have htc:=TieL.clean htr k;unfold CaS.kx;split
 .exact h
 next hg=>
 split
 .exact hr
 next hc=>
 have hg:=qxq hg;have hroom:=CaS.kC (qxq hc) h1 hok.j1;obtain⟨m,hm,rfl,hn⟩:=zX.1 hg;obtain⟨E,R,f0,com,fp,hs⟩:=hr;have hmb:m<n.bl:=by rw[<-ht.hpl];exact hm
 obtain⟨s,hsl,he,-⟩:=ht.slot hmb hn;have hb2:=hok.b2;have hs2:=hok.s2;rw[xq hm hn,he];have hsum:(a.sums (m:Int)).getD 0<=4294967295:=by
  cases hq:a.sums (m:Int)with
  |none=>simp
  |some v=>exact hf.sm _ _ hq
 rw[hn2]at htc;refine hs.noteSet (o':=none) htr _ htc hfr.sm hmb ((s:Int),false) 0 (s:Int) false ((a.sums (m:Int)).getD 0:Nat) (.inl ⟨rfl,rfl,fun e=>by have:=congrArg Prod.fst e;simp only at this;omega,?_⟩) ⟨rfl,rfl,rfl⟩ ⟨rfl,rfl,rfl,rfl⟩ (vh false hs.n1 (by have:=hfr.nx;omega) oP ⟨oM,oM⟩ oM hsum) oM (fun r hr=>hr) ?_ (fun _ _=>rfl) (fun _=>?_)
 .show (((a.j8 n).1.sums (m:Int)).getD 0:Int)=_;rw[hsu]
 .show cleanL a.ps (m:Int)=(a.j8 n).1.ps.set m _;unfold cleanL;rw[if_pos hg,xq hm hn,he,hn2,qxu]
 .show crcC (curB (a.j8 n).1.dF (a.j8 n).1.dO (n.ku+s))=((a.j8 n).1.sums (m:Int)).getD 0;have c2:=hs.c2;refine(hs.sl ((a.j8 n).1.next-1) oM oM ⟨m,s,(plc a.ps m).2,((a.j8 n).1.sums (m:Int)).getD 0⟩ ?_).2;rw[hs.cur];refine(CaS.kI htr.hpl).2 ⟨m,hmb,by rw[hn2];exact hn,?_⟩;rw[hn2,he,qxu]
theorem CaS.Hi.kt(h:a.Hi n Z)(k:Int):(a.kt n k).1.Hi n Z:=by
 rcases a.readB_eq n k with e|e|e<;>rw[e]
 .exact h
 .obtain ⟨E,R,f0,com,fp,h⟩:=h;exact Hs.hi (E:=E) (R:=R) (f0:=f0) (com:=com) (fp:=fp) {h with}
 .obtain ⟨E,R,f0,com,fp,h⟩:=h;exact h.tail.hi
theorem CaS.Hi.ky(h:a.Hi n Z)(hok:n.Ok)(hg:a.Gd n N)(hN:N+n.pa+2<=1000000)(k:Int):(a.ky n k).1.Hi n Z:=by
 have h1:=h.kt k;have g1:=hg.kt k;have h2:CaS.Tie n ((a.kt n k).1.kz (writeR (a.kt n k).1.bF (a.kt n k).1.bO (a.kt n k).1.bP k.toNat (a.kt n k).2.1)).fb none:=g1.tie;have f2:=(g1.fit.bw k.toNat (a.kt n k).2.1).fb;unfold CaS.ky CaS.kO CaS.back14f;split
 .exact h
 split
 .exact h1
 split
 .exact h1.kz _
 split
 .exact (h1.kz _).kz _
 .exact ((h1.kz _).kz _).kx hok h2 f2 oM k
theorem CaS.Hi.does14(h:a.Hi n Z)(hok:n.Ok)(hg:a.Gd n N)(hj:a.Jg n)(hN:N+3*n.pa+n.jo+6<=1000000)(dd blk:Int)(nv:Nat)(md:Int):(a.does14 n dd blk nv md).1.Hi n Z:=by
 have hmm:nv%4*(n.pa+1)<=3*(n.pa+1):=qYb _ oM;unfold CaS.does14;split
 .unfold CaS.kF;split
  .exact h
  split
  .exact h
  split
  .exact h.kD hok hg.tie hj hg.fit hN oM _
  split
  .exact h.thru hok hg.tie hj hg.fit hN oM _
  .exact h.ko hok hg.tie hg.fit oM _ _
 split
 .unfold CaS.gone;split
  .exact h
  .exact h.ko hok hg.tie hg.fit oM _ _
 split
 .exact h.kt blk
 split
 .exact h.kh hok hg.tie
 split
 .exact h.ckpt hok hg.tie
 split
 .exact CaS.Hi.kq _ 0 h hok hg.tie hg.fit oM
 split
 .exact h.ky hok hg oM blk
 split
 .obtain ⟨E,R,f0,com,fp,h⟩:=h;unfold CaS.plan14;split
  .refine Hs.hi (E:=E) (R:=R) (f0:=f0) (com:=com) (fp:=fp) {h with pl:=fun x hx=>?_};replace hx:x∈a.dP++[((nv%2:Nat):Int)]:=hx;rcases qzq.1 hx with hx|hx
   .exact h.pl x hx
   .rw [qzy.1 hx];omega
  .exact Hs.hi (E:=E) (R:=R) (f0:=f0) (com:=com) (fp:=fp) {h with}
 .exact h
end
end
end Go.Proofs.YtfhfbpmlnjdfoaaGreatDoor
