/- The keys of a -/
import Derived.Test.YtfhfbpmlnjdfoaaGreatDoorG28
import Derived.Test.YtfhfbpmlnjdfoaaGreatDoorG36
namespace Go.Proofs.YtfhfbpmlnjdfoaaGreatDoor
open Go Go.RowKit Go.Shelf Tryz
attribute [local go_sem] qYh
end Go.Proofs.YtfhfbpmlnjdfoaaGreatDoor
namespace Go.Proofs.YtfhfbpmlnjdfoaaGreatDoor
open Go Go.RowKit Tryz
section
variable{n:CaN}{a:CaS}
theorem Ek(F:List Bk)(L:List (Nat×Bk)):∀O,wrsR F L O []=⟨F,O++L,[],0⟩:=by
 induction L with
 |nil=>intro O;simp[wrsR]
 |cons x L ih=>intro O;rw[wrsR,WQ];dsimp only;rw[if_pos rfl,ih];simp
theorem El(F:List Bk)(O L:List (Nat×Bk)):saveR F O [] L=⟨flushF F (O++L),[],[],0⟩:=by
 unfold saveR;rw[Ek,if_pos rfl,WP]
theorem CaS.NoP.ckpt_eq(h:a.NoP):a.ckpt n=({a with bF:=flushF a.bF a.bO,bO:=[],bP:=[],dF:=flushF (flushF a.dF a.dO) (ckO (1+(1-a.which)*n.pa) n.pa (pagesB (a.next-1) (a.ents n))),dO:=[],dP:=[],which:=1-a.which,cov:=a.next-1,W:=[],st:=freeTo a.st (pos a.st 3)},0):=by
 obtain⟨h1,h2⟩:=h;have e1:flushR a.bF a.bO a.bP=⟨flushF a.bF a.bO,[],[],0⟩:=by rw[h2];rfl
 have e2:flushR a.fb.dF a.fb.dO a.fb.dP=⟨flushF a.dF a.dO,[],[],0⟩:=by show flushR a.dF a.dO a.dP=_;rw[h1];rfl
 have e3:a.fb.fd.svR n=⟨flushF (flushF a.dF a.dO) (ckO (1+(1-a.which)*n.pa) n.pa (pagesB (a.next-1) (a.ents n))),[],[],0⟩:=by
  have:a.fb.fd.svR n=saveR (flushR a.dF a.dO a.dP).F (flushR a.dF a.dO a.dP).O (flushR a.dF a.dO a.dP).P (ckO (1+(1-a.which)*n.pa) n.pa (pagesB (a.next-1) (a.ents n))):=rfl;rw[this,h1];exact El _ _ _
 unfold CaS.ckpt;rw[if_neg (by rw[e1];exact fun h=>h rfl),if_neg (by rw[e2];exact fun h=>h rfl),if_neg (by rw[e3];exact fun h=>h rfl)];refine Prod.ext ?_ rfl;show a.fb.fd.ckd n=_;unfold CaS.ckd;rw[e3];show({a.fb.fd with dF:=_,dO:=_,dP:=_,which:=_,cov:=_,W:=_,st:=_}:CaS)=_;have e4:a.fb.fd={a with bF:=flushF a.bF a.bO,bO:=[],bP:=[],dF:=flushF a.dF a.dO,dO:=[],dP:=[]}:=by
  unfold CaS.fd CaS.fb;rw[e1];show({a with bF:=_,bO:=_,bP:=_,dF:=(flushR a.dF a.dO a.dP).F,dO:=(flushR a.dF a.dO a.dP).O,dP:=(flushR a.dF a.dO a.dP).P}:CaS)=_;rw[h1];rfl
 rw[e4]
end
theorem tm(A:List Bk)(base:Nat)(B:List Bk):∀k s,(flushF A (ckO base k B))[s]?=if base<=s/\s<base+k/\s<A.length then some (B.getD (s-base) zB)else A[s]?
 |0,s=>by rw[if_neg (by omega)];rfl
 |k+1,s=>by
  rw[Qn,xz,qyt,tm A base B k s,zC];show(if base+k=s then(if base+k<A.length then some (B.getD k zB)else none)else _)=_;by_cases h:base+k=s
  .subst h;rw[if_pos rfl];by_cases hl:base+k<A.length
   .rw [if_pos hl,if_pos (by omega),Nat.add_sub_cancel_left]
   .rw [if_neg hl,if_neg (by omega),qyo (by omega)]
  .rw [if_neg h];by_cases h1:base<=s/\s<base+k/\s<A.length
   .rw [if_pos h1,if_pos (by omega)]
   .rw [if_neg h1,if_neg (by omega)]
theorem uF(F:List Bk)(O:List (Nat×Bk))(base m i:Nat)(h:i<m):(secsOf F O base m).getD i zB=curB F O (base+i):=by
 unfold secsOf;rw[qyh,qyq,qyr h];rfl
theorem wX(A:List Bk)(base:Nat)(B:List Bk)(k s:Nat):(flushF A (ckO base k B)).getD s zB=if base<=s/\s<base+k/\s<A.length then B.getD (s-base) zB else A.getD s zB:=by
 rw[qyh,tm];split
 .rfl
 .rw [qyh]
section
variable{n:CaN}{a:CaS}
theorem Sh{k m:Nat}(h:k<=m):needN k<=needN m:=by unfold needN;omega
end
theorem tn{P:Nat->Bk->Prop}:∀(O:List (Nat×Bk)) (F:List Bk),(∀s,s<F.length->P s (F.getD s zB))->(∀q∈O,P q.1 q.2)->∀s,s<F.length->P s ((flushF F O).getD s zB)
 |[],_,hF,_=>hF
 |q::O,F,hF,hO=>fun s hs=>by
  have h1:∀s,s<(F.set q.1 q.2).length->P s ((F.set q.1 q.2).getD s zB):=fun s hs=>by
   rw[yh];split
   .next h=>rw[<-h.1];exact hO q qzt
   .exact hF s (by simpa using hs)
  exact tn O (F.set q.1 q.2) h1 (fun q hq=>hO q (qzs _ hq)) s (by simpa using hs)
theorem rJ{F:List Bk}{O:List (Nat×Bk)}{s:Nat}(h:∀q∈O,q.1≠s):(flushF F O).getD s zB=F.getD s zB:=by
 rw[qyh,tu h,qyh]
theorem Ze{y:Bk}{s:Nat}:∀(O:List (Nat×Bk)) (F:List Bk),(∃q∈O,q.1=s)->(∀q∈O,q.1=s->q.2=y)->s<F.length->(flushF F O).getD s zB=y
 |[],_,h,_,_=>by obtain⟨q,hq,-⟩:=h;cases hq
 |q::O,F,h,h2,hs=>by
  show(flushF (F.set q.1 q.2) O).getD s zB=y;by_cases hO:∃q∈O,q.1=s
  .exact Ze O _ hO (fun q hq=>h2 q (qzs _ hq)) (by simpa using hs)
  .have hq:q.1=s:=by
    obtain⟨r,hr,e⟩:=h;rcases qzr.1 hr with rfl|hr
    .exact e
    .exact absurd ⟨r,hr,e⟩ hO
   rw[rJ (fun r hr e=>hO ⟨r,hr,e⟩),yh,if_pos ⟨hq,by rw[hq];exact hs⟩];exact h2 q qzt hq
def EnOk(n:CaN)(L:List Ent):Prop:=(∀x∈L,x.b<n.bl/\x.s<n.sl/\x.m<=4294967295)/\(L.map (·.s)).Nodup/\L.Pairwise (fun x y=>x.b<y.b)
def tV(E:Nat->List Ent)(top i:Nat)(y:Bk):Prop:=okP y=false\/∃s,s<=top/\i<needN (E s).length/\y=sectP (pageXs s (needN (E s).length) (E s) i)
def EN(jo:Nat)(R:Nat->List Int)(f0 top j:Nat)(y:Bk):Prop:=y=zB\/∃t,f0<t/\t<=top/\(t-1)%jo=j/\y=sectR (R t)
theorem tV.mono{E:Nat->List Ent}{top top' i:Nat}{y:Bk}(h:tV E top i y)(ht:top<=top'):tV E top' i y:=h.imp (fun h=>h) (fun⟨s,h1,h2⟩=>⟨s,qXx h1 ht,h2⟩)
theorem EN.mono{jo f0 top top' j:Nat}{R:Nat->List Int}{y:Bk}(h:EN jo R f0 top j y)(ht:top<=top'):EN jo R f0 top' j y:=h.imp (fun h=>h) (fun⟨t,h1,h2,h3⟩=>⟨t,h1,qXx h2 ht,h3⟩)
def enM(L:List Ent):Int->Option EI:=apM (L.map Ent.toI)
abbrev CaN.jb(n:CaN):Nat:=1+2*n.pa
def OOk(n:CaN)(wh:Nat)(E:Nat->List Ent)(R:Nat->List Int)(com fp:Nat)(q:Nat×Bk):Prop:=
 (∃i,i<n.pa/\q.1=1+(1-wh)*n.pa+i/\tV E fp i q.2)\/(∃t,com<t/\t<=fp/\q=(n.jb+(t-1)%n.jo,sectR (R t)))\/n.jq<=q.1
structure Hs(n:CaN)(Z:Nat->Bk)(a:CaS)(E:Nat->List Ent)(R:Nat->List Int)(f0 com fp:Nat):Prop where
 pl:Pl a.dP
 dl:a.dF.length=n.size
 f1:f0<=a.cov
 c1:a.cov<=com
 c2:com+a.W.length+1=a.next
 c3:com<=fp
 c4:fp+1<=a.next
 c5:a.next<=a.cov+n.jo+1
 wh:a.which<=1
 wq:∀i,i<a.W.length->a.W[i]?=some (com+1+i,sectR (R (com+1+i)))
 rc:∀t,f0<t->t<a.next->((R t).length=7/\mayR (R t)=true/\(R t).getD 0 0=(t:Int)/\(R t).getD 1 0=(((t-1)/n.jo:Nat):Int))/\enM (E t)=apR (enM (E (t-1))) (R t)
 en:∀t,t<a.next->EnOk n (E t)
 cur:E (a.next-1)=a.ents n
 fx:∀s,s=0\/(n.jb+n.jo<=s/\s<n.jq)->a.dF.getD s zB=Z s
 o0:∀q∈a.dO,OOk n a.which E R com fp q
 sd:∀i,i<n.pa->a.dF.getD (1+a.which*n.pa+i) zB=(pagesB a.cov (E a.cov)).getD i zB
 so:∀i,i<n.pa->tV E fp i (a.dF.getD (1+(1-a.which)*n.pa+i) zB)
 jr:∀j,j<n.jo->EN n.jo R f0 fp j (a.dF.getD (n.jb+j) zB)
 jw:∀t,a.cov<t->t<=com->a.dF.getD (n.jb+(t-1)%n.jo) zB=sectR (R t)
 sl:∀t,com<=t->t<a.next->∀x∈E t,(a.st.getD x.s 0=2\/a.st.getD x.s 0=3)/\crcC (curB a.dF a.dO (n.jq+x.s))=x.m
 sf:∀t,com<=t->t<=fp->∀x∈E t,crcC (a.dF.getD (n.jq+x.s) zB)=x.m
theorem CaN.jH(n:CaN):n.jq=1+2*n.pa+n.jo+n.lo+n.lo+n.lo:=rfl
theorem CaN.size_eq(n:CaN):n.size=n.jq+n.sl:=rfl
theorem mod_one{jo t t':Nat}(h:(t-1)%jo=(t'-1)%jo)(h1:t<t')(h2:t'<t+jo)(h0:1<=t):False:=by
 have e1:=Nat.div_add_mod (t-1) jo;have e2:=Nat.div_add_mod (t'-1) jo;rcases Nat.lt_or_ge ((t-1)/jo) ((t'-1)/jo)with hl|hl
 .have:=Nat.mul_le_mul_left jo (Nat.succ_le_of_lt hl);rw[Nat.mul_succ]at this;omega
 .have:=Nat.mul_le_mul_left jo hl;omega
section
variable{n:CaN}{Z:Nat->Bk}{a b:CaS}{E:Nat->List Ent}{R:Nat->List Int}{f0 com fp:Nat}
theorem Zf(m:Nat){k:Nat}(h:k<=1):k*m=0/\(1-k)*m=m\/k*m=m/\(1-k)*m=0:=by
 rcases(show k=0\/k=1 by omega)with rfl|rfl
 .left;simp
 .right;simp
theorem Hs.tail(h:Hs n Z a E R f0 com fp):Hs n Z {a with dP:=a.dP.tail} E R f0 com fp:={h with pl:=h.pl.tail}
theorem Hs.flushed(h:Hs n Z a E R f0 com fp)(hj:1<=n.jo):Hs n Z {a with dF:=flushF a.dF a.dO,dO:=[],dP:=a.dP.tail} E R f0 com (a.next-1):=by
 have hz:=n.size_eq;have hs0:=n.jH;have hdl:=h.dl;have hwm:=Zf n.pa h.wh;have c2:=h.c2;have c4:=h.c4;have hmod:∀t,(t-1)%n.jo<n.jo:=fun t=>qYa _ (by omega);have hmiss:∀s,(∀i,i<n.pa->s≠1+(1-a.which)*n.pa+i)->(∀t,com<t->t<=fp->s≠n.jb+(t-1)%n.jo)->s<n.jq->(flushF a.dF a.dO).getD s zB=a.dF.getD s zB:=fun s h1 h2 h3=>
  rJ (fun q hq e=>by
   rcases h.o0 q hq with⟨i,hi,e2,-⟩|⟨t,ht1,ht2,e2⟩|h4
   .exact h1 i hi (by rw[<-e,e2])
   .exact h2 t ht1 ht2 (by rw[<-e,e2])
   .omega)
 refine{h with
  pl:=h.pl.tail
  dl:=by show(flushF a.dF a.dO).length=_;rw[zC];exact h.dl
  c3:=by omega
  c4:=by show a.next-1+1<=a.next;omega
  fx:=fun s hs=>?_
  o0:=fun q hq=>by cases hq
  sd:=fun i hi=>?_
  so:=fun i hi=>?_
  jr:=fun j hj=>?_
  jw:=fun t h1 h2=>?_
  sl:=fun t h1 h2 x hx=>h.sl t h1 h2 x hx
  sf:=fun t h1 h2 x hx=>(h.sl t h1 (by omega) x hx).2}
 .show (flushF a.dF a.dO).getD s zB=Z s;rw[hmiss s (fun i hi=>by simp only[CaN.jb]at hs;omega) (fun t h1 h2=>by have:=hmod t;simp only[CaN.jb]at hs⊢;omega) (by simp only[CaN.jb]at hs;omega)];exact h.fx s hs
 .show (flushF a.dF a.dO).getD (1+a.which*n.pa+i) zB=_;rw[hmiss _ (fun k hk=>by omega) (fun t h1 h2=>by have:=hmod t;simp only[CaN.jb];omega) (by omega)];exact h.sd i hi
 .have:=tn (P:=fun s y=>∀i,i<n.pa->s=1+(1-a.which)*n.pa+i->tV E (a.next-1) i y) a.dO a.dF (fun s _ i hi e=>by subst e;exact(h.so i hi).mono (by omega)) (fun q hq i hi e=>by
   rcases h.o0 q hq with⟨i',hi',e2,hp⟩|⟨t,ht1,ht2,e2⟩|h4
   .obtain rfl:i=i':=by omega
    exact hp.mono (by omega)
   .rw [e2]at e;have:=hmod t;simp only[CaN.jb]at e;omega
   .omega) (1+(1-a.which)*n.pa+i) (by omega) i hi rfl
  exact this
 .have:=tn (P:=fun s y=>∀j,j<n.jo->s=n.jb+j->EN n.jo R f0 (a.next-1) j y) a.dO a.dF (fun s _ i hi e=>by subst e;exact(h.jr i hi).mono (by omega)) (fun q hq i hi e=>by
   rcases h.o0 q hq with⟨i',hi',e2,hp⟩|⟨t,ht1,ht2,e2⟩|h4
   .simp only[CaN.jb]at e;omega
   .rw [e2]at e⊢;have e:n.jb+(t-1)%n.jo=n.jb+i:=e;exact .inr ⟨t,by have:=h.f1;have:=h.c1;omega,by omega,by omega,rfl⟩
   .simp only[CaN.jb]at e;omega) (n.jb+j) (by simp only[CaN.jb];omega) j hj rfl
  exact this
 .show (flushF a.dF a.dO).getD _ zB=_;have:=hmod t;have h1:a.cov<t:=h1;have c5:=h.c5;rw[hmiss _ (fun i hi=>by simp only[CaN.jb];omega) (fun t' h3 h4 e=>mod_one (jo:=n.jo) (t:=t) (t':=t') (by omega) (by omega) (by omega) (by omega)) (by simp only[CaN.jb];omega)];exact h.jw t h1 h2
theorem Hs.flush(h:Hs n Z a E R f0 com fp)(hj:1<=n.jo):((flushR a.dF a.dO a.dP).cd≠0/\Hs n Z (a.dev (flushR a.dF a.dO a.dP)) E R f0 com fp)\/((flushR a.dF a.dO a.dP).cd=0/\Hs n Z (a.dev (flushR a.dF a.dO a.dP)) E R f0 com (a.next-1)/\(flushR a.dF a.dO a.dP).O=[]):=by
 rcases h.pl.fate with hf|hf
 .have e:flushR a.dF a.dO a.dP=⟨flushF a.dF a.dO,[],a.dP.tail,0⟩:=by unfold flushR;rw[if_neg (by rw[hf];decide),if_pos hf]
  rw[e];exact .inr ⟨rfl,h.flushed hj,rfl⟩
 .have e:flushR a.dF a.dO a.dP=⟨a.dF,a.dO,a.dP.tail,21⟩:=by unfold flushR;rw[if_pos hf]
  rw[e];exact .inl ⟨show (21:Int)≠0 by decide,h.tail⟩
theorem Hs.jD(h:Hs n Z a E R f0 com fp)(s:Nat)(y:Bk)(ho:OOk n a.which E R com fp (s,y))(hsl:n.jq<=s->∀t,com<=t->t<a.next->∀x∈E t,n.jq+x.s≠s):((writeR a.dF a.dO a.dP s y).cd≠0/\(writeR a.dF a.dO a.dP s y).O=a.dO\/(writeR a.dF a.dO a.dP s y).cd=0/\(writeR a.dF a.dO a.dP s y).O=a.dO++[(s,y)])/\Hs n Z (a.dev (writeR a.dF a.dO a.dP s y)) E R f0 com fp:=by
 rcases h.pl.fate with hf|hf
 .have e:writeR a.dF a.dO a.dP s y=⟨a.dF,a.dO++[(s,y)],a.dP.tail,0⟩:=by unfold writeR;rw[if_neg (by rw[hf];decide),if_pos hf]
  rw[e];refine⟨.inr ⟨rfl,rfl⟩,{h with pl:=h.pl.tail,o0:=fun q hq=>?_,sl:=fun t h1 h2 x hx=>⟨(h.sl t h1 h2 x hx).1,?_⟩}⟩
  .rcases qzq.1 hq with hq|hq
   .exact h.o0 q hq
   .rw [qzy.1 hq];exact ho
  .show crcC (curB a.dF (a.dO++[(s,y)]) _)=_;rw[ti,if_neg (fun e=>hsl (by rw[e.1];exact qXu _ _) t h1 h2 x hx e.1.symm)];exact(h.sl t h1 h2 x hx).2
 .have e:writeR a.dF a.dO a.dP s y=⟨a.dF,a.dO,a.dP.tail,20⟩:=by unfold writeR;rw[if_pos hf]
  rw[e];exact⟨.inl ⟨show (20:Int)≠0 by decide,rfl⟩,h.tail⟩
end
theorem Zg{F:List Bk}{O:List (Nat×Bk)}{P:List Int}(hp:Pl P)(h:(flushR F O P).cd=0):flushR F O P=⟨flushF F O,[],P.tail,0⟩:=by
 unfold flushR at h⊢;rcases hp.fate with hf|hf
 .rw [if_neg (by rw[hf];decide),if_pos hf]
 .rw [if_pos hf]at h;cases h
def comO(n:CaN)(W:List (Nat×Bk)):List (Nat×Bk):=W.map fun q=>(n.jb+(q.1-1)%n.jo,q.2)
theorem WU(s:Nat)(L:List Ent)(i:Nat):(pagesB s L).getD i zB=if i<needN L.length then sectP (pageXs s (needN L.length) L i)else zB:=by
 rw[pagesB,zY,qyh,qyq];split
 .next h=>rw[qyr h];rfl
 .next h=>rw[qyo (by simpa using h)];rfl
theorem tp{E:Nat->List Ent}{s top:Nat}(hs:s<=top)(i:Nat):tV E top i ((pagesB s (E s)).getD i zB):=by
 rw[WU];split
 .next h=>exact .inr ⟨s,hs,h,rfl⟩
 .exact .inl rl
section
variable{n:CaN}{Z:Nat->Bk}{a b:CaS}{E:Nat->List Ent}{R:Nat->List Int}{f0 com fp:Nat}
theorem Hs.comW:∀(W:List (Nat×Bk)) {a:CaS},Hs n Z a E R f0 com fp->(∀q∈W,∃t,com<t/\t<=fp/\q=(t,sectR (R t)))->(1<=n.jo)->
  ((Go.Proofs.YtfhfbpmlnjdfoaaGreatDoor.comW n.jb n.jo a.dF W a.dO a.dP).cd≠0\/(Go.Proofs.YtfhfbpmlnjdfoaaGreatDoor.comW n.jb n.jo a.dF W a.dO a.dP).O=a.dO++comO n W)/\Hs n Z (a.dev (Go.Proofs.YtfhfbpmlnjdfoaaGreatDoor.comW n.jb n.jo a.dF W a.dO a.dP)) E R f0 com fp
 |[],a,h,_,_=>⟨.inr (by simp[Go.Proofs.YtfhfbpmlnjdfoaaGreatDoor.comW,comO]),h⟩
 |(s,y)::W,a,h,hW,hj=>by
  obtain⟨t,h1,h2,he⟩:=hW _ qzt;cases he;have hlt:=qYa (s-1) (show 0<n.jo by omega);have hs0:=n.jH;obtain⟨hw1,hw2⟩:=h.jD (n.jb+(s-1)%n.jo) (sectR (R s)) (.inr (.inl ⟨s,h1,h2,rfl⟩)) (fun h3=>by simp only[CaN.jb]at h3;omega);rw[Go.Proofs.YtfhfbpmlnjdfoaaGreatDoor.comW];split
  .next hc=>
   have hO:=hw1.resolve_left (fun e=>e.1 hc);have ih:=Hs.comW W hw2 (fun q hq=>hW q (qzs _ hq)) hj;have hF:(writeR a.dF a.dO a.dP (n.jb+(s-1)%n.jo) (sectR (R s))).F=a.dF:=yu _ _ _ _ _;rw[show(a.dev (writeR a.dF a.dO a.dP (n.jb+(s-1)%n.jo) (sectR (R s)))).dF=a.dF from hF]at ih;refine⟨ih.1.imp (fun h=>h) (fun h=>?_),ih.2⟩;rw[show(a.dev (writeR a.dF a.dO a.dP (n.jb+(s-1)%n.jo) (sectR (R s)))).dO=a.dO++[(n.jb+(s-1)%n.jo,sectR (R s))]from hO.2]at h;rw[show(writeR a.dF a.dO a.dP (n.jb+(s-1)%n.jo) (sectR (R s))).O=a.dO++[(n.jb+(s-1)%n.jo,sectR (R s))]from hO.2,h];simp[comO]
  .next hc=>exact⟨.inl hc,hw2⟩
theorem Hs.cm(h:Hs n Z a E R f0 com fp)(hj:1<=n.jo):∃com' fp',Hs n Z (a.cm n) E R f0 com' fp'/\((a.com n).1.cd=0->com'=a.next-1/\(a.cm n).dO=[]/\(a.cm n).W=[]):=by
 have hcm:a.cm n={a.dev (comR n.jb n.jo a.dF a.dO a.dP a.W).1 with W:=(comR n.jb n.jo a.dF a.dO a.dP a.W).2}:=rfl;have hco:a.com n=comR n.jb n.jo a.dF a.dO a.dP a.W:=rfl;rw[hcm,hco];have c2:=h.c2;have hf:=h.flush hj;unfold comR;split
 .next hc=>
  rcases hf with⟨f1,f2⟩|⟨f1,f2,f3⟩
  .exact ⟨com,fp,f2,fun e=>absurd e f1⟩
  .have hW:a.W=[]:=hc.resolve_left (fun e=>e f1);rw[hW]at c2;exact⟨com,a.next-1,f2,fun _=>⟨by simp at c2;omega,f3,hW⟩⟩
 next hc=>
 have hc0:(flushR a.dF a.dO a.dP).cd=0:=Classical.byContradiction fun e=>hc (.inl e);obtain⟨f1,f2,f3⟩:=hf.resolve_left (fun e=>e.1 hc0);have hWq:∀q∈a.W,∃t,com<t/\t<=a.next-1/\q=(t,sectR (R t)):=fun q hq=>by
  obtain⟨i,hi,rfl⟩:=qza hq;have:=h.wq i hi;rw[qyn hi]at this;exact⟨com+1+i,by omega,by omega,qYj this⟩
 obtain⟨g1,g2⟩:=Hs.comW a.W f2 hWq hj;obtain⟨a1,ha1⟩:=qqe (a.dev (flushR a.dF a.dO a.dP));have e1:Go.Proofs.YtfhfbpmlnjdfoaaGreatDoor.comW n.jb n.jo (flushR a.dF a.dO a.dP).F a.W (flushR a.dF a.dO a.dP).O (flushR a.dF a.dO a.dP).P=Go.Proofs.YtfhfbpmlnjdfoaaGreatDoor.comW n.jb n.jo a1.dF a.W a1.dO a1.dP:=by rw[ha1]
 rw[e1];rw[<-ha1]at f2 g1 g2;obtain⟨r2,hr2⟩:=qqe (Go.Proofs.YtfhfbpmlnjdfoaaGreatDoor.comW n.jb n.jo a1.dF a.W a1.dO a1.dP);rw[<-hr2]at g1 g2⊢;have hsame:∀r:DRes,({a.dev r with W:=a.W}:CaS)=(a1.dev r2).dev r:=fun r=>by rw[ha1]
 split
 .next h2=>exact⟨com,a.next-1,by rw[hsame,show(a1.dev r2).dev r2=a1.dev r2 from rfl];exact g2,fun e=>absurd e h2⟩
 next h2=>
 have h20:r2.cd=0:=qxq h2;have hO2:=g1.resolve_left (fun e=>e h20);rcases g2.flush hj with⟨k1,k2⟩|⟨k1,k2,k3⟩
 .rw [show flushR (a1.dev r2).dF (a1.dev r2).dO (a1.dev r2).dP=flushR r2.F r2.O r2.P from rfl]at k1 k2;rw[if_pos k1];exact⟨com,a.next-1,by rw[hsame];exact k2,fun e=>absurd e k1⟩
 .rw [show flushR (a1.dev r2).dF (a1.dev r2).dO (a1.dev r2).dP=flushR r2.F r2.O r2.P from rfl]at k1 k2 k3;rw[if_neg (fun e=>e k1)];have ek:=Zg (F:=r2.F) (O:=r2.O) g2.pl k1;have hnx:((a1.dev r2).dev (flushR r2.F r2.O r2.P)).next=a.next:=by rw[ha1]
  have hnx1:(a1.dev r2).next=a.next:=by rw[ha1]
  have hcv:((a1.dev r2).dev (flushR r2.F r2.O r2.P)).cov=a.cov:=by rw[ha1]
  have hc1:=h.c1;have hc5:=h.c5;have hjw:∀t,a.cov<t->t<=a.next-1->(flushR r2.F r2.O r2.P).F.getD (n.jb+(t-1)%n.jo) zB=sectR (R t):=fun t t1 t2=>by
   by_cases htc:t<=com
   .exact k2.jw t (by rw[hcv];exact t1) htc
   .have hml:=qYa (t-1) (show 0<n.jo by omega);have hs0:=n.jH;have hz:=n.size_eq;rw[ek];have hO3:r2.O=comO n a.W:=by rw[hO2,ha1,show(a.dev (flushR a.dF a.dO a.dP)).dO=[]from f3];rfl
    rw[hO3];refine Ze _ _ ⟨(n.jb+(t-1)%n.jo,sectR (R t)),?_,rfl⟩ (fun q hq e=>?_) ?_
    .have hi:t-(com+1)<a.W.length:=by omega
     have:=h.wq (t-(com+1)) hi;rw[show com+1+(t-(com+1))=t by omega]at this;exact qzv.2 ⟨(t,sectR (R t)),List.mem_of_getElem? this,rfl⟩
    .obtain ⟨p,hp,rfl⟩:=qzv.1 hq;obtain⟨t',p1,p2,rfl⟩:=hWq p hp;have e:n.jb+(t'-1)%n.jo=n.jb+(t-1)%n.jo:=e;rcases Nat.lt_trichotomy t t' with hl|rfl|hl
     .exact (mod_one (jo:=n.jo) (t:=t) (t':=t') (by omega) hl (by omega) (by omega)).elim
     .rfl
     .exact (mod_one (jo:=n.jo) (t:=t') (t':=t) (by omega) hl (by omega) (by omega)).elim
    .have hl2:r2.F.length=n.size:=g2.dl;rw[hl2];simp only[CaN.jb];omega
  refine⟨a.next-1,a.next-1,?_,fun _=>⟨rfl,k3,rfl⟩⟩;have hb:({a.dev (flushR r2.F r2.O r2.P)with W:=[]}:CaS)={(a1.dev r2).dev (flushR r2.F r2.O r2.P)with W:=[]}:=by rw[ha1]
  rw[hb];rw[hnx1]at k2;exact{k2 with
   c1:=by show((a1.dev r2).dev (flushR r2.F r2.O r2.P)).cov<=_;rw[hcv];omega
   c2:=by show a.next-1+0+1=((a1.dev r2).dev (flushR r2.F r2.O r2.P)).next;rw[hnx];omega
   c3:=qXv _
   wq:=fun i hi=>absurd hi (Nat.not_lt_zero _)
   o0:=fun q hq=>by
    have:(flushR r2.F r2.O r2.P).O=[]:=k3;replace hq:q∈(flushR r2.F r2.O r2.P).O:=hq;rw[this]at hq;cases hq
   jw:=fun t t1 t2=>hjw t (by rw[<-hcv];exact t1) t2
   sl:=fun t t1 t2=>k2.sl t (by omega) t2
   sf:=fun t t1 t2=>k2.sf t (by omega) t2}
end
end Go.Proofs.YtfhfbpmlnjdfoaaGreatDoor
