/- The past of a cache: its calls keep it. The pa -/
import Derived.Test.YtfhfbpmlnjdfoaaGreatDoorG39
import Derived.Shelf.SlSortCmp.WholeK
set_option maxRecDepth 100000
set_option maxHeartbeats 2000000
namespace Go.Proofs.YtfhfbpmlnjdfoaaGreatDoor
open Go Go.RowKit
def CaS.Hi(n:CaN)(Z:Nat->Bk)(a:CaS):Prop:=∃E R f0 com fp,Hs n Z a E R f0 com fp
section
variable{n:CaN}{Z:Nat->Bk}{a b:CaS}{E:Nat->List Ent}{R:Nat->List Int}{f0 com fp:Nat}{o:Option Nat}
theorem Hs.hi(h:Hs n Z a E R f0 com fp):a.Hi n Z:=⟨E,R,f0,com,fp,h⟩
theorem Hs.bdev(h:Hs n Z a E R f0 com fp)(r:DRes):Hs n Z (a.bdev r) E R f0 com fp:={h with}
theorem Hs.fb(h:Hs n Z a E R f0 com fp):Hs n Z a.fb E R f0 com fp:=h.bdev _
theorem CaS.Hi.bdev(h:a.Hi n Z)(r:DRes):(a.bdev r).Hi n Z:=by obtain⟨E,R,f0,com,fp,h⟩:=h;exact(h.bdev r).hi
theorem Hs.wrs:∀(L:List (Nat×Bk)) {a:CaS},Hs n Z a E R f0 com fp->(∀q∈L,q.1<n.slot0/\OOk n a.which E R com fp q)->
  ((wrsR a.dF L a.dO a.dP).cd≠0\/(wrsR a.dF L a.dO a.dP).O=a.dO++L)/\Hs n Z (a.dev (wrsR a.dF L a.dO a.dP)) E R f0 com fp
 |[],a,h,_=>⟨.inr (by simp[wrsR]),h⟩
 |(s,y)::L,a,h,hL=>by
  obtain⟨h1,h2⟩:=hL _ qzt;obtain⟨hw1,hw2⟩:=h.wrote s y h2 (fun h3=>absurd h1 (by show¬s<n.slot0;omega));rw[wrsR];split
  .next hc=>
   have hO:=hw1.resolve_left (fun e=>e.1 hc);have ih:=Hs.wrs L hw2 (fun q hq=>hL q (qzs _ hq));rw[show(a.dev (writeR a.dF a.dO a.dP s y)).dF=a.dF from yu _ _ _ _ _]at ih;refine⟨ih.1.imp (fun h=>h) (fun h=>?_),ih.2⟩;rw[show(a.dev (writeR a.dF a.dO a.dP s y)).dO=a.dO++[(s,y)]from hO.2]at h;rw[show(writeR a.dF a.dO a.dP s y).O=a.dO++[(s,y)]from hO.2,h];simp
  .next hc=>exact⟨.inl hc,hw2⟩
theorem Hs.ckpt(h:Hs n Z a E R f0 com fp)(hok:n.Ok)(ht:a.Tie n o):(a.ckpt n).1.Hi n Z:=by
 have hj:1<=n.jo:=by have:=hok.j1;omega
 unfold CaS.ckpt;split
 .exact h.fb.hi
 split
 .next hc=>
  rcases h.fb.flush hj with⟨-,f⟩|⟨-,f,-⟩
  .exact f.hi
  .exact f.hi
 next hc=>
 have hc0:(flushR a.fb.dF a.fb.dO a.fb.dP).cd=0:=qxq hc;obtain⟨-,f2,f3⟩:=h.fb.flush hj|>.resolve_left (fun e=>e.1 hc0)
 obtain⟨b,hb⟩:=qqe (a.fb.fd);have f2:Hs n Z b E R f0 com (b.next-1):=by rw[hb];exact f2
 have f3:b.dO=[]:=by rw[hb];exact f3
 have htb:b.Tie n o:=by rw[hb];exact ht
 rw[<-hb];obtain⟨L,hL⟩:=qqe (ckO (1+(1-b.which)*n.pa) n.pa (pagesB (b.next-1) (b.ents n)));have hs0:=n.slot0_eq;have hwm:=Jt n.pa f2.wh;have hLq:∀q∈L,q.1<n.slot0/\OOk n b.which E R com (b.next-1) q:=fun q hq=>by
  rw[hL]at hq;obtain⟨i,hi,rfl⟩:=qzv.1 hq;have hi:=qzx.1 hi;refine⟨by show 1+(1-b.which)*n.pa+i<n.slot0;omega,.inl ⟨i,hi,rfl,?_⟩⟩;show tu E (b.next-1) i ((pagesB (b.next-1) (b.ents n)).getD i zB);rw[<-f2.cur];exact uQ (qXv _) i
 obtain⟨g1,g2⟩:=Hs.wrs L f2 hLq;have hsv:b.svR n=saveR b.dF b.dO b.dP L:=by rw[hL];rfl
 have hF:=uH b.dF L b.dO b.dP;have key:∃fp',Hs n Z (b.dev (b.svR n)) E R f0 com fp'/\((b.svR n).cd=0->fp'=b.next-1/\(b.svR n).O=[]/\(b.svR n).F=flushF b.dF L):=by
  rw[hsv];unfold saveR;split
  .next hw=>
   have hO0:=g1.resolve_left (fun e=>e hw);have hO:(wrsR b.dF L b.dO b.dP).O=L:=by rw[hO0,f3];rfl
   rcases g2.flush hj with⟨k1,k2⟩|⟨k1,k2,k3⟩
   .rw [show(b.dev (wrsR b.dF L b.dO b.dP)).dF=b.dF from hF]at k1 k2;exact⟨b.next-1,k2,fun e=>absurd e k1⟩
   .have ek:=sg g2.pl k1;rw[show(b.dev (wrsR b.dF L b.dO b.dP)).dF=b.dF from hF]at k1 k2 k3 ek;refine⟨b.next-1,k2,fun _=>⟨rfl,k3,?_⟩⟩;have:=congrArg DRes.F ek;rw[show(b.dev (wrsR b.dF L b.dO b.dP)).dO=L from hO]at this;exact(congrArg (fun O=>(flushR b.dF O (wrsR b.dF L b.dO b.dP).P).F) hO).trans this
  .next hw=>exact⟨b.next-1,g2,fun e=>absurd e hw⟩
 obtain⟨fp',k1,k2⟩:=key;split
 .exact k1.hi
 next hc2=>
 obtain⟨rfl,e2,e3⟩:=k2 (qxq hc2);have c1:=f2.c1;have c2:=f2.c2;have c4:=f2.c4;have hz:=n.size_eq;have hlen:(flushF b.dF L).length=n.size:=by rw[zH];exact f2.dl
 have hbl:b.dF.length=n.size:=f2.dl;refine Hs.hi (E:=E) (R:=R) (f0:=f0) (com:=b.next-1) (fp:=b.next-1) ?_;exact{k1 with
  f1:=by show f0<=b.next-1;have:=f2.f1;omega
  c1:=qXv _
  c2:=by show b.next-1+0+1=b.next;omega
  c3:=qXv _
  c5:=by show b.next<=b.next-1+n.jo+1;omega
  wh:=by show 1-b.which<=1;omega
  wq:=fun i hi=>absurd hi (Nat.not_lt_zero _)
  o0:=fun q hq=>by
   replace hq:q∈(b.svR n).O:=hq;rw[e2]at hq;cases hq
  sd:=fun i hi=>by
   show(b.svR n).F.getD (1+(1-b.which)*n.pa+i) zB=(pagesB (b.next-1) (E (b.next-1))).getD i zB;rw[e3,hL,qH,if_pos ⟨by omega,by omega,by omega⟩,f2.cur]
   congr 1
   omega
  so:=fun i hi=>by
   show tu E (b.next-1) i ((b.svR n).F.getD (1+(1-(1-b.which))*n.pa+i) zB);have hw2:1-(1-b.which)=b.which:=by have:=f2.wh;omega
   have:=k1.sd i hi;rw[hw2,show(b.svR n).F.getD (1+b.which*n.pa+i) zB=(pagesB b.cov (E b.cov)).getD i zB from this];exact uQ (by omega) i
  jw:=fun t t1 t2=>absurd t2 (by have t1:b.next-1<t:=t1;omega)
  sl:=fun t t1 t2 x hx=>by
   have t2:t<b.next:=t2;have:t=b.next-1:=by omega
   subst this;have hx':x∈b.ents n:=by rw[<-f2.cur];exact hx
   obtain⟨q1,q2⟩:=CaS.ents_live htb hx';refine⟨.inl ?_,(k1.sl (b.next-1) (by omega) (by show b.next-1<b.next;omega) x hx).2⟩;show(freeTo b.st (pos b.st 3)).getD x.s 0=2;rw[uJ _ _ (by rw[htb.hsl];exact q1),q2];rfl
  sf:=fun t t1 t2=>k1.sf t (by omega) t2}
theorem CaS.Hi.ckpt(h:a.Hi n Z)(hok:n.Ok)(ht:a.Tie n o):(a.ckpt n).1.Hi n Z:=by obtain⟨E,R,f0,com,fp,h⟩:=h;exact h.ckpt hok ht
theorem CaS.Hi.roomed(h:a.Hi n Z)(hok:n.Ok)(ht:a.Tie n o):(a.roomed n).1.Hi n Z:=by
 unfold CaS.roomed;split
 .exact h
 .exact h.ckpt hok ht
theorem CaS.Hi.committed(h:a.Hi n Z)(hok:n.Ok)(ht:a.Tie n o):(a.committed n).1.Hi n Z:=by
 obtain⟨E,R,f0,com,fp,h⟩:=h;obtain⟨com',fp',h2,h3⟩:=h.fb.cm (by have:=hok.j1;omega);unfold CaS.committed;split
 .exact h.fb.hi
 split
 .exact h2.hi
 .next hc=>
  obtain⟨e1,-,-⟩:=h3 (qxq hc);exact(h2.freed (o:=o) e1 ht).hi
theorem CaS.Hi.turn(h:a.Hi n Z)(st:List Int)(hs:∀s,a.st.getD s 0=2\/a.st.getD s 0=3->st.getD s 0=2\/st.getD s 0=3):({a with st:=st}:CaS).Hi n Z:=by
 obtain⟨E,R,f0,com,fp,h⟩:=h;exact(h.turn st hs).hi
theorem CaS.Hi.ev(h:a.Hi n Z):(a.ev n).Hi n Z:=by
 obtain⟨E,R,f0,com,fp,h⟩:=h;exact Hs.hi (E:=E) (R:=R) (f0:=f0) (com:=com) (fp:=fp) {h with}
theorem QD(f:Int->Option EI)(next jo:Nat)(op k s:Int)(d:Bool)(sum:Int):apR f (jaddX next jo op k s d sum)=fun x=>if x=k then(if op=0 then some ⟨k,s,d,sum⟩else none)else f x:=by
 funext x
 cases d<;>rfl
theorem QE(next jo:Nat)(op k s:Int)(d:Bool)(sum:Int):(jaddX next jo op k s d sum).length=7/\(jaddX next jo op k s d sum).getD 0 0=(next:Int)/\(jaddX next jo op k s d sum).getD 1 0=(((next-1)/jo:Nat):Int):=⟨rfl,rfl,rfl⟩
end
section
variable{n:CaN}{Z:Nat->Bk}{a b:CaS}{E:Nat->List Ent}{R:Nat->List Int}{f0 com fp N:Nat}{o o':Option Nat}
theorem Eq(hl:a.ps.length=n.bl){m:Nat}(hm:m<n.bl){v:Int×Bool}(hps:b.ps=a.ps.set m v)(hsm:∀s:Int,s≠(m:Int)->b.sums s=a.sums s)(s:Int):
  b.mp n s=if s=(m:Int)then(if v=(-1,false)then none else some ⟨(m:Int),v.1,v.2,((b.sums (m:Int)).getD 0:Nat)⟩)else a.mp n s:=by
 have hp:∀j,plc b.ps j=if j=m then v else plc a.ps j:=fun j=>by rw[hps,ue _ _ _ _ (by rw[hl];exact hm)]
 unfold CaS.mp;by_cases hs:s=(m:Int)
 .subst hs;rw[if_pos rfl,hp,qxu,if_pos rfl];by_cases hv:v=(-1,false)
  .rw [if_pos hv,if_neg (fun h=>h.2.2 hv)]
  .rw [if_neg hv,if_pos ⟨by omega,by omega,hv⟩]
 .rw [if_neg hs];by_cases h0:0<=s
  .have:s.toNat≠m:=fun e=>hs (by omega);rw[hp,if_neg this,hsm s hs]
  .rw [if_neg (fun h=>h0 h.1),if_neg (fun h=>h0 h.1)]
theorem ents_set(hl:a.ps.length=n.bl){m:Nat}(hm:m<n.bl){v:Int×Bool}(hps:b.ps=a.ps.set m v)(hsm:∀s:Int,s≠(m:Int)->b.sums s=a.sums s){x:Ent}(hx:x∈b.ents n):
  x∈a.ents n\/(v≠(-1,false)/\x=⟨m,v.1.toNat,v.2,(b.sums (m:Int)).getD 0⟩):=by
 have hp:∀j,plc b.ps j=if j=m then v else plc a.ps j:=fun j=>by rw[hps,ue _ _ _ _ (by rw[hl];exact hm)]
 obtain⟨k,hk,hn,rfl⟩:=(CaS.ents_mem (by rw[hps,qzj];exact hl)).1 hx;by_cases e:k=m
 .subst e;rw[hp,if_pos rfl]at hn⊢;exact .inr ⟨hn,rfl⟩
 .rw [hp,if_neg e]at hn⊢;rw[hsm _ (fun h=>e (by omega))];exact .inl ((CaS.ents_mem hl).2 ⟨k,hk,hn,rfl⟩)
theorem Hs.noteSet(h:Hs n Z a E R f0 com fp)(ht:a.Tie n o)(b:CaS)(htb:b.Tie n o')(hsb:∀k v,b.sums k=some v->v<=4294967295){m:Nat}(hm:m<n.bl)(v:Int×Bool)(op s:Int)(d:Bool)(sum:Int)
  (hop:(op=0/\v=(s,d)/\v≠(-1,false)/\((b.sums (m:Int)).getD 0:Int)=sum)\/(op=1/\v=(-1,false))) (hd:b.dF=a.dF/\b.dO=a.dO/\b.dP=a.dP)
  (hc:b.cov=a.cov/\b.which=a.which/\b.next=a.next+1/\b.W=a.W++[(a.next,sectR (jaddX a.next n.jo op (m:Int) s d sum))]) (hmay:mayR (jaddX a.next n.jo op (m:Int) s d sum)=true) (hr:a.next<=a.cov+n.jo)
  (hs:∀s,a.st.getD s 0=2\/a.st.getD s 0=3->b.st.getD s 0=2\/b.st.getD s 0=3) (hps:b.ps=a.ps.set m v) (hsm:∀s:Int,s≠(m:Int)->b.sums s=a.sums s)
  (hcr:v≠(-1,false)->crcC (curB a.dF a.dO (n.slot0+v.1.toNat))=(b.sums (m:Int)).getD 0):b.Hi n Z:=by
 obtain⟨j1,j2,j3⟩:=QE a.next n.jo op (m:Int) s d sum;have c2:=h.c2;refine(h.note b (jaddX a.next n.jo op (m:Int) s d sum) hd hc ⟨j1,hmay,j2,j3⟩ ?_ (CaS.ents_enok htb hsb) hr hs (fun x hx=>⟨.inl (CaS.ents_live htb hx).2,?_⟩)).hi
 .rw [CaS.ents_mp htb,CaS.ents_mp ht,QD]
  funext x
  rw[Eq ht.hpl hm hps hsm x];split
  .rcases hop with⟨rfl,rfl,hv,e⟩|⟨rfl,rfl⟩
   .rw [if_neg hv,if_pos rfl,<-e]
   .rw [if_pos rfl,if_neg (by decide)]
  .rfl
 .rcases ents_set ht.hpl hm hps hsm hx with hx|⟨hv,rfl⟩
  .exact (h.sl (a.next-1) (by omega) (by omega) x (by rw[h.cur];exact hx)).2
  .exact hcr hv
theorem Hs.n1(h:Hs n Z a E R f0 com fp):1<=a.next:=by have:=h.c2;omega
theorem CaS.Hi.n1(h:a.Hi n Z):1<=a.next:=by obtain⟨E,R,f0,com,fp,h⟩:=h;exact h.n1
theorem CaS.Hi.leave(h:a.Hi n Z)(hok:n.Ok)(ht:a.Tie n o)(hf:a.Fit N)(hN:N<=1000000){k:Int}(hg:getC a.ps k=0)(hr:a.next<=a.cov+n.jo)(b:CaS)(htb:b.Tie n o')
  (hb:b.dF=a.dF/\b.dO=a.dO/\b.dP=a.dP) (hc:b.cov=a.cov/\b.which=a.which/\b.next=a.next+1/\b.W=a.W++[(a.next,sectR (jaddX a.next n.jo 1 k 0 false 0))]) (hps:b.ps=dropL a.ps k) (hsu:b.sums=upd1 a.sums k none) (hst:b.st=turnList a.st (getV a.ps k).1 3):b.Hi n Z:=by
 have h1:=h.n1;obtain⟨E,R,f0,com,fp,h⟩:=h;obtain⟨m,hm,rfl,hn⟩:=zQ.1 hg;rw[ht.hpl]at hm;have hb2:=hok.b2;refine h.noteSet ht b htb (fun x v hv=>?_) hm (-1,false) 1 0 false 0 (.inr ⟨rfl,rfl⟩) hb hc (uI h1 (by have:=hf.nx;omega) (by have:=hok.j1;omega) ⟨by omega,by omega⟩) hr (fun s hs=>by rw[hst];exact wo _ _ s hs) ?_ (fun s hs=>?_) (fun e=>absurd rfl e)
 .rw [hsu]at hv;simp only[upd1]at hv;split at hv
  .cases hv
  .exact hf.sm x v hv
 .rw [hps];unfold dropL;rw[if_pos hg,qxu]
 .rw [hsu];simp only[upd1];rw[if_neg hs]
theorem CaS.Hi.evicts:∀(m g:Nat) {a:CaS} {N:Nat},a.Hi n Z->n.Ok->a.Tie n o->a.Fit N->N+m*(n.pa+1)<=1000000->(CaS.evicts n m g a).1.Hi n Z
 |0,g,a,N,h,_,_,_,_=>h
 |m+1,g,a,N,h,hok,ht,hf,hN=>by
  have hr:=h.roomed hok ht;have htr:=CaS.Tie.roomed ht;have hfr:=hf.roomed (n:=n);have h1:=h.n1;have hnx:=(a.roomed_next n).1;have hmul:(m+1)*(n.pa+1)=m*(n.pa+1)+(n.pa+1):=Nat.succ_mul _ _;simp only[CaS.evicts];split
  .exact h
  split
  .exact hr
  next hc0=>
  split
  .exact hr.ev
  .next hc=>
   obtain⟨h2,h3,h4⟩:=CaS.Tie.evLeft htr (qxq hc);have hroom:=CaS.roomed_room (qxq hc0) h1 hok.j1;have hlv:(((a.roomed n).1.ev n).left n ((a.roomed n).1.evK n)).Hi n Z:=hr.leave hok htr hfr (by omega) h2 (by omega) _ h4 ⟨rfl,rfl,rfl⟩ ⟨rfl,rfl,rfl,rfl⟩ rfl rfl rfl;rw[if_neg (fun e=>e h3)];refine CaS.Hi.evicts m (g+1) hlv hok h4 (N:=N+n.pa+1) ?_ (by omega);exact(CaS.Fit.ev (n:=n) hfr).left (by show 1<=(a.roomed n).1.next;omega) _
theorem SL(st:List Int)(s:Nat)(h:st.getD s 0=2\/st.getD s 0=3):(allocList st).getD s 0=2\/(allocList st).getD s 0=3:=by
 unfold allocList;rw[yh];split
 .next e=>
  have:=qt e.2;rw[e.1]at this;omega
 .exact h
theorem CaS.Hi.al(h:a.Hi n Z):a.al.Hi n Z:=h.turn _ (SL a.st)
theorem CaS.Hi.takeR(h:a.Hi n Z)(hok:n.Ok)(ht:a.Tie n o)(s:Int):(a.takeR n s).1.Hi n Z:=by
 have hr:=h.roomed hok ht;unfold CaS.takeR;split
 .exact hr
 .exact hr.turn _ (fun r hr=>wo _ _ r hr)
theorem CaS.Hi.take2(h:a.Hi n Z)(hok:n.Ok)(ht:a.Tie n none):(a.take2 n).1.Hi n Z:=by
 have hc:=h.committed hok ht;have htc:=CaS.Tie.committed ht;unfold CaS.take2 CaS.take3;split
 .exact h
 split
 .exact hc
 split
 .exact hc.al
 .next hc2=>
  obtain⟨s,-,-,-,h4⟩:=TieL.alloc htc (qxq hc2);exact hc.al.takeR hok (o:=some s) h4 _
theorem CaS.Hi.takes(h:a.Hi n Z)(hok:n.Ok)(ht:a.Tie n none)(hf:a.Fit N)(hN:N+n.pa+1<=1000000):(a.takes n).1.Hi n Z:=by
 unfold CaS.takes;split
 .next hc=>
  obtain⟨s,-,-,-,h4⟩:=TieL.alloc ht hc;exact h.al.takeR hok (o:=some s) h4 _
 .next hc=>
  have hta:a.al.Tie n none:=by show TieL n.bl n.sl a.ps (allocList a.st) a.K none;rw[vy hc];exact ht
  unfold CaS.take1;split
  .have he:=CaS.Hi.evicts 1 0 h.al hok hta hf.al (by omega);split
   .exact he
   .exact he.take2 hok (CaS.Tie.evicts 1 0 hta)
  .exact h.al.take2 hok hta
theorem CaS.Hi.filled(h:a.Hi n Z){s:Nat}(ht:a.Tie n (some s))(blk:Int)(x:Bk):(a.filled n s blk x).1.Hi n Z/\((a.filled n s blk x).2=0->curB (a.filled n s blk x).1.dF (a.filled n s blk x).1.dO (n.slot0+s)=x):=by
 obtain⟨E,R,f0,com,fp,h⟩:=h;have hs:=ht.olt s rfl;have h1:=(ht.opn s hs).2 rfl;have hG:Hs n Z {a with G:=sF a.G s blk} E R f0 com fp:={h with}
 obtain⟨hw1,hw2⟩:=hG.wrote (n.slot0+s) x (.inr (.inr (qXu _ _))) (fun _ t t1 t2 y hy e=>by
  have:=(h.sl t t1 t2 y hy).1;have e:y.s=s:=by omega
  rw[e,h1]at this;omega)
 unfold CaS.filled;split
 .next hc=>
  refine⟨hw2.hi,fun _=>?_⟩;have hO:=hw1.resolve_left (fun e=>e.1 hc);show curB (writeR a.dF a.dO a.dP (n.slot0+s) x).F (writeR a.dF a.dO a.dP (n.slot0+s) x).O _=x;rw[yu,show(writeR a.dF a.dO a.dP (n.slot0+s) x).O=_ from hO.2,uK,if_pos ⟨rfl,by rw[h.dl,n.size_eq];omega⟩]
 .next hc=>
  refine⟨hw2.hi.turn _ (fun r hr=>?_),fun e=>absurd e hc⟩;have hr:a.st.getD r 0=2\/a.st.getD r 0=3:=hr;show(turnList a.st (s:Int) 4).getD r 0=2\/(turnList a.st (s:Int) 4).getD r 0=3;unfold turnList;split
  .rw [yh];split
   .next e=>rw[<-e.1,qxu,h1]at hr;omega
   .exact hr
  .exact hr
theorem CaS.Hi.putted(h:a.Hi n Z)(hok:n.Ok){s k:Nat}(ht:a.Tie n (some s))(hf:a.Fit N)(hN:N<=1000000)(hk:k<n.bl)(x:Bk)(d:Bool)(hx:curB a.dF a.dO (n.slot0+s)=x)(hr:a.next<=a.cov+n.jo):(a.putted n (k:Int) s (crcC x) d).1.Hi n Z:=by
 have h1:=h.n1;obtain⟨E,R,f0,com,fp,h⟩:=h;obtain⟨hp1,-,hp3⟩:=CaS.Tie.put ht hk (crcC x) d;have hs:=ht.olt s rfl;have hst:=(ht.opn s hs).2 rfl;have hb2:=hok.b2;have hs2:=hok.s2;have hcr:=wK x;obtain⟨b,hb⟩:=qqe ((a.putted n (k:Int) s (crcC x) d).1);have hfit:b.Fit (N+1):=by rw[hb];exact hf.putted h1 (k:Int) s (crcC x) d (by omega)
 have hsu:b.sums=upd1 a.sums (k:Int) (some (crcC x)):=by rw[hb];unfold CaS.putted;split<;>rfl
 have hps:b.ps=a.ps.set k ((s:Int),d):=by
  have:b.ps=putL a.ps n.sl (k:Int) (s:Int) d:=by rw[hb];unfold CaS.putted;split<;>rfl
  rw[this];unfold putL;rw[if_pos hp1,qxu]
 have hstk:∀r,a.st.getD r 0=2\/a.st.getD r 0=3->b.st.getD r 0=2\/b.st.getD r 0=3:=by
  have t2:∀r,a.st.getD r 0=2\/a.st.getD r 0=3->(turnList a.st (s:Int) 2).getD r 0=2\/(turnList a.st (s:Int) 2).getD r 0=3:=fun r hr=>by
   unfold turnList;split
   .rw [yh];split
    .exact .inl rfl
    .exact hr
   .exact hr
  intro r hr;rw[hb];unfold CaS.putted;split
  .exact t2 r hr
  .exact wo _ _ r (t2 r hr)
 rw[<-hb]at hp3⊢;have hbn:(b.sums (k:Int)).getD 0=crcC x:=by rw[hsu];simp only[upd1,if_true];rfl
 refine h.noteSet ht b hp3 hfit.sm hk ((s:Int),d) 0 (s:Int) d (crcC x:Nat) (.inl ⟨rfl,rfl,fun e=>by have:=congrArg Prod.fst e;simp only at this;omega,by rw[hbn]⟩) ?_ ?_ (wF d h1 (by have:=hf.nx;omega) (by have:=hok.j1;omega) ⟨by omega,by omega⟩ (by omega) (by omega)) hr hstk hps (fun z hz=>?_) (fun _=>?_)
 .rw [hb];unfold CaS.putted;split<;>exact⟨rfl,rfl,rfl⟩
 .rw [hb];unfold CaS.putted;split<;>exact⟨rfl,rfl,rfl,rfl⟩
 .rw [hsu];simp only[upd1];rw[if_neg hz]
 .rw [hbn,<-hx];rfl
theorem CaS.Hi.byp(h:a.Hi n Z)(hok:n.Ok)(ht:a.Tie n o)(hf:a.Fit N)(hN:N<=1000000)(hr:a.next<=a.cov+n.jo)(k:Nat):(a.byp n k).Hi n Z:=by
 unfold CaS.byp;split
 .next hg=>exact h.leave hok ht hf hN hg hr _ (CaS.Tie.dropped ht hg).2.2 ⟨rfl,rfl,rfl⟩ ⟨rfl,rfl,rfl,rfl⟩ rfl rfl rfl
 .exact h
theorem CaS.Hi.bypassed(h:a.Hi n Z)(hok:n.Ok)(ht:a.Tie n none)(hf:a.Fit N)(hN:N+n.pa+1<=1000000)(k:Nat)(x:Bk):(a.bypassed n k x).1.Hi n Z:=by
 have hr:=h.roomed hok ht;have htr:=CaS.Tie.roomed ht;have hfr:=(hf.roomed (n:=n)).bw k x;unfold CaS.bypassed;split
 .exact hr
 next hc=>
 split
 .exact hr.bdev _
 .have hroom:=CaS.roomed_room (qxq hc) h.n1 hok.j1;exact(hr.bdev _).byp hok (o:=none) htr hfr (by omega) (by show(a.roomed n).1.next<=(a.roomed n).1.cov+n.jo;omega) k
theorem CaS.Hi.backed(h:a.Hi n Z)(hok:n.Ok)(ht:a.Tie n none)(hg:a.Jg n)(hf:a.Fit N)(hN:N+3*n.pa+n.jo+6<=1000000){k:Nat}(hk:k<n.bl)(x:Bk):(a.backed n k x).1.Hi n Z:=by
 have hj:=hok.j1;have h1:=h.n1;have h2:=h.takes hok ht hf (by omega);have hft:=hf.takes' hg h1 hj;unfold CaS.backed;rcases CaS.Tie.takes ht h1 hj with⟨q1,q2,q3,s,q4,q5⟩|⟨q1,q5⟩
 .rw [if_neg (by omega),if_neg (by rw[q1];decide),q4,qxu];obtain⟨f1,f2⟩:=h2.filled q5 (k:Int) x;unfold CaS.backS;split
  .exact f1
  .next hc=>
   have hc:=qxq hc;obtain⟨-,t2⟩:=(CaS.Tie.filled q5 (k:Int) x).resolve_right (fun e=>e.1 hc);obtain⟨n1,n2⟩:=yH n (a.takes n).1 s (k:Int) x;exact f1.putted hok t2 (hft.filled s (k:Int) x) (by omega) hk x true (f2 hc) (by rw[n1,n2];omega)
 .split
  .exact h2
  .first
   |exact h2.bypassed hok q5 hft (by omega) k x
   |(rw[if_pos q1];exact h2.bypassed hok q5 hft (by omega) k x)
theorem CaS.Hi.thru(h:a.Hi n Z)(hok:n.Ok)(ht:a.Tie n none)(hg:a.Jg n)(hf:a.Fit N)(hN:N+3*n.pa+n.jo+6<=1000000){k:Nat}(hk:k<n.bl)(x:Bk):(a.thru n k x).1.Hi n Z:=by
 have hj:=hok.j1;have h1:=h.n1;have h2:=h.takes hok ht hf (by omega);have hft:=hf.takes' hg h1 hj;unfold CaS.thru;rcases CaS.Tie.takes ht h1 hj with⟨q1,q2,q3,s,q4,q5⟩|⟨q1,q5⟩
 .rw [if_neg (by omega),if_neg (by rw[q1];decide),q4,qxu];obtain⟨b,hb⟩:=qqe ((a.takes n).1.bdev (writeR (a.takes n).1.bF (a.takes n).1.bO (a.takes n).1.bP k x));have hB:b.Hi n Z:=by rw[hb];exact h2.bdev _
  have tB:b.Tie n (some s):=by rw[hb];exact q5
  have fB:b.Fit (N+2*n.pa+n.jo+1+1):=by rw[hb];exact hft.bw k x
  have nB:b.next+1<=b.cov+n.jo:=by rw[hb];exact q3
  obtain⟨f1,f2⟩:=hB.filled tB (k:Int) x;unfold CaS.thruS CaS.thruF;rw[<-hb];split
  .refine hB.turn _ (fun r hr=>?_);rw[show(a.takes n).1.st=b.st by rw[hb]];exact wo _ _ r hr
  obtain⟨n1,n2⟩:=yH n b s (k:Int) x;split
  .next hc=>
   obtain⟨-,t2⟩:=(CaS.Tie.filled tB (k:Int) x).resolve_left (fun e=>hc e.1);exact f1.byp hok t2 (fB.filled s (k:Int) x) (by omega) (by rw[n1,n2];omega) k
  .next hc=>
   have hc:=qxq hc;obtain⟨-,t2⟩:=(CaS.Tie.filled tB (k:Int) x).resolve_right (fun e=>e.1 hc);exact f1.putted hok t2 (fB.filled s (k:Int) x) (by omega) hk x false (f2 hc) (by rw[n1,n2];omega)
 .split
  .exact h2
  .first
   |exact h2.bypassed hok q5 hft (by omega) k x
   |(rw[if_pos q1];exact h2.bypassed hok q5 hft (by omega) k x)
theorem CaS.Hi.cleaned(h:a.Hi n Z)(hok:n.Ok)(ht:a.Tie n none)(hf:a.Fit N)(hN:N+n.pa+1<=1000000)(k:Int):(a.cleaned n k).1.Hi n Z:=by
 have hr:=h.roomed hok ht;have htr:=CaS.Tie.roomed ht;have hfr:=hf.roomed (n:=n);have h1:=h.n1;obtain⟨hn1,hn2⟩:=a.roomed_next n;have hsu:=(a.same_roomed n).sums;have htc:=TieL.clean htr k;unfold CaS.cleaned;split
 .exact h
 next hg=>
 split
 .exact hr
 next hc=>
 have hg:=qxq hg;have hroom:=CaS.roomed_room (qxq hc) h1 hok.j1;obtain⟨m,hm,rfl,hn⟩:=zQ.1 hg;obtain⟨E,R,f0,com,fp,hs⟩:=hr;have hmb:m<n.bl:=by rw[<-ht.hpl];exact hm
 obtain⟨s,hsl,he,-⟩:=ht.slot hmb hn;have hb2:=hok.b2;have hs2:=hok.s2;rw[yZ hm hn,he];have hsum:(a.sums (m:Int)).getD 0<=4294967295:=by
  cases hq:a.sums (m:Int)with
  |none=>simp
  |some v=>exact hf.sm _ _ hq
 rw[hn2]at htc;refine hs.noteSet (o':=none) htr _ htc hfr.sm hmb ((s:Int),false) 0 (s:Int) false ((a.sums (m:Int)).getD 0:Nat) (.inl ⟨rfl,rfl,fun e=>by have:=congrArg Prod.fst e;simp only at this;omega,?_⟩) ⟨rfl,rfl,rfl⟩ ⟨rfl,rfl,rfl,rfl⟩ (wF false hs.n1 (by have:=hfr.nx;omega) (by have:=hok.j1;omega) ⟨by omega,by omega⟩ (by omega) hsum) (by omega) (fun r hr=>hr) ?_ (fun _ _=>rfl) (fun _=>?_)
 .show (((a.roomed n).1.sums (m:Int)).getD 0:Int)=_;rw[hsu]
 .show cleanL a.ps (m:Int)=(a.roomed n).1.ps.set m _;unfold cleanL;rw[if_pos hg,yZ hm hn,he,hn2,qxu]
 .show crcC (curB (a.roomed n).1.dF (a.roomed n).1.dO (n.slot0+s))=((a.roomed n).1.sums (m:Int)).getD 0;have c2:=hs.c2;refine(hs.sl ((a.roomed n).1.next-1) (by omega) (by omega) ⟨m,s,(plc a.ps m).2,((a.roomed n).1.sums (m:Int)).getD 0⟩ ?_).2;rw[hs.cur];refine(CaS.ents_mem htr.hpl).2 ⟨m,hmb,by rw[hn2];exact hn,?_⟩;rw[hn2,he,qxu]
theorem CaS.Hi.readB(h:a.Hi n Z)(k:Int):(a.readB n k).1.Hi n Z:=by
 rcases a.readB_eq n k with e|e|e<;>rw[e]
 .exact h
 .obtain ⟨E,R,f0,com,fp,h⟩:=h;exact Hs.hi (E:=E) (R:=R) (f0:=f0) (com:=com) (fp:=fp) {h with}
 .obtain ⟨E,R,f0,com,fp,h⟩:=h;exact h.tail.hi
theorem CaS.Hi.back14(h:a.Hi n Z)(hok:n.Ok)(hg:a.Gd n N)(hN:N+n.pa+2<=1000000)(k:Int):(a.back14 n k).1.Hi n Z:=by
 have h1:=h.readB k;have g1:=hg.readB k;have h2:CaS.Tie n ((a.readB n k).1.bdev (writeR (a.readB n k).1.bF (a.readB n k).1.bO (a.readB n k).1.bP k.toNat (a.readB n k).2.1)).fb none:=g1.tie;have f2:=(g1.fit.bw k.toNat (a.readB n k).2.1).fb;unfold CaS.back14 CaS.back14w CaS.back14f;split
 .exact h
 split
 .exact h1
 split
 .exact h1.bdev _
 split
 .exact (h1.bdev _).bdev _
 .exact ((h1.bdev _).bdev _).cleaned hok h2 f2 (by omega) k
theorem CaS.Hi.does14(h:a.Hi n Z)(hok:n.Ok)(hg:a.Gd n N)(hj:a.Jg n)(hN:N+3*n.pa+n.jo+6<=1000000)(dd blk:Int)(nv:Nat)(md:Int):(a.does14 n dd blk nv md).1.Hi n Z:=by
 have hmm:nv%4*(n.pa+1)<=3*(n.pa+1):=qYb _ (by omega);unfold CaS.does14;split
 .unfold CaS.wrote;split
  .exact h
  split
  .exact h
  split
  .exact h.backed hok hg.tie hj hg.fit hN (by omega) _
  split
  .exact h.thru hok hg.tie hj hg.fit hN (by omega) _
  .exact h.bypassed hok hg.tie hg.fit (by omega) _ _
 split
 .unfold CaS.gone;split
  .exact h
  .exact h.bypassed hok hg.tie hg.fit (by omega) _ _
 split
 .exact h.readB blk
 split
 .exact h.committed hok hg.tie
 split
 .exact h.ckpt hok hg.tie
 split
 .exact CaS.Hi.evicts _ 0 h hok hg.tie hg.fit (by omega)
 split
 .exact h.back14 hok hg (by omega) blk
 split
 .obtain ⟨E,R,f0,com,fp,h⟩:=h;unfold CaS.plan14;split
  .refine Hs.hi (E:=E) (R:=R) (f0:=f0) (com:=com) (fp:=fp) {h with pl:=fun x hx=>?_};replace hx:x∈a.dP++[((nv%2:Nat):Int)]:=hx;rcases qzq.1 hx with hx|hx
   .exact h.pl x hx
   .rw [qzy.1 hx];omega
  .exact Hs.hi (E:=E) (R:=R) (f0:=f0) (com:=com) (fp:=fp) {h with}
 .exact h
end
theorem QF{xs:List Int}(hx:xs.length=7)(h:mayR xs=true):okR (sectR xs)=true/\natsI (numsR (sectR xs))=xs:=by
 obtain⟨h0,hf⟩:=rC hx h;obtain⟨s1,s2⟩:=uM (k:=2) (by decide) (sz:=szR) (by rw[hx];rfl) h0 hf (mayR (natsI (numsR (sectR xs))));have h3:natsI (numsR (sectR xs))=xs:=s2;refine⟨?_,h3⟩;unfold okR;rw[show okGet (sectR xs) 2 szR (mayR (natsI (numsR (sectR xs))))=mayR (natsI (numsR (sectR xs)))from s1,h3];exact h
theorem Er:okR zB=false:=by kernel_rfl
theorem WT{α:Type}(f:α->Int):∀{L L':List α},L.Pairwise (fun x y=>f x<f y)->L'.Pairwise (fun x y=>f x<f y)->(∀x,x∈L↔x∈L')->L=L'
 |[],[],_,_,_=>rfl
 |[],y::L',_,_,h=>by cases (h y).2 qzt
 |x::L,[],_,_,h=>by cases (h x).1 qzt
 |x::L,y::L',h1,h2,h=>by
  rw[List.pairwise_cons]at h1 h2;have exy:x=y:=by
   rcases qzr.1 ((h x).1 qzt)with e|hx
   .exact e
   .rcases qzr.1 ((h y).2 qzt)with e|hy
    .exact e.symm
    .have:=h1.1 y hy;have:=h2.1 x hx;omega
  subst exy
  congr 1
  refine WT f h1.2 h2.2 (fun z=>⟨fun hz=>?_,fun hz=>?_⟩)
  .rcases qzr.1 ((h z).1 (qzs _ hz))with rfl|hz'
   .have:=h1.1 _ hz;omega
   .exact hz'
  .rcases qzr.1 ((h z).2 (qzs _ hz))with rfl|hz'
   .have:=h2.1 _ hz;omega
   .exact hz'
def Al(R:Nat->List Int)(t:Nat):List Nat:=numsR (sectR (R t))
section
variable{n:CaN}{Z:Nat->Bk}{a:CaS}{E:Nat->List Ent}{R:Nat->List Int}{f0 com fp:Nat}
theorem Hs.recN(h:Hs n Z a E R f0 com fp){t:Nat}(h1:f0<t)(h2:t<a.next):natsI (Al R t)=R t/\rseq (Al R t)=t/\YJ n.jo ((t-1)%n.jo) (sectR (R t))=true:=by
 obtain⟨⟨q1,q2,q3,q4⟩,-⟩:=h.rc t h1 h2;obtain⟨e1,e2⟩:=QF q1 q2;have g0:(numsR (sectR (R t))).getD 0 0=t:=by
  have:=yi (numsR (sectR (R t))) 0;rw[e2,q3]at this;omega
 have g1:(numsR (sectR (R t))).getD 1 0=(t-1)/n.jo:=by
  have:=yi (numsR (sectR (R t))) 1;rw[e2,q4]at this;exact(Int.ofNat_inj.1 this).symm
 refine⟨e2,g0,?_⟩;unfold YJ;rw[e1,g0,g1];simp
theorem Hs.newest(h:Hs n Z a E R f0 com fp)(hok:n.Ok)(hN:a.next<=1099511627776):∃wh s0,wh<=1/\a.cov<=s0/\s0<=fp/\nwS a.dF [] 1 n.pa 2=(true,wh,s0,E s0):=by
 have c1:=h.c1;have c3:=h.c3;have c4:=h.c4;have hown:readOk (secsOf a.dF [] (1+a.which*n.pa) n.pa)=true/\readSeq (secsOf a.dF [] (1+a.which*n.pa) n.pa)=a.cov/\readEs (secsOf a.dF [] (1+a.which*n.pa) n.pa)=E a.cov:=by
  obtain⟨n1,n2,n3⟩:=(h.en a.cov (by omega)).need hok;refine vC (by omega) n3 n2 (by rw[yC];exact n1) (fun i hi=>?_);rw[yC]at hi;rw[tK _ _ _ _ _ hi];exact h.sd i hi
 have hoth:readOk (secsOf a.dF [] (1+(1-a.which)*n.pa) n.pa)=true->∃s,s<=fp/\readSeq (secsOf a.dF [] (1+(1-a.which)*n.pa) n.pa)=s/\readEs (secsOf a.dF [] (1+(1-a.which)*n.pa) n.pa)=E s:=fun hr=>by
  obtain⟨s,s1,s2,s3,-⟩:=Um (H:=E) (top:=fp) (by omega) (fun s hs=>((h.en s (by omega)).need hok).2.2) (fun s hs=>((h.en s (by omega)).need hok).2.1) (l:=secsOf a.dF [] (1+(1-a.which)*n.pa) n.pa) (fun i hi=>by
   rw[yC]at hi;rw[tK _ _ _ _ _ hi];exact h.so i hi) hr
  exact⟨s,s1,s2,s3⟩
 obtain⟨r1,r2,r3⟩:=hown;rcases(show a.which=0\/a.which=1 by have:=h.wh;omega)with e|e
 .rw [e]at r1 r2 r3 hoth;rw[show(1:Nat)-0=1 from rfl]at hoth;have e1:nwS a.dF [] 1 n.pa 1=(true,0,a.cov,E a.cov):=by
   rw[nwS,r1,r2,r3];rfl
  rw[nwS,e1];split
  .next hc=>
   rw[qxo]at hc;obtain⟨s,s1,s2,s3⟩:=hoth hc.1;rw[s2,s3];have hlt:a.cov<s:=by
    have:=hc.2;rw[s2]at this;simpa using this
   exact⟨1,s,qXv _,by omega,s1,rfl⟩
  .exact ⟨0,a.cov,by omega,qXv _,by omega,rfl⟩
 .rw [e]at r1 r2 r3 hoth;rw[show(1:Nat)-1=0 from rfl]at hoth;rw[nwS,r1,r2,r3];rw[qxp];cases hq:readOk (secsOf a.dF [] (1+0*n.pa) n.pa)with
  |false=>
   have e1:nwS a.dF [] 1 n.pa 1=(false,0,0,[]):=by rw[nwS,hq];rfl
   rw[e1];exact⟨1,a.cov,qXv _,qXv _,by omega,rfl⟩
  |true=>
   obtain⟨s,s1,s2,s3⟩:=hoth hq;have e1:nwS a.dF [] 1 n.pa 1=(true,0,s,E s):=by rw[nwS,hq,s2,s3];rfl
   rw[e1];by_cases hlt:s<a.cov
   .rw [if_pos (by simp[hlt])];exact⟨1,a.cov,qXv _,qXv _,by omega,rfl⟩
   .rw [if_neg (by simp[hlt])];exact⟨0,s,by omega,by omega,s1,rfl⟩
theorem Hs.scan(h:Hs n Z a E R f0 com fp):∀k,k<=n.jo->
  (∀r∈scanTo a.dF [] n.jb n.jo k,∃t,f0<t/\t<=fp/\(t-1)%n.jo<k/\r=Al R t)/\(scanTo a.dF [] n.jb n.jo k).Pairwise (fun x y=>rseq x≠rseq y)/\(∀t,a.cov<t->t<=com->(t-1)%n.jo<k->Al R t∈scanTo a.dF [] n.jb n.jo k)
 |0,_=>⟨fun r hr=>(by cases hr),List.Pairwise.nil,fun t _ _ h=>(by omega)⟩
 |k+1,hk=>by
  obtain⟨i1,i2,i3⟩:=Hs.scan h k (by omega);have c4:=h.c4;have hcur:curB a.dF [] (n.jb+k)=a.dF.getD (n.jb+k) zB:=rfl;have hnew:∀r∈scL n.jo k (a.dF.getD (n.jb+k) zB),∃t,f0<t/\t<=fp/\(t-1)%n.jo=k/\r=Al R t:=fun r hr=>by
   rcases h.jr k (by omega)with e|⟨t,t1,t2,t3,e⟩
   .rw [e]at hr;unfold scL YJ at hr;rw[Er]at hr;simp at hr
   .rw [e]at hr;unfold scL at hr;split at hr
    .exact ⟨t,t1,t2,t3,qzy.1 hr⟩
    .cases hr
  rw[scanTo,hcur];refine⟨fun r hr=>?_,?_,fun t t1 t2 t3=>?_⟩
  .rcases qzq.1 hr with hr|hr
   .obtain ⟨t,t1,t2,t3,e⟩:=i1 r hr;exact⟨t,t1,t2,by omega,e⟩
   .obtain ⟨t,t1,t2,t3,e⟩:=hnew r hr;exact⟨t,t1,t2,by omega,e⟩
  .rw [List.pairwise_append];refine⟨i2,?_,fun x hx y hy e=>?_⟩
   .unfold scL;split
    .exact List.pairwise_singleton _ _
    .exact List.Pairwise.nil
   .obtain ⟨t,t1,t2,t3,rfl⟩:=i1 x hx;obtain⟨t',p1,p2,p3,rfl⟩:=hnew y hy;rw[(h.recN t1 (by omega)).2.1,(h.recN p1 (by omega)).2.1]at e;subst e;omega
  .rw [qzq];by_cases hlt:(t-1)%n.jo<k
   .exact .inl (i3 t t1 t2 hlt)
   .right
    have hk2:(t-1)%n.jo=k:=by omega
    have hw:=h.jw t t1 t2;rw[hk2]at hw;rw[hw];unfold scL;have:=(h.recN (t:=t) (by have:=h.f1;omega) (by have:=h.c3;omega)).2.2;rw[hk2]at this;rw[if_pos this];exact qzy.2 rfl
theorem WU{L:List (List Nat)}(hs:L.Pairwise (fun x y=>rseq x<rseq y))(s0:Nat):∀k,k<=L.length->
  (repS (L.take k) s0).l=s0+(repS (L.take k) s0).d.length/\(∀i (hi:i<(repS (L.take k) s0).d.length),rseq (repS (L.take k) s0).d[i]=s0+1+i/\(repS (L.take k) s0).d[i]∈L)/\
   (∀r∈L.take k,rseq r<=(repS (L.take k) s0).l\/(repS (L.take k) s0).l+1<rseq r)/\(∀r∈L.take k,rseq r<=(repS (L.take k) s0).g)/\s0<=(repS (L.take k) s0).g/\(repS (L.take k) s0).l<=(repS (L.take k) s0).g/\((repS (L.take k) s0).g=s0\/∃r∈L,rseq r=(repS (L.take k) s0).g)
 |0,_=>by
  rw[List.take_zero];exact⟨rfl,fun i hi=>absurd hi (Nat.not_lt_zero _),fun r hr=>(by cases hr),fun r hr=>(by cases hr),qXv _,qXv _,.inl rfl⟩
 |k+1,hk=>by
  obtain⟨h1,h2,h3,h4,h5,h6,h7⟩:=WU hs s0 k (by omega);have hk':k<L.length:=by omega
  rw[uO L s0 hk'];have hlt:∀r∈L.take k,rseq r<rseq L[k]:=fun r hr=>by
   obtain⟨i,hi,rfl⟩:=qza hr;rw[qzk]at hi;rw[List.getElem_take];exact qXe.1 hs i k (by omega) hk' (by omega)
  have hmem:∀{r},r∈L.take (k+1)->r∈L.take k\/r=L[k]:=fun{r} hr=>by
   rw[qXq hk',qzq,qzy]at hr;exact hr
  obtain⟨s,hsd⟩:=qqe (repS (L.take k) s0);rw[<-hsd]at h1 h2 h3 h4 h5 h6 h7⊢;have hg:∀s':RepS,s'.g=max s.g (rseq L[k])->(∀r∈L.take (k+1),rseq r<=s'.g)/\s0<=s'.g/\(s'.g=s0\/∃r∈L,rseq r=s'.g):=fun s' e=>by
   refine⟨fun r hr=>?_,by rw[e];omega,?_⟩
   .rcases hmem hr with hr|rfl
    .have:=h4 r hr;rw[e];omega
    .rw [e];omega
   .rcases Nat.le_total s.g (rseq L[k])with hle|hle
    .exact .inr ⟨L[k],qyz hk',by rw[e];omega⟩
    .rw [e,Nat.max_eq_left hle];exact h7
  unfold repStep;split
  .next he=>
   obtain⟨g1,g2,g3⟩:=hg ⟨s.d++[L[k]],max s.g (rseq L[k]),rseq L[k]⟩ rfl;refine⟨by show rseq L[k]=s0+(s.d++[L[k]]).length;rw[qzd];simp;omega,fun i hi=>?_,fun r hr=>?_,g1,g2,by show rseq L[k]<=max _ _;omega,g3⟩
   .show rseq (s.d++[L[k]])[i]=_/\(s.d++[L[k]])[i]∈L;have hi:i<(s.d++[L[k]]).length:=hi;rw[qzd]at hi;by_cases hid:i<s.d.length
    .rw [List.getElem_append_left hid];exact h2 i hid
    .have:i=s.d.length:=by simp at hi;omega
     subst this;rw[List.getElem_append_right (qXv _)];simp only[Nat.sub_self,qyx];exact⟨by omega,qyz hk'⟩
   .show rseq r<=rseq L[k]\/rseq L[k]+1<rseq r;rcases hmem hr with hr|rfl
    .exact .inl (by have:=hlt r hr;omega)
    .exact .inl (qXv _)
  .next he=>
   obtain⟨g1,g2,g3⟩:=hg ⟨s.d,max s.g (rseq L[k]),s.l⟩ rfl;refine⟨h1,h2,fun r hr=>?_,g1,g2,by show s.l<=max _ _;omega,g3⟩;show rseq r<=s.l\/s.l+1<rseq r;rcases hmem hr with hr|rfl
   .exact h3 r hr
   .omega
end
theorem Es{D:Nat->Prop}{w:World}{b p1 p2 p3 p4 g:Nat}{F:List Bk}{O:List (Nat×Bk)}{base n:Nat}(h:ScI D w b p4 F O [] w)(hD:∀j,w.heap.size<=j->D j)(h4:p4<w.heap.size/\¬D p4)
  (h1:w.cell? ⟨p1,0,none⟩=some (.pointer (some ⟨b,0,none⟩))/\¬D p1/\p1≠p4) (h2:w.cell? ⟨p2,0,none⟩=some (.int .i64 (n:Int))/\¬D p2/\p2≠p4) (h3:w.cell? ⟨p3,0,none⟩=some (.int .i64 (base:Int))/\¬D p3/\p3≠p4)
  (hg:w.heap[g]?=some (.cells (ints (secL base n n)).toArray 3 (0,0))/\¬D g/\g≠p4) (hn:n<=1024) (hbn:base+n<=F.length) (hN:Nib w) (hND:¬D 0/\0≠p4):
  Calls Tryz.prog 104 #[.slice (some ⟨g,0,none⟩) n n,.func (.func 106) #[] #[.pointer (some ⟨p1,0,none⟩),.pointer (some ⟨p2,0,none⟩),.pointer (some ⟨p3,0,none⟩),.pointer (some ⟨p4,0,none⟩)]] w fun e w'=>
   e=.returned (.int .i64 0)/\ScI D w b p4 F O (scanTo F O base n n) w':=by
 have H:=Y9 h hD h4 h1 h2 h3 hg hN hND;clear h hD h4 h1 h2 h3 hg hN hND;go_enter Tryz.func104,Tryz.ntmps104
 go_wp2
 go_step3
 go_wp2
 go_step3
 go_wp2_with fail
 go_loopg[5,10] n (fun gk s5 s10 wr=>∃k:Nat,k+gk=n/\s10=.int .i64 (k:Int)/\s5=.int .i64 0/\ScI D w b p4 F O (scanTo F O base n k) wr)
 case atStart=>exact⟨0,by omega,rfl,rfl,H.o.1⟩
 case round=>
  obtain⟨k,hk,rfl,rfl,hS⟩:=hrel;by_cases hlt:k<n
  .have k1:(k:Int)<(n:Int):=by omega
   have k0:(0:Int)<=(k:Int):=by omega
   obtain⟨h,hD,h4,h1,h2,h3,hg,hN,hND⟩:=H.o;have hgr:=(hS.1.block g (zd hg.1) (fun h=>h.elim hg.2.1 hg.2.2)).trans hg.1;have cg:wr.cell? ⟨g,k,none⟩=some (.int .i64 ((base:Int)+(k:Int))):=by
    rw[za hgr,qyv,yp (by rw[Yw];exact hlt)];simp only[secL,qyy,List.getElem_range,if_pos hlt,qxt]
   have HC:=qqh (AN (k:=k) hS hD h4 h1 h2 h3 hlt hn hbn (qXx (xZ F O base n k) (by omega)) hN hND);clear h hD h4 h1 h2 h3 hg hN hND hgr hS;go_wp2_with fail
   refine HC.o.mono ?_;rintro e w2 ⟨rfl,hS2⟩;have HS2:=qqh hS2;clear hS2 HC cg;go_wp2_with fail
   go_roundg (gk-1)
   case measure=>omega
   case rel=>exact⟨k+1,by omega,by go_num,rfl,HS2.o⟩
  .obtain rfl:k=n:=by omega
   have k1:¬((k:Int)<(k:Int)):=by omega
   have HS2:=qqh hS;clear hS;go_wp2_with fail
   try rw[qxr]
   go_ret
   exact⟨rfl,HS2.o⟩
open Go Go.RowKit Go.Shelf Go.Lib Go.Sort
variable{α:Type}[Inhabited α]
theorem qL(enc:α->List Value){k:Nat}(hk:∀x,(enc x).length=k)(h0:0<k):∀(L:List α) (j:Nat),j<L.length*k->(L.flatMap enc)[j]?=some ((enc L.toArray[j/k]!)[j%k]!)
 |[],j,h=>by simp at h
 |x::L,j,h=>by
  rw[qyg];by_cases hj:j<k
  .rw [qyi (by rw[hk];exact hj),Nat.div_eq_of_lt hj,qXz hj,qyn (by rw[hk];exact hj)];simp[hk,hj]
  .rw [qyj (by rw[hk];omega),hk,qL enc hk h0 L (j-k) (by simp[Nat.succ_mul]at h;omega)];have e1:j/k=(j-k)/k+1:=by rw[<-Nat.add_div_right _ h0,Nat.sub_add_cancel (by omega)]
   have e2:j%k=(j-k)%k:=by rw[<-Nat.add_mod_right (j-k) k,Nat.sub_add_cancel (by omega)]
   rw[e1,e2];have:(x::L).toArray[(j-k)/k+1]! =L.toArray[(j-k)/k]!:=by simp
   rw[this]
theorem YL{w:World}{e:TypeId}{enc:α->List Value}{k:Nat}(hk:∀x,(enc x).length=k)(h0:0<k){g off cap:Nat}{L:List α}(h:Sl w e k (.slice (some ⟨g,off,none⟩) L.length cap) L.length (L.flatMap enc)):HoldsK enc k w g off L.toArray:=by
 obtain⟨hl,⟨hv,-⟩|⟨g',off',cap',cur,hv,hg,-,-,-,hc⟩⟩:=h
 .cases hv
 .cases hv;intro j hj;rw[size_flatK]at hj;simp only[qXm]at hj;refine⟨?_,zf hg _⟩;rw[za hg,get_flatK _ _ _ _ (by simpa using hj)];exact hc j _ (qL enc hk h0 L j hj)
theorem sh{w:World}{e:TypeId}{enc:α->List Value}{k:Nat}(hk:∀x,(enc x).length=k)(h0:0<k){g off cap:Nat}{L:List α}(h:Sl w e k (.slice (some ⟨g,off,none⟩) L.length cap) L.length (L.flatMap enc))(d:Array α)(hd:d.size=L.length)(n:Nat)(os:Array Obj):
  Sl (sortWorldK enc k w g off n d os) e k (.slice (some ⟨g,off,none⟩) L.length cap) L.length (d.toList.flatMap enc)/\Upd (fun j=>j=g) w (sortWorldK enc k w g off n d os):=by
 obtain⟨hl,⟨hv,-⟩|⟨g',off',cap',cur,hv,hg,hnc,hcm,hsz,hc⟩⟩:=h
 .cases hv
 .cases hv;have hgl:=zd hg;have hgl':g<(w.heap.modify g (onCells (putCells id off (flatK enc k d)))).size:=by simpa using hgl
  have hheap:(sortWorldK enc k w g off n d os).heap=w.heap.modify g (onCells (putCells id off (flatK enc k d)))++os:=rfl;have hb:(sortWorldK enc k w g off n d os).heap[g]?=some (.cells (putCells id off (flatK enc k d) cur) e (0,0)):=by
   rw[hheap,Array.getElem?_append_left hgl',Array.getElem?_modify,if_pos rfl,hg];rfl
  have hlen:(d.toList.flatMap enc).length=L.length*k:=by rw[yE (f:=enc) hk,qxh,hd]
  refine⟨⟨hlen,.inr ⟨g,off,cap,_,rfl,hb,hnc,hcm,by simpa[putCells]using hsz,fun j u hj=>?_⟩⟩,rfl,rfl,rfl,by rw[hheap];simp,fun i hi hs=>?_⟩
  .have hjl:j<L.length*k:=by rw[<-hlen];exact(qyp.1 hj).1
   have hf:=qL enc hk h0 d.toList j (by rw[qxh,hd];exact hjl);rw[hf]at hj;have hoc:off+j<cur.size:=by have:=qYb k hnc;omega
   simp only[putCells,Array.getElem?_mapIdx,qxe hoc,Option.map_some];rw[if_pos ⟨by omega,by rw[size_flatK,hd];omega⟩,Nat.add_sub_cancel_left,get_flatK _ _ _ _ (by rw[hd];exact hjl)];simpa using hj
  .rw [hheap,Array.getElem?_append_left (by simpa using hi),Array.getElem?_modify,if_neg (fun e=>hs e.symm)]
end Go.Proofs.YtfhfbpmlnjdfoaaGreatDoor
namespace Go.Proofs.YtfhfbpmlnjdfoaaGreatDoor
open Go Go.RowKit
def qM(X:Int->World->Prop)(R:World->Prop)(e:Ending)(w':World):Prop:=∃c:Int,e=.returned (.int .i64 c)/\(c=0->R w')/\(c≠0->X c w')
theorem AO{g n:Nat}(hn:n<=100)(fd:Nat->Nat)(fi ca:Nat->Array Value)(R:Nat->World->Prop)(X:Int->World->Prop)
  (hc:∀k,k<n->∀W,R k W->W.cell? ⟨g,k,none⟩=some (.func (.func (fd k)) (fi k) (ca k)))
  (he:∀k,k<n->∀args W,(callFunc (fd k) args).run Tryz.prog W=.ok (.enter (fd k) args) W)
  (hs:∀k,k<n->∀W,R k W->Calls Tryz.prog (fd k) (fi k++ca k) W (qM X (R (k+1))))
  {w:World} (h0:R 0 w):Calls Tryz.prog 61 #[.slice (some ⟨g,0,none⟩) n n] w (qM X (R n)):=by
 have H:=Y3 hc hs h0;have HE:=qqh he;clear hc he hs h0;go_enter Tryz.func61,Tryz.ntmps61
 go_wp2
 go_step3
 go_wp2
 go_step3
 go_wp2_with fail
 go_loopg[3,8] n (fun gk s3 s8 wr=>∃k:Nat,k+gk=n/\s8=.int .i64 (k:Int)/\s3=.int .i64 0/\R k wr)
 case atStart=>exact⟨0,by omega,rfl,rfl,H.o.2.2⟩
 case round=>
  obtain⟨k,hk,rfl,rfl,hS⟩:=hrel;by_cases hlt:k<n
  .have k1:(k:Int)<(n:Int):=by omega
   have k0:(0:Int)<=(k:Int):=by omega
   have cg:=H.o.1 k hlt wr hS;have HC:=qqh (H.o.2.1 k hlt wr hS);have hent:=HE.o k hlt;clear hS;obtain⟨fk,hfk⟩:=qqe (fd k);obtain⟨ik,hik⟩:=qqe (fi k);obtain⟨ck,hck⟩:=qqe (ca k);rw[<-hfk,<-hik,<-hck]at cg HC;rw[<-hfk]at hent;clear hfk hik hck;go_wp2_with fail
   refine HC.o.mono ?_;rintro e w2 ⟨c,rfl,hr,hx⟩;clear HC cg hent;by_cases hc0:c=0
   .subst hc0;have HS2:=qqh (hr rfl);clear hr hx;go_wp2_with fail
    go_roundg (gk-1)
    case measure=>omega
    case rel=>exact⟨k+1,by omega,by go_num,rfl,HS2.o⟩
   .have q0:(c==0)=false:=by simpa using hc0
    have HZ:=Y2 hc0 (hx hc0);clear hr hx hc0;go_wp2_with fail
    try rw[qxr]
    go_ret
    exact⟨c,rfl,fun h=>absurd h HZ.o.1,fun _=>HZ.o.2⟩
  .obtain rfl:k=n:=by omega
   have k1:¬((k:Int)<(k:Int)):=by omega
   have HS2:=qqh hS;clear hS;go_wp2_with fail
   try rw[qxr]
   go_ret
   exact⟨0,rfl,fun _=>HS2.o,fun h=>absurd rfl h⟩
def sizeN(sl jo pa lo:Nat):Nat:=1+2*pa+jo+lo+lo+lo+sl
def qN(F G:List Bk)(z bl:Nat):Int:=if F.length=z/\G.length=bl then 0 else 22
theorem QG{S T:Nat->Prop}{w:World}{b bb:Nat}{F G:List Bk}{O Q:List (Nat×Bk)}{P R:List Int}(h:Dv S w b F O P)(h':Dv T w bb G Q R)(id:Int)(bl sl jo pa lo ba:Nat):
  Calls Tryz.prog 55 #[.agg (superC id bl sl jo pa lo ba).toArray,.agg (layC sl jo pa lo).toArray,.pointer (some ⟨b,0,none⟩),.pointer (some ⟨bb,0,none⟩)] w
   fun e w'=>e=.returned (.int .i64 (qN F G (sizeN sl jo pa lo) bl))/\Upd (fun _=>False) w w':=by
 obtain⟨U,hU⟩:=qqe (superC id bl sl jo pa lo ba);obtain⟨V,hV⟩:=qqe (layC sl jo pa lo);obtain⟨w1,hw1⟩:=qqe ((w.alloc (.cells U.toArray 40)).alloc (.cells V.toArray 43));have hu1:Upd (fun _=>False) w w1:=by rw[hw1];exact((uur _ w).alloc _).alloc _
 have g1:w1.heap[w.heap.size]?=some (.cells U.toArray 40):=by
  rw[hw1];exact(((uur (fun _=>False) (w.alloc (.cells U.toArray 40))).alloc (.cells V.toArray 43))).blockv (zc w _ rfl)
 have g2:w1.heap[w.heap.size+1]?=some (.cells V.toArray 43):=by rw[hw1];exact zc _ _ (by simp)
 have u1:w1.cell? ⟨w.heap.size,1,none⟩=some (.int .i64 (bl:Int)):=by rw[za g1,hU];simp[superC]
 have v6:w1.cell? ⟨w.heap.size+1,6,none⟩=some (.int .i64 ((sizeN sl jo pa lo:Nat):Int)):=by rw[za g2,hV];simp[layC,sizeN]
 have hS1:∀k,Calls Tryz.prog 47 #[.pointer (some ⟨b,0,none⟩)] (w1.drewN k) fun e w'=>e=.returned (.int .i64 (F.length:Int))/\w'=w1.drewN k:=fun k=>wW (h.new (hu1.trans ((uur (fun _=>False) w1).drewN k)));have hS2:∀k,Calls Tryz.prog 47 #[.pointer (some ⟨bb,0,none⟩)] (w1.drewN k) fun e w'=>e=.returned (.int .i64 (G.length:Int))/\w'=w1.drewN k:=fun k=>wW (h'.new (hu1.trans ((uur (fun _=>False) w1).drewN k)));have HS:=Y2 hS1 hS2;have HU:=qqh hu1;have HW:=qqh hw1;obtain⟨mc,hmc⟩:=qqe (qN F G (sizeN sl jo pa lo) bl);rw[<-hU,<-hV,<-hmc];unfold qN at hmc;generalize sizeN sl jo pa lo=z at*;generalize F.length=f at*;generalize G.length=g at*;have HM:=qqh hmc;clear h h' hS1 hS2 hu1 hw1 g1 g2 hU hV hmc;go_enter Tryz.func55,Tryz.ntmps55
 go_wp2_with fail
 rw[<-HW.o];by_cases hf:f=z
 .by_cases hg:g=bl
  .have e:mc=0:=by rw[HM.o,if_pos ⟨hf,hg⟩]
   subst hf hg e
   go_quiet((go_at_call 47;(first|with_reducible exact Calls.quiet_of_same (HS.o.1 _)|with_reducible exact Calls.quiet_of_same (HS.o.2 _))))
   have hu:=HU.o.trans ((uur (fun _=>False) w1).drewN nq);generalize w1.drewN nq=w2 at*;go_wp2
   go_ret
   exact⟨rfl,hu⟩
  .have e:mc=22:=by rw[HM.o,if_neg (fun h=>hg h.2)]
   have q1:¬(g:Int)=(bl:Int):=by omega
   have q2:((g:Int)==(bl:Int))=false:=by simpa using q1
   subst hf e;clear hg
   go_quiet((go_at_call 47;(first|with_reducible exact Calls.quiet_of_same (HS.o.1 _)|with_reducible exact Calls.quiet_of_same (HS.o.2 _))))
   have hu:=HU.o.trans ((uur (fun _=>False) w1).drewN nq);generalize w1.drewN nq=w2 at*;go_wp2
   go_ret
   exact⟨rfl,hu⟩
 .have e:mc=22:=by rw[HM.o,if_neg (fun h=>hf h.1)]
  have q1:¬(f:Int)=(z:Int):=by omega
  have q2:((f:Int)==(z:Int))=false:=by simpa using q1
  subst e;clear hf
  go_quiet((go_at_call 47;(first|with_reducible exact Calls.quiet_of_same (HS.o.1 _)|with_reducible exact Calls.quiet_of_same (HS.o.2 _))))
  have hu:=HU.o.trans ((uur (fun _=>False) w1).drewN nq);generalize w1.drewN nq=w2 at*;go_wp2
  go_ret
  exact⟨rfl,hu⟩
end Go.Proofs.YtfhfbpmlnjdfoaaGreatDoor
