/- The past of a -/
import Derived.Test.YtfhfbpmlnjdfoaaGreatDoorG38
namespace Go.Proofs.YtfhfbpmlnjdfoaaGreatDoor
open Go Go.RowKit Tryz
theorem qk{l:List EI}(hn:(l.map EI.b).Nodup){s:Int}{e:EI}:apM l s=some e↔e∈l/\e.b=s:=by
 have:∀(l:List EI),(l.map EI.b).Nodup->∀(f:Int->Option EI),(l.foldl apPut f) s=some e↔(e∈l/\e.b=s)\/(s∉l.map EI.b/\f s=some e):=by
  intro l
  induction l with
  |nil=>intro _ f;simp
  |cons x l ih=>
   intro hn f;rw[qzm,qXb]at hn;rw[List.foldl_cons,ih hn.2];unfold apPut;by_cases hs:s=x.b
   .subst hs;constructor
    .rintro (h|⟨h1,h2⟩)
     .exact .inl ⟨qzs _ h.1,h.2⟩
     .rw [if_pos rfl]at h2;cases h2;exact .inl ⟨qzt,rfl⟩
    .rintro (⟨h1,h2⟩|⟨h1,-⟩)
     .rcases qzr.1 h1 with rfl|h1
      .exact .inr ⟨hn.1,if_pos rfl⟩
      .exact .inl ⟨h1,h2⟩
     .exact absurd (by simp) h1
   .rw [if_neg hs];constructor
    .rintro (h|⟨h1,h2⟩)
     .exact .inl ⟨qzs _ h.1,h.2⟩
     .refine .inr ⟨?_,h2⟩;rw[qzm,qzr];exact fun h=>h.elim hs h1
    .rintro (⟨h1,h2⟩|⟨h1,h2⟩)
     .rcases qzr.1 h1 with rfl|h1
      .exact absurd h2.symm hs
      .exact .inl ⟨h1,h2⟩
     .refine .inr ⟨fun h=>h1 ?_,h2⟩;rw[qzm];exact qzs _ h
 simpa[apM]using this l hn (fun _=>none)
theorem vC{qs:List (Int×Bool)}{fr:Nat}{x:It9}:∀{m:Nat},x∈visTo qs fr m↔∃k,k<m/\qs.getD k (-1,false)≠(-1,false)/\x=(fr+k,qs.getD k (-1,false))
 |0=>by simp[visTo]
 |m+1=>by
  rw[visTo,qzq,vC];unfold uy;rw[<-qyh];constructor
  .rintro (⟨k,h1,h2⟩|h)
   .exact ⟨k,by omega,h2⟩
   .split at h
    .cases h
    .next hn=>exact⟨m,by omega,hn,qzy.1 h⟩
  .rintro ⟨k,h1,h2,rfl⟩;by_cases hk:k=m
   .subst hk
    right
    rw[if_neg h2];exact qzy.2 rfl
   .exact .inl ⟨k,by omega,h2,rfl⟩
theorem uG(qs:List (Int×Bool))(fr:Nat):∀m,(visTo qs fr m).Pairwise (fun x y=>x.1<y.1)
 |0=>List.Pairwise.nil
 |m+1=>by
  rw[visTo,List.pairwise_append];refine⟨uG qs fr m,?_,fun x hx y hy=>?_⟩
  .unfold uy;split
   .exact List.Pairwise.nil
   .exact List.pairwise_singleton _ _
  .obtain ⟨k,hk,-,rfl⟩:=vC.1 hx;unfold uy at hy;split at hy
   .cases hy
   .rw [qzy.1 hy];show fr+k<fr+m;omega
section
variable{n:CaN}{a b:CaS}
theorem CaS.jG(hl:a.ps.length=n.bl){x:Ent}:x∈a.ents n↔∃k,k<n.bl/\plc a.ps k≠(-1,false)/\x=⟨k,(plc a.ps k).1.toNat,(plc a.ps k).2,(a.sums (k:Int)).getD 0⟩:=by
 have e:spanL a.ps 0 n.bl=a.ps:=by unfold spanL;rw[qyc,<-hl,List.take_length]
 unfold CaS.ents;rw[e,qzv];constructor
 .rintro ⟨y,hy,rfl⟩;obtain⟨k,h1,h2,rfl⟩:=vC.1 hy;exact⟨k,by omega,h2,by simp[CaS.ent]⟩
 .rintro ⟨k,h1,h2,rfl⟩;exact⟨(0+k,plc a.ps k),vC.2 ⟨k,by omega,h2,rfl⟩,by simp[CaS.ent]⟩
theorem CaS.ents_sorted(n:CaN)(a:CaS):(a.ents n).Pairwise (fun x y=>x.b<y.b):=qXf.2 (uG _ _ _)
def CaS.mp(n:CaN)(a:CaS):Int->Option EI:=fun s=>if 0<=s/\s<(n.bl:Int)/\plc a.ps s.toNat≠(-1,false)then some ⟨s,(plc a.ps s.toNat).1,(plc a.ps s.toNat).2,((a.sums s).getD 0:Nat)⟩else none
theorem CaS.ents_mp{o:Option Nat}(ht:a.Tie n o):enM (a.ents n)=a.mp n:=by
 have hnd:(((a.ents n).map Ent.toI).map EI.b).Nodup:=by
  rw[qzn];refine qXf.2 ((a.ents_sorted n).imp fun h e=>?_);simp only[Function.comp,Ent.toI]at e;omega
 have hpos:∀k,k<n.bl->plc a.ps k≠(-1,false)->0<=(plc a.ps k).1:=fun k hk hn=>by
  obtain⟨s,-,e,-⟩:=ht.slot hk hn;rw[e];omega
 funext s
 apply Option.ext;intro e;unfold enM;rw[qk hnd];unfold CaS.mp;constructor
 .rintro ⟨h1,rfl⟩;obtain⟨x,hx,rfl⟩:=qzv.1 h1;obtain⟨k,hk,hn,rfl⟩:=(CaS.jG ht.hpl).1 hx;have:=hpos k hk hn;show(if 0<=(k:Int)/\(k:Int)<(n.bl:Int)/\plc a.ps (k:Int).toNat≠(-1,false)then _ else _)=some (Ent.toI _);rw[if_pos ⟨by omega,by omega,by rw[qxu];exact hn⟩];simp only[Ent.toI,qxu,Option.some.injEq,EI.mk.injEq,true_and,and_true];omega
 .intro h;split at h
  .next hc=>
   obtain⟨h0,h1,h2⟩:=hc;cases h;obtain⟨k,rfl⟩:=qxs h0;rw[qxu]at h2⊢;have:=hpos k (by omega) h2;refine⟨qzv.2 ⟨⟨k,(plc a.ps k).1.toNat,(plc a.ps k).2,(a.sums (k:Int)).getD 0⟩,(CaS.jG ht.hpl).2 ⟨k,by omega,h2,rfl⟩,?_⟩,rfl⟩;unfold Ent.toI;simp only[EI.mk.injEq,true_and];exact⟨by omega,trivial⟩
  .cases h
theorem CaS.ents_enok{o:Option Nat}(ht:a.Tie n o)(hsm:∀k v,a.sums k=some v->v<=4294967295):EnOk n (a.ents n):=by
 have hin:∀x∈a.ents n,∃k s:Nat,k<n.bl/\s<n.sl/\plc a.ps k≠(-1,false)/\(plc a.ps k).1=(s:Int)/\x.b=k/\x.s=s/\x.m=(a.sums (k:Int)).getD 0/\a.st.getD s 0=2:=fun x hx=>by
  obtain⟨k,hk,hn,rfl⟩:=(CaS.jG ht.hpl).1 hx;obtain⟨s,hs,e,h2⟩:=ht.slot hk hn;exact⟨k,s,hk,hs,hn,e,rfl,by show(plc a.ps k).1.toNat=s;rw[e,qxu],rfl,h2⟩
 refine⟨fun x hx=>?_,?_,a.ents_sorted n⟩
 .obtain ⟨k,s,hk,hs,-,-,e1,e2,e3,-⟩:=hin x hx;refine⟨by omega,by omega,?_⟩;rw[e3];cases hc:a.sums (k:Int)with
  |none=>simp
  |some m=>exact hsm _ _ hc
 .refine qXf.2 ((a.ents_sorted n).imp_of_mem fun{x y} hx hy hlt e=>?_);obtain⟨k,s,hk,hs,hn,e0,e1,e2,-⟩:=hin x hx;obtain⟨k',s',hk',hs',hn',e0',e1',e2',-⟩:=hin y hy;have:=ht.inj hk hk' (by rw[e0];omega) (by rw[e0,e0'];omega);omega
theorem CaS.ents_live{o:Option Nat}(ht:a.Tie n o){x:Ent}(hx:x∈a.ents n):x.s<n.sl/\a.st.getD x.s 0=2:=by
 obtain⟨k,hk,hn,rfl⟩:=(CaS.jG ht.hpl).1 hx;obtain⟨s,hs,e,h2⟩:=ht.slot hk hn;have e2:(plc a.ps k).1.toNat=s:=by rw[e,qxu]
 exact⟨by show(plc a.ps k).1.toNat<_;rw[e2];exact hs,by show a.st.getD (plc a.ps k).1.toNat 0=2;rw[e2];exact h2⟩
end
theorem EnOk.need{n:CaN}{L:List Ent}(h:EnOk n L)(hok:n.Ok):needN L.length<=n.pa/\needN L.length<=256/\∀x∈L,qJ x:=by
 have hl:L.length<=n.sl:=by
  have h1:=xo n.sl _ h.2.1 (fun s hs=>by
   obtain⟨x,hx,rfl⟩:=qzv.1 hs;exact(h.1 x hx).2.1)
  simpa using h1
 have h2:=Sh hl;have h3:=hok.p1;have h4:=hok.s2;have h5:=hok.b2;refine⟨by unfold needN at h2⊢;omega,by unfold needN at h2⊢;omega,fun x hx=>?_⟩;obtain⟨q1,q2,q3⟩:=h.1 x hx;exact⟨by omega,by omega,q3⟩
theorem tV.congr{E E':Nat->List Ent}{top i:Nat}{y:Bk}(h:tV E top i y)(he:∀s,s<=top->E' s=E s):tV E' top i y:=
 h.imp (fun h=>h) (fun⟨s,h1,h2,h3⟩=>⟨s,h1,by rw[he s h1];exact h2,by rw[he s h1];exact h3⟩)
theorem EN.congr{jo f0 top j:Nat}{R R':Nat->List Int}{y:Bk}(h:EN jo R f0 top j y)(he:∀t,t<=top->R' t=R t):EN jo R' f0 top j y:=
 h.imp (fun h=>h) (fun⟨t,h1,h2,h3,h4⟩=>⟨t,h1,h2,h3,by rw[he t h2];exact h4⟩)
section
variable{n:CaN}{Z:Nat->Bk}{a:CaS}{E:Nat->List Ent}{R:Nat->List Int}{f0 com fp:Nat}
theorem Hs.note(h:Hs n Z a E R f0 com fp)(b:CaS)(xs:List Int)(hd:b.dF=a.dF/\b.dO=a.dO/\b.dP=a.dP)(hc:b.cov=a.cov/\b.which=a.which/\b.next=a.next+1/\b.W=a.W++[(a.next,sectR xs)])
  (hx:xs.length=7/\mayR xs=true/\xs.getD 0 0=(a.next:Int)/\xs.getD 1 0=(((a.next-1)/n.jo:Nat):Int)) (hm:enM (b.ents n)=apR (enM (a.ents n)) xs) (he:EnOk n (b.ents n)) (hr:a.next<=a.cov+n.jo)
  (hs:∀s,a.st.getD s 0=2\/a.st.getD s 0=3->b.st.getD s 0=2\/b.st.getD s 0=3) (hn:∀x∈b.ents n,(b.st.getD x.s 0=2\/b.st.getD x.s 0=3)/\crcC (curB a.dF a.dO (n.jq+x.s))=x.m):
  Hs n Z b (fun t=>if t=a.next then b.ents n else E t) (fun t=>if t=a.next then xs else R t) f0 com fp:=by
 obtain⟨d1,d2,d3⟩:=hd;obtain⟨q1,q2,q3,q4⟩:=hc;have c2:=h.c2;have c3:=h.c3;have c4:=h.c4;have c1:=h.c1;have f1:=h.f1;have hE:∀t,t<a.next->(fun t=>if t=a.next then b.ents n else E t) t=E t:=fun t ht=>if_neg (by omega);have hR:∀t,t<a.next->(fun t=>if t=a.next then xs else R t) t=R t:=fun t ht=>if_neg (by omega);refine{
  pl:=by rw[d3];exact h.pl
  dl:=by rw[d1];exact h.dl
  f1:=by rw[q1];exact h.f1
  c1:=by rw[q1];exact h.c1
  c2:=by rw[q3,q4,qzd];simp;omega
  c3:=h.c3
  c4:=by rw[q3];omega
  c5:=by rw[q3,q1];omega
  wh:=by rw[q2];exact h.wh
  wq:=fun i hi=>?_
  rc:=fun t h1 h2=>?_
  en:=fun t h2=>?_
  cur:=?_
  fx:=by rw[d1];exact h.fx
  o0:=by
   rw[d2,q2];intro q hq;rcases h.o0 q hq with⟨i,i1,i2,i3⟩|⟨t,t1,t2,t3⟩|h3
   .exact .inl ⟨i,i1,i2,i3.congr (fun s hs=>hE s (by omega))⟩
   .exact .inr (.inl ⟨t,t1,t2,by rw[hR t (by omega)];exact t3⟩)
   .exact .inr (.inr h3)
  sd:=by rw[d1,q1,q2,if_neg (show¬a.cov=a.next by omega)];exact h.sd
  so:=by rw[d1,q2];exact fun i hi=>(h.so i hi).congr (fun s hs=>hE s (by omega))
  jr:=by rw[d1];exact fun j hj=>(h.jr j hj).congr (fun t ht=>hR t (by omega))
  jw:=by rw[d1,q1];exact fun t t1 t2=>by rw[if_neg (show¬t=a.next by omega)];exact h.jw t t1 t2
  sl:=fun t t1 t2 x hx=>?_
  sf:=by rw[d1];exact fun t t1 t2 x hx=>by rw[if_neg (show¬t=a.next by omega)]at hx;exact h.sf t t1 t2 x hx}
 .rw [q4]at hi⊢;rw[qzd]at hi;by_cases hw:i<a.W.length
  .rw [qyi hw,if_neg (show¬com+1+i=a.next by omega)];exact h.wq i hw
  .have:i=a.W.length:=by simp at hi;omega
   subst this;rw[qyj (qXv _),Nat.sub_self];have e:com+1+a.W.length=a.next:=by omega
   rw[e,if_pos rfl];rfl
 .rw [q3]at h2;by_cases ht:t=a.next
  .subst ht;rw[if_pos rfl,if_pos rfl,if_neg (by omega),h.cur];exact⟨hx,hm⟩
  .rw [if_neg ht,if_neg ht,if_neg (by omega)];exact h.rc t h1 (by omega)
 .rw [q3]at h2;by_cases ht:t=a.next
  .rw [if_pos ht];exact he
  .rw [if_neg ht];exact h.en t (by omega)
 .rw [q3];exact if_pos (by omega)
 .rw [q3]at t2;rw[d1,d2];by_cases ht:t=a.next
  .rw [if_pos ht]at hx;exact hn x hx
  .rw [if_neg ht]at hx;obtain⟨k1,k2⟩:=h.sl t t1 (by omega) x hx;exact⟨hs _ k1,k2⟩
theorem Hs.turn(h:Hs n Z a E R f0 com fp)(st:List Int)(hs:∀s,a.st.getD s 0=2\/a.st.getD s 0=3->st.getD s 0=2\/st.getD s 0=3):Hs n Z {a with st:=st} E R f0 com fp:=
 {h with sl:=fun t t1 t2 x hx=>⟨hs _ (h.sl t t1 t2 x hx).1,(h.sl t t1 t2 x hx).2⟩}
theorem Hs.freed{o:Option Nat}(h:Hs n Z a E R f0 com fp)(hc:com=a.next-1)(ht:a.Tie n o):Hs n Z {a with st:=freeTo a.st (pos a.st 3)} E R f0 com fp:=
 {h with
  sl:=fun t t1 t2 x hx=>by
   have t2:t<a.next:=t2;have:t=a.next-1:=by omega
   subst this;rw[h.cur]at hx;obtain⟨k1,k2⟩:=CaS.ents_live ht hx;refine⟨.inl ?_,(h.sl _ t1 t2 x (by rw[h.cur];exact hx)).2⟩;show(freeTo a.st (pos a.st 3)).getD x.s 0=2;rw[tc _ _ (by rw[ht.hsl];exact k1),k2];rfl}
theorem wB(st:List Int)(k:Int)(s:Nat)(h:st.getD s 0=2\/st.getD s 0=3):(turnList st k 3).getD s 0=2\/(turnList st k 3).getD s 0=3:=by
 unfold turnList;split
 .rw [yh];split
  .exact .inr rfl
  .exact h
 .exact h
end
def CaS.Hi(n:CaN)(Z:Nat->Bk)(a:CaS):Prop:=∃E R f0 com fp,Hs n Z a E R f0 com fp
section
variable{n:CaN}{Z:Nat->Bk}{a b:CaS}{E:Nat->List Ent}{R:Nat->List Int}{f0 com fp:Nat}{o:Option Nat}
theorem Hs.hi(h:Hs n Z a E R f0 com fp):a.Hi n Z:=⟨E,R,f0,com,fp,h⟩
theorem Hs.jy(h:Hs n Z a E R f0 com fp)(r:DRes):Hs n Z (a.jy r) E R f0 com fp:={h with}
theorem Hs.fb(h:Hs n Z a E R f0 com fp):Hs n Z a.fb E R f0 com fp:=h.jy _
theorem CaS.Hi.jy(h:a.Hi n Z)(r:DRes):(a.jy r).Hi n Z:=by obtain⟨E,R,f0,com,fp,h⟩:=h;exact(h.jy r).hi
theorem Hs.wrs:∀(L:List (Nat×Bk)) {a:CaS},Hs n Z a E R f0 com fp->(∀q∈L,q.1<n.jq/\OOk n a.which E R com fp q)->
  ((wrsR a.dF L a.dO a.dP).cd≠0\/(wrsR a.dF L a.dO a.dP).O=a.dO++L)/\Hs n Z (a.dev (wrsR a.dF L a.dO a.dP)) E R f0 com fp
 |[],a,h,_=>⟨.inr (by simp[wrsR]),h⟩
 |(s,y)::L,a,h,hL=>by
  obtain⟨h1,h2⟩:=hL _ qzt;obtain⟨hw1,hw2⟩:=h.jD s y h2 (fun h3=>absurd h1 (by show¬s<n.jq;omega));rw[wrsR];split
  .next hc=>
   have hO:=hw1.resolve_left (fun e=>e.1 hc);have ih:=Hs.wrs L hw2 (fun q hq=>hL q (qzs _ hq));rw[show(a.dev (writeR a.dF a.dO a.dP s y)).dF=a.dF from yu _ _ _ _ _]at ih;refine⟨ih.1.imp (fun h=>h) (fun h=>?_),ih.2⟩;rw[show(a.dev (writeR a.dF a.dO a.dP s y)).dO=a.dO++[(s,y)]from hO.2]at h;rw[show(writeR a.dF a.dO a.dP s y).O=a.dO++[(s,y)]from hO.2,h];simp
  .next hc=>exact⟨.inl hc,hw2⟩
theorem Hs.ckpt(h:Hs n Z a E R f0 com fp)(hok:n.Ok)(ht:a.Tie n o):(a.ckpt n).1.Hi n Z:=by
 have hj:1<=n.jo:=by have:=hok.j1;omega
 unfold CaS.ckpt;split
 .exact h.fb.hi
 split
 .next hc=>
  rcases h.fb.flush hj with⟨-,f⟩|⟨-,f,-⟩
  .exact f.hi
  .exact f.hi
 next hc=>
 have hc0:(flushR a.fb.dF a.fb.dO a.fb.dP).cd=0:=qxq hc;obtain⟨-,f2,f3⟩:=h.fb.flush hj|>.resolve_left (fun e=>e.1 hc0)
 obtain⟨b,hb⟩:=qqe (a.fb.fd);have f2:Hs n Z b E R f0 com (b.next-1):=by rw[hb];exact f2
 have f3:b.dO=[]:=by rw[hb];exact f3
 have htb:b.Tie n o:=by rw[hb];exact ht
 rw[<-hb];obtain⟨L,hL⟩:=qqe (ckO (1+(1-b.which)*n.pa) n.pa (pagesB (b.next-1) (b.ents n)));have hs0:=n.jH;have hwm:=Zf n.pa f2.wh;have hLq:∀q∈L,q.1<n.jq/\OOk n b.which E R com (b.next-1) q:=fun q hq=>by
  rw[hL]at hq;obtain⟨i,hi,rfl⟩:=qzv.1 hq;have hi:=qzx.1 hi;refine⟨by show 1+(1-b.which)*n.pa+i<n.jq;omega,.inl ⟨i,hi,rfl,?_⟩⟩;show tV E (b.next-1) i ((pagesB (b.next-1) (b.ents n)).getD i zB);rw[<-f2.cur];exact tp (qXv _) i
 obtain⟨g1,g2⟩:=Hs.wrs L f2 hLq;have hsv:b.svR n=saveR b.dF b.dO b.dP L:=by rw[hL];rfl
 have hF:=uS b.dF L b.dO b.dP;have key:∃fp',Hs n Z (b.dev (b.svR n)) E R f0 com fp'/\((b.svR n).cd=0->fp'=b.next-1/\(b.svR n).O=[]/\(b.svR n).F=flushF b.dF L):=by
  rw[hsv];unfold saveR;split
  .next hw=>
   have hO0:=g1.resolve_left (fun e=>e hw);have hO:(wrsR b.dF L b.dO b.dP).O=L:=by rw[hO0,f3];rfl
   rcases g2.flush hj with⟨k1,k2⟩|⟨k1,k2,k3⟩
   .rw [show(b.dev (wrsR b.dF L b.dO b.dP)).dF=b.dF from hF]at k1 k2;exact⟨b.next-1,k2,fun e=>absurd e k1⟩
   .have ek:=Zg g2.pl k1;rw[show(b.dev (wrsR b.dF L b.dO b.dP)).dF=b.dF from hF]at k1 k2 k3 ek;refine⟨b.next-1,k2,fun _=>⟨rfl,k3,?_⟩⟩;have:=congrArg DRes.F ek;rw[show(b.dev (wrsR b.dF L b.dO b.dP)).dO=L from hO]at this;exact(congrArg (fun O=>(flushR b.dF O (wrsR b.dF L b.dO b.dP).P).F) hO).trans this
  .next hw=>exact⟨b.next-1,g2,fun e=>absurd e hw⟩
 obtain⟨fp',k1,k2⟩:=key;split
 .exact k1.hi
 next hc2=>
 obtain⟨rfl,e2,e3⟩:=k2 (qxq hc2);have c1:=f2.c1;have c2:=f2.c2;have c4:=f2.c4;have hz:=n.size_eq;have hlen:(flushF b.dF L).length=n.size:=by rw[zC];exact f2.dl
 have hbl:b.dF.length=n.size:=f2.dl;refine Hs.hi (E:=E) (R:=R) (f0:=f0) (com:=b.next-1) (fp:=b.next-1) ?_;exact{k1 with
  f1:=by show f0<=b.next-1;have:=f2.f1;omega
  c1:=qXv _
  c2:=by show b.next-1+0+1=b.next;omega
  c3:=qXv _
  c5:=by show b.next<=b.next-1+n.jo+1;omega
  wh:=by show 1-b.which<=1;omega
  wq:=fun i hi=>absurd hi (Nat.not_lt_zero _)
  o0:=fun q hq=>by
   replace hq:q∈(b.svR n).O:=hq;rw[e2]at hq;cases hq
  sd:=fun i hi=>by
   show(b.svR n).F.getD (1+(1-b.which)*n.pa+i) zB=(pagesB (b.next-1) (E (b.next-1))).getD i zB;rw[e3,hL,wX,if_pos ⟨by omega,by omega,by omega⟩,f2.cur]
   congr 1
   omega
  so:=fun i hi=>by
   show tV E (b.next-1) i ((b.svR n).F.getD (1+(1-(1-b.which))*n.pa+i) zB);have hw2:1-(1-b.which)=b.which:=by have:=f2.wh;omega
   have:=k1.sd i hi;rw[hw2,show(b.svR n).F.getD (1+b.which*n.pa+i) zB=(pagesB b.cov (E b.cov)).getD i zB from this];exact tp (by omega) i
  jw:=fun t t1 t2=>absurd t2 (by have t1:b.next-1<t:=t1;omega)
  sl:=fun t t1 t2 x hx=>by
   have t2:t<b.next:=t2;have:t=b.next-1:=by omega
   subst this;have hx':x∈b.ents n:=by rw[<-f2.cur];exact hx
   obtain⟨q1,q2⟩:=CaS.ents_live htb hx';refine⟨.inl ?_,(k1.sl (b.next-1) (by omega) (by show b.next-1<b.next;omega) x hx).2⟩;show(freeTo b.st (pos b.st 3)).getD x.s 0=2;rw[tc _ _ (by rw[htb.hsl];exact q1),q2];rfl
  sf:=fun t t1 t2=>k1.sf t (by omega) t2}
theorem CaS.Hi.ckpt(h:a.Hi n Z)(hok:n.Ok)(ht:a.Tie n o):(a.ckpt n).1.Hi n Z:=by obtain⟨E,R,f0,com,fp,h⟩:=h;exact h.ckpt hok ht
theorem CaS.Hi.je(h:a.Hi n Z)(hok:n.Ok)(ht:a.Tie n o):(a.je n).1.Hi n Z:=by
 unfold CaS.je;split
 .exact h
 .exact h.ckpt hok ht
theorem CaS.Hi.jh(h:a.Hi n Z)(hok:n.Ok)(ht:a.Tie n o):(a.jh n).1.Hi n Z:=by
 obtain⟨E,R,f0,com,fp,h⟩:=h;obtain⟨com',fp',h2,h3⟩:=h.fb.cm (by have:=hok.j1;omega);unfold CaS.jh;split
 .exact h.fb.hi
 split
 .exact h2.hi
 .next hc=>
  obtain⟨e1,-,-⟩:=h3 (qxq hc);exact(h2.freed (o:=o) e1 ht).hi
theorem CaS.Hi.turn(h:a.Hi n Z)(st:List Int)(hs:∀s,a.st.getD s 0=2\/a.st.getD s 0=3->st.getD s 0=2\/st.getD s 0=3):({a with st:=st}:CaS).Hi n Z:=by
 obtain⟨E,R,f0,com,fp,h⟩:=h;exact(h.turn st hs).hi
theorem CaS.Hi.ev(h:a.Hi n Z):(a.ev n).Hi n Z:=by
 obtain⟨E,R,f0,com,fp,h⟩:=h;exact Hs.hi (E:=E) (R:=R) (f0:=f0) (com:=com) (fp:=fp) {h with}
theorem Si(f:Int->Option EI)(next jo:Nat)(op k s:Int)(d:Bool)(sum:Int):apR f (jaddX next jo op k s d sum)=fun x=>if x=k then(if op=0 then some ⟨k,s,d,sum⟩else none)else f x:=by
 funext x
 cases d<;>rfl
theorem Sj(next jo:Nat)(op k s:Int)(d:Bool)(sum:Int):(jaddX next jo op k s d sum).length=7/\(jaddX next jo op k s d sum).getD 0 0=(next:Int)/\(jaddX next jo op k s d sum).getD 1 0=(((next-1)/jo:Nat):Int):=⟨rfl,rfl,rfl⟩
end
section
variable{n:CaN}{Z:Nat->Bk}{a b:CaS}{E:Nat->List Ent}{R:Nat->List Int}{f0 com fp N:Nat}{o o':Option Nat}
theorem zad(hl:a.ps.length=n.bl){m:Nat}(hm:m<n.bl){v:Int×Bool}(hps:b.ps=a.ps.set m v)(hsm:∀s:Int,s≠(m:Int)->b.sums s=a.sums s)(s:Int):
  b.mp n s=if s=(m:Int)then(if v=(-1,false)then none else some ⟨(m:Int),v.1,v.2,((b.sums (m:Int)).getD 0:Nat)⟩)else a.mp n s:=by
 have hp:∀j,plc b.ps j=if j=m then v else plc a.ps j:=fun j=>by rw[hps,vv _ _ _ _ (by rw[hl];exact hm)]
 unfold CaS.mp;by_cases hs:s=(m:Int)
 .subst hs;rw[if_pos rfl,hp,qxu,if_pos rfl];by_cases hv:v=(-1,false)
  .rw [if_pos hv,if_neg (fun h=>h.2.2 hv)]
  .rw [if_neg hv,if_pos ⟨by omega,by omega,hv⟩]
 .rw [if_neg hs];by_cases h0:0<=s
  .have:s.toNat≠m:=fun e=>hs (by omega);rw[hp,if_neg this,hsm s hs]
  .rw [if_neg (fun h=>h0 h.1),if_neg (fun h=>h0 h.1)]
theorem ents_set(hl:a.ps.length=n.bl){m:Nat}(hm:m<n.bl){v:Int×Bool}(hps:b.ps=a.ps.set m v)(hsm:∀s:Int,s≠(m:Int)->b.sums s=a.sums s){x:Ent}(hx:x∈b.ents n):
  x∈a.ents n\/(v≠(-1,false)/\x=⟨m,v.1.toNat,v.2,(b.sums (m:Int)).getD 0⟩):=by
 have hp:∀j,plc b.ps j=if j=m then v else plc a.ps j:=fun j=>by rw[hps,vv _ _ _ _ (by rw[hl];exact hm)]
 obtain⟨k,hk,hn,rfl⟩:=(CaS.jG (by rw[hps,qzj];exact hl)).1 hx;by_cases e:k=m
 .subst e;rw[hp,if_pos rfl]at hn⊢;exact .inr ⟨hn,rfl⟩
 .rw [hp,if_neg e]at hn⊢;rw[hsm _ (fun h=>e (by omega))];exact .inl ((CaS.jG hl).2 ⟨k,hk,hn,rfl⟩)
theorem Hs.noteSet(h:Hs n Z a E R f0 com fp)(ht:a.Tie n o)(b:CaS)(htb:b.Tie n o')(hsb:∀k v,b.sums k=some v->v<=4294967295){m:Nat}(hm:m<n.bl)(v:Int×Bool)(op s:Int)(d:Bool)(sum:Int)
  (hop:(op=0/\v=(s,d)/\v≠(-1,false)/\((b.sums (m:Int)).getD 0:Int)=sum)\/(op=1/\v=(-1,false))) (hd:b.dF=a.dF/\b.dO=a.dO/\b.dP=a.dP)
  (hc:b.cov=a.cov/\b.which=a.which/\b.next=a.next+1/\b.W=a.W++[(a.next,sectR (jaddX a.next n.jo op (m:Int) s d sum))]) (hmay:mayR (jaddX a.next n.jo op (m:Int) s d sum)=true) (hr:a.next<=a.cov+n.jo)
  (hs:∀s,a.st.getD s 0=2\/a.st.getD s 0=3->b.st.getD s 0=2\/b.st.getD s 0=3) (hps:b.ps=a.ps.set m v) (hsm:∀s:Int,s≠(m:Int)->b.sums s=a.sums s)
  (hcr:v≠(-1,false)->crcC (curB a.dF a.dO (n.jq+v.1.toNat))=(b.sums (m:Int)).getD 0):b.Hi n Z:=by
 obtain⟨j1,j2,j3⟩:=Sj a.next n.jo op (m:Int) s d sum;have c2:=h.c2;refine(h.note b (jaddX a.next n.jo op (m:Int) s d sum) hd hc ⟨j1,hmay,j2,j3⟩ ?_ (CaS.ents_enok htb hsb) hr hs (fun x hx=>⟨.inl (CaS.ents_live htb hx).2,?_⟩)).hi
 .rw [CaS.ents_mp htb,CaS.ents_mp ht,Si]
  funext x
  rw[zad ht.hpl hm hps hsm x];split
  .rcases hop with⟨rfl,rfl,hv,e⟩|⟨rfl,rfl⟩
   .rw [if_neg hv,if_pos rfl,<-e]
   .rw [if_pos rfl,if_neg (by decide)]
  .rfl
 .rcases ents_set ht.hpl hm hps hsm hx with hx|⟨hv,rfl⟩
  .exact (h.sl (a.next-1) (by omega) (by omega) x (by rw[h.cur];exact hx)).2
  .exact hcr hv
theorem Hs.n1(h:Hs n Z a E R f0 com fp):1<=a.next:=by have:=h.c2;omega
theorem CaS.Hi.n1(h:a.Hi n Z):1<=a.next:=by obtain⟨E,R,f0,com,fp,h⟩:=h;exact h.n1
theorem CaS.Hi.leave(h:a.Hi n Z)(hok:n.Ok)(ht:a.Tie n o)(hf:a.Fit N)(hN:N<=1000000){k:Int}(hg:getC a.ps k=0)(hr:a.next<=a.cov+n.jo)(b:CaS)(htb:b.Tie n o')
  (hb:b.dF=a.dF/\b.dO=a.dO/\b.dP=a.dP) (hc:b.cov=a.cov/\b.which=a.which/\b.next=a.next+1/\b.W=a.W++[(a.next,sectR (jaddX a.next n.jo 1 k 0 false 0))]) (hps:b.ps=dropL a.ps k) (hsu:b.sums=upd1 a.sums k none) (hst:b.st=turnList a.st (getV a.ps k).1 3):b.Hi n Z:=by
 have h1:=h.n1;obtain⟨E,R,f0,com,fp,h⟩:=h;obtain⟨m,hm,rfl,hn⟩:=zR.1 hg;rw[ht.hpl]at hm;have hb2:=hok.b2;refine h.noteSet ht b htb (fun x v hv=>?_) hm (-1,false) 1 0 false 0 (.inr ⟨rfl,rfl⟩) hb hc (ta h1 (by have:=hf.nx;omega) (by have:=hok.j1;omega) ⟨by omega,by omega⟩) hr (fun s hs=>by rw[hst];exact wB _ _ s hs) ?_ (fun s hs=>?_) (fun e=>absurd rfl e)
 .rw [hsu]at hv;simp only[upd1]at hv;split at hv
  .cases hv
  .exact hf.sm x v hv
 .rw [hps];unfold dropL;rw[if_pos hg,qxu]
 .rw [hsu];simp only[upd1];rw[if_neg hs]
theorem CaS.Hi.jm:∀(m g:Nat) {a:CaS} {N:Nat},a.Hi n Z->n.Ok->a.Tie n o->a.Fit N->N+m*(n.pa+1)<=1000000->(CaS.jm n m g a).1.Hi n Z
 |0,g,a,N,h,_,_,_,_=>h
 |m+1,g,a,N,h,hok,ht,hf,hN=>by
  have hr:=h.je hok ht;have htr:=CaS.Tie.je ht;have hfr:=hf.je (n:=n);have h1:=h.n1;have hnx:=(a.jf n).1;have hmul:(m+1)*(n.pa+1)=m*(n.pa+1)+(n.pa+1):=Nat.succ_mul _ _;simp only[CaS.jm];split
  .exact h
  split
  .exact hr
  next hc0=>
  split
  .exact hr.ev
  .next hc=>
   obtain⟨h2,h3,h4⟩:=CaS.Tie.evLeft htr (qxq hc);have hroom:=CaS.jA (qxq hc0) h1 hok.j1;have hlv:(((a.je n).1.ev n).left n ((a.je n).1.evK n)).Hi n Z:=hr.leave hok htr hfr (by omega) h2 (by omega) _ h4 ⟨rfl,rfl,rfl⟩ ⟨rfl,rfl,rfl,rfl⟩ rfl rfl rfl;rw[if_neg (fun e=>e h3)];refine CaS.Hi.jm m (g+1) hlv hok h4 (N:=N+n.pa+1) ?_ (by omega);exact(CaS.Fit.ev (n:=n) hfr).left (by show 1<=(a.je n).1.next;omega) _
theorem Em(st:List Int)(s:Nat)(h:st.getD s 0=2\/st.getD s 0=3):(allocList st).getD s 0=2\/(allocList st).getD s 0=3:=by
 unfold allocList;rw[yh];split
 .next e=>
  have:=ru e.2;rw[e.1]at this;omega
 .exact h
theorem CaS.Hi.al(h:a.Hi n Z):a.al.Hi n Z:=h.turn _ (Em a.st)
theorem CaS.Hi.jC(h:a.Hi n Z)(hok:n.Ok)(ht:a.Tie n o)(s:Int):(a.jC n s).1.Hi n Z:=by
 have hr:=h.je hok ht;unfold CaS.jC;split
 .exact hr
 .exact hr.turn _ (fun r hr=>wB _ _ r hr)
theorem CaS.Hi.jE(h:a.Hi n Z)(hok:n.Ok)(ht:a.Tie n none):(a.jE n).1.Hi n Z:=by
 have hc:=h.jh hok ht;have htc:=CaS.Tie.jh ht;unfold CaS.jE CaS.take3;split
 .exact h
 split
 .exact hc
 split
 .exact hc.al
 .next hc2=>
  obtain⟨s,-,-,-,h4⟩:=TieL.alloc htc (qxq hc2);exact hc.al.jC hok (o:=some s) h4 _
theorem CaS.Hi.jj(h:a.Hi n Z)(hok:n.Ok)(ht:a.Tie n none)(hf:a.Fit N)(hN:N+n.pa+1<=1000000):(a.jj n).1.Hi n Z:=by
 unfold CaS.jj;split
 .next hc=>
  obtain⟨s,-,-,-,h4⟩:=TieL.alloc ht hc;exact h.al.jC hok (o:=some s) h4 _
 .next hc=>
  have hta:a.al.Tie n none:=by show TieL n.bl n.sl a.ps (allocList a.st) a.K none;rw[vS hc];exact ht
  unfold CaS.take1;split
  .have he:=CaS.Hi.jm 1 0 h.al hok hta hf.al (by omega);split
   .exact he
   .exact he.jE hok (CaS.Tie.jm 1 0 hta)
  .exact h.al.jE hok hta
theorem CaS.Hi.jl(h:a.Hi n Z){s:Nat}(ht:a.Tie n (some s))(blk:Int)(x:Bk):(a.jl n s blk x).1.Hi n Z/\((a.jl n s blk x).2=0->curB (a.jl n s blk x).1.dF (a.jl n s blk x).1.dO (n.jq+s)=x):=by
 obtain⟨E,R,f0,com,fp,h⟩:=h;have hs:=ht.olt s rfl;have h1:=(ht.opn s hs).2 rfl;have hG:Hs n Z {a with G:=sj a.G s blk} E R f0 com fp:={h with}
 obtain⟨hw1,hw2⟩:=hG.jD (n.jq+s) x (.inr (.inr (qXu _ _))) (fun _ t t1 t2 y hy e=>by
  have:=(h.sl t t1 t2 y hy).1;have e:y.s=s:=by omega
  rw[e,h1]at this;omega)
 unfold CaS.jl;split
 .next hc=>
  refine⟨hw2.hi,fun _=>?_⟩;have hO:=hw1.resolve_left (fun e=>e.1 hc);show curB (writeR a.dF a.dO a.dP (n.jq+s) x).F (writeR a.dF a.dO a.dP (n.jq+s) x).O _=x;rw[yu,show(writeR a.dF a.dO a.dP (n.jq+s) x).O=_ from hO.2,ti,if_pos ⟨rfl,by rw[h.dl,n.size_eq];omega⟩]
 .next hc=>
  refine⟨hw2.hi.turn _ (fun r hr=>?_),fun e=>absurd e hc⟩;have hr:a.st.getD r 0=2\/a.st.getD r 0=3:=hr;show(turnList a.st (s:Int) 4).getD r 0=2\/(turnList a.st (s:Int) 4).getD r 0=3;unfold turnList;split
  .rw [yh];split
   .next e=>rw[<-e.1,qxu,h1]at hr;omega
   .exact hr
  .exact hr
theorem CaS.Hi.ju(h:a.Hi n Z)(hok:n.Ok){s k:Nat}(ht:a.Tie n (some s))(hf:a.Fit N)(hN:N<=1000000)(hk:k<n.bl)(x:Bk)(d:Bool)(hx:curB a.dF a.dO (n.jq+s)=x)(hr:a.next<=a.cov+n.jo):(a.ju n (k:Int) s (crcC x) d).1.Hi n Z:=by
 have h1:=h.n1;obtain⟨E,R,f0,com,fp,h⟩:=h;obtain⟨hp1,-,hp3⟩:=CaS.Tie.put ht hk (crcC x) d;have hs:=ht.olt s rfl;have hst:=(ht.opn s hs).2 rfl;have hb2:=hok.b2;have hs2:=hok.s2;have hcr:=ve x;obtain⟨b,hb⟩:=qqe ((a.ju n (k:Int) s (crcC x) d).1);have hfit:b.Fit (N+1):=by rw[hb];exact hf.ju h1 (k:Int) s (crcC x) d (by omega)
 have hsu:b.sums=upd1 a.sums (k:Int) (some (crcC x)):=by rw[hb];unfold CaS.ju;split<;>rfl
 have hps:b.ps=a.ps.set k ((s:Int),d):=by
  have:b.ps=putL a.ps n.sl (k:Int) (s:Int) d:=by rw[hb];unfold CaS.ju;split<;>rfl
  rw[this];unfold putL;rw[if_pos hp1,qxu]
 have hstk:∀r,a.st.getD r 0=2\/a.st.getD r 0=3->b.st.getD r 0=2\/b.st.getD r 0=3:=by
  have t2:∀r,a.st.getD r 0=2\/a.st.getD r 0=3->(turnList a.st (s:Int) 2).getD r 0=2\/(turnList a.st (s:Int) 2).getD r 0=3:=fun r hr=>by
   unfold turnList;split
   .rw [yh];split
    .exact .inl rfl
    .exact hr
   .exact hr
  intro r hr;rw[hb];unfold CaS.ju;split
  .exact t2 r hr
  .exact wB _ _ r (t2 r hr)
 rw[<-hb]at hp3⊢;have hbn:(b.sums (k:Int)).getD 0=crcC x:=by rw[hsu];simp only[upd1,if_true];rfl
 refine h.noteSet ht b hp3 hfit.sm hk ((s:Int),d) 0 (s:Int) d (crcC x:Nat) (.inl ⟨rfl,rfl,fun e=>by have:=congrArg Prod.fst e;simp only at this;omega,by rw[hbn]⟩) ?_ ?_ (wU d h1 (by have:=hf.nx;omega) (by have:=hok.j1;omega) ⟨by omega,by omega⟩ (by omega) (by omega)) hr hstk hps (fun z hz=>?_) (fun _=>?_)
 .rw [hb];unfold CaS.ju;split<;>exact⟨rfl,rfl,rfl⟩
 .rw [hb];unfold CaS.ju;split<;>exact⟨rfl,rfl,rfl,rfl⟩
 .rw [hsu];simp only[upd1];rw[if_neg hz]
 .rw [hbn,<-hx];rfl
theorem CaS.Hi.byp(h:a.Hi n Z)(hok:n.Ok)(ht:a.Tie n o)(hf:a.Fit N)(hN:N<=1000000)(hr:a.next<=a.cov+n.jo)(k:Nat):(a.byp n k).Hi n Z:=by
 unfold CaS.byp;split
 .next hg=>exact h.leave hok ht hf hN hg hr _ (CaS.Tie.jK ht hg).2.2 ⟨rfl,rfl,rfl⟩ ⟨rfl,rfl,rfl,rfl⟩ rfl rfl rfl
 .exact h
theorem CaS.Hi.jk(h:a.Hi n Z)(hok:n.Ok)(ht:a.Tie n none)(hf:a.Fit N)(hN:N+n.pa+1<=1000000)(k:Nat)(x:Bk):(a.jk n k x).1.Hi n Z:=by
 have hr:=h.je hok ht;have htr:=CaS.Tie.je ht;have hfr:=(hf.je (n:=n)).bw k x;unfold CaS.jk;split
 .exact hr
 next hc=>
 split
 .exact hr.jy _
 .have hroom:=CaS.jA (qxq hc) h.n1 hok.j1;exact(hr.jy _).byp hok (o:=none) htr hfr (by omega) (by show(a.je n).1.next<=(a.je n).1.cov+n.jo;omega) k
theorem CaS.Hi.jB(h:a.Hi n Z)(hok:n.Ok)(ht:a.Tie n none)(hg:a.Jg n)(hf:a.Fit N)(hN:N+3*n.pa+n.jo+6<=1000000){k:Nat}(hk:k<n.bl)(x:Bk):(a.jB n k x).1.Hi n Z:=by
 have hj:=hok.j1;have h1:=h.n1;have h2:=h.jj hok ht hf (by omega);have hft:=hf.takes' hg h1 hj;unfold CaS.jB;rcases CaS.Tie.jj ht h1 hj with⟨q1,q2,q3,s,q4,q5⟩|⟨q1,q5⟩
 .rw [if_neg (by omega),if_neg (by rw[q1];decide),q4,qxu];obtain⟨f1,f2⟩:=h2.jl q5 (k:Int) x;unfold CaS.backS;split
  .exact f1
  .next hc=>
   have hc:=qxq hc;obtain⟨-,t2⟩:=(CaS.Tie.jl q5 (k:Int) x).resolve_right (fun e=>e.1 hc);obtain⟨n1,n2⟩:=yH n (a.jj n).1 s (k:Int) x;exact f1.ju hok t2 (hft.jl s (k:Int) x) (by omega) hk x true (f2 hc) (by rw[n1,n2];omega)
 .split
  .exact h2
  .first
   |exact h2.jk hok q5 hft (by omega) k x
   |(rw[if_pos q1];exact h2.jk hok q5 hft (by omega) k x)
theorem CaS.Hi.thru(h:a.Hi n Z)(hok:n.Ok)(ht:a.Tie n none)(hg:a.Jg n)(hf:a.Fit N)(hN:N+3*n.pa+n.jo+6<=1000000){k:Nat}(hk:k<n.bl)(x:Bk):(a.thru n k x).1.Hi n Z:=by
 have hj:=hok.j1;have h1:=h.n1;have h2:=h.jj hok ht hf (by omega);have hft:=hf.takes' hg h1 hj;unfold CaS.thru;rcases CaS.Tie.jj ht h1 hj with⟨q1,q2,q3,s,q4,q5⟩|⟨q1,q5⟩
 .rw [if_neg (by omega),if_neg (by rw[q1];decide),q4,qxu];obtain⟨b,hb⟩:=qqe ((a.jj n).1.jy (writeR (a.jj n).1.bF (a.jj n).1.bO (a.jj n).1.bP k x));have hB:b.Hi n Z:=by rw[hb];exact h2.jy _
  have tB:b.Tie n (some s):=by rw[hb];exact q5
  have fB:b.Fit (N+2*n.pa+n.jo+1+1):=by rw[hb];exact hft.bw k x
  have nB:b.next+1<=b.cov+n.jo:=by rw[hb];exact q3
  obtain⟨f1,f2⟩:=hB.jl tB (k:Int) x;unfold CaS.thruS CaS.thruF;rw[<-hb];split
  .refine hB.turn _ (fun r hr=>?_);rw[show(a.jj n).1.st=b.st by rw[hb]];exact wB _ _ r hr
  obtain⟨n1,n2⟩:=yH n b s (k:Int) x;split
  .next hc=>
   obtain⟨-,t2⟩:=(CaS.Tie.jl tB (k:Int) x).resolve_left (fun e=>hc e.1);exact f1.byp hok t2 (fB.jl s (k:Int) x) (by omega) (by rw[n1,n2];omega) k
  .next hc=>
   have hc:=qxq hc;obtain⟨-,t2⟩:=(CaS.Tie.jl tB (k:Int) x).resolve_right (fun e=>e.1 hc);exact f1.ju hok t2 (fB.jl s (k:Int) x) (by omega) hk x false (f2 hc) (by rw[n1,n2];omega)
 .split
  .exact h2
  .first
   |exact h2.jk hok q5 hft (by omega) k x
   |(rw[if_pos q1];exact h2.jk hok q5 hft (by omega) k x)
theorem CaS.Hi.jv(h:a.Hi n Z)(hok:n.Ok)(ht:a.Tie n none)(hf:a.Fit N)(hN:N+n.pa+1<=1000000)(k:Int):(a.jv n k).1.Hi n Z:=by
 have hr:=h.je hok ht;have htr:=CaS.Tie.je ht;have hfr:=hf.je (n:=n);have h1:=h.n1;obtain⟨hn1,hn2⟩:=a.jf n;have hsu:=(a.same_roomed n).sums;have htc:=TieL.clean htr k;unfold CaS.jv;split
 .exact h
 next hg=>
 split
 .exact hr
 next hc=>
 have hg:=qxq hg;have hroom:=CaS.jA (qxq hc) h1 hok.j1;obtain⟨m,hm,rfl,hn⟩:=zR.1 hg;obtain⟨E,R,f0,com,fp,hs⟩:=hr;have hmb:m<n.bl:=by rw[<-ht.hpl];exact hm
 obtain⟨s,hsl,he,-⟩:=ht.slot hmb hn;have hb2:=hok.b2;have hs2:=hok.s2;rw[yK hm hn,he];have hsum:(a.sums (m:Int)).getD 0<=4294967295:=by
  cases hq:a.sums (m:Int)with
  |none=>simp
  |some v=>exact hf.sm _ _ hq
 rw[hn2]at htc;refine hs.noteSet (o':=none) htr _ htc hfr.sm hmb ((s:Int),false) 0 (s:Int) false ((a.sums (m:Int)).getD 0:Nat) (.inl ⟨rfl,rfl,fun e=>by have:=congrArg Prod.fst e;simp only at this;omega,?_⟩) ⟨rfl,rfl,rfl⟩ ⟨rfl,rfl,rfl,rfl⟩ (wU false hs.n1 (by have:=hfr.nx;omega) (by have:=hok.j1;omega) ⟨by omega,by omega⟩ (by omega) hsum) (by omega) (fun r hr=>hr) ?_ (fun _ _=>rfl) (fun _=>?_)
 .show (((a.je n).1.sums (m:Int)).getD 0:Int)=_;rw[hsu]
 .show cleanL a.ps (m:Int)=(a.je n).1.ps.set m _;unfold cleanL;rw[if_pos hg,yK hm hn,he,hn2,qxu]
 .show crcC (curB (a.je n).1.dF (a.je n).1.dO (n.jq+s))=((a.je n).1.sums (m:Int)).getD 0;have c2:=hs.c2;refine(hs.sl ((a.je n).1.next-1) (by omega) (by omega) ⟨m,s,(plc a.ps m).2,((a.je n).1.sums (m:Int)).getD 0⟩ ?_).2;rw[hs.cur];refine(CaS.jG htr.hpl).2 ⟨m,hmb,by rw[hn2];exact hn,?_⟩;rw[hn2,he,qxu]
theorem CaS.Hi.jn(h:a.Hi n Z)(k:Int):(a.jn n k).1.Hi n Z:=by
 rcases a.readB_eq n k with e|e|e<;>rw[e]
 .exact h
 .obtain ⟨E,R,f0,com,fp,h⟩:=h;exact Hs.hi (E:=E) (R:=R) (f0:=f0) (com:=com) (fp:=fp) {h with}
 .obtain ⟨E,R,f0,com,fp,h⟩:=h;exact h.tail.hi
theorem CaS.Hi.jx(h:a.Hi n Z)(hok:n.Ok)(hg:a.Gd n N)(hN:N+n.pa+2<=1000000)(k:Int):(a.jx n k).1.Hi n Z:=by
 have h1:=h.jn k;have g1:=hg.jn k;have h2:CaS.Tie n ((a.jn n k).1.jy (writeR (a.jn n k).1.bF (a.jn n k).1.bO (a.jn n k).1.bP k.toNat (a.jn n k).2.1)).fb none:=g1.tie;have f2:=(g1.fit.bw k.toNat (a.jn n k).2.1).fb;unfold CaS.jx CaS.jL CaS.back14f;split
 .exact h
 split
 .exact h1
 split
 .exact h1.jy _
 split
 .exact (h1.jy _).jy _
 .exact ((h1.jy _).jy _).jv hok h2 f2 (by omega) k
theorem CaS.Hi.does14(h:a.Hi n Z)(hok:n.Ok)(hg:a.Gd n N)(hj:a.Jg n)(hN:N+3*n.pa+n.jo+6<=1000000)(dd blk:Int)(nv:Nat)(md:Int):(a.does14 n dd blk nv md).1.Hi n Z:=by
 have hmm:nv%4*(n.pa+1)<=3*(n.pa+1):=qYb _ (by omega);unfold CaS.does14;split
 .unfold CaS.jD;split
  .exact h
  split
  .exact h
  split
  .exact h.jB hok hg.tie hj hg.fit hN (by omega) _
  split
  .exact h.thru hok hg.tie hj hg.fit hN (by omega) _
  .exact h.jk hok hg.tie hg.fit (by omega) _ _
 split
 .unfold CaS.gone;split
  .exact h
  .exact h.jk hok hg.tie hg.fit (by omega) _ _
 split
 .exact h.jn blk
 split
 .exact h.jh hok hg.tie
 split
 .exact h.ckpt hok hg.tie
 split
 .exact CaS.Hi.jm _ 0 h hok hg.tie hg.fit (by omega)
 split
 .exact h.jx hok hg (by omega) blk
 split
 .obtain ⟨E,R,f0,com,fp,h⟩:=h;unfold CaS.plan14;split
  .refine Hs.hi (E:=E) (R:=R) (f0:=f0) (com:=com) (fp:=fp) {h with pl:=fun x hx=>?_};replace hx:x∈a.dP++[((nv%2:Nat):Int)]:=hx;rcases qzq.1 hx with hx|hx
   .exact h.pl x hx
   .rw [qzy.1 hx];omega
  .exact Hs.hi (E:=E) (R:=R) (f0:=f0) (com:=com) (fp:=fp) {h with}
 .exact h
end
theorem Sk{xs:List Int}(hx:xs.length=7)(h:mayR xs=true):okR (sectR xs)=true/\natsI (numsR (sectR xs))=xs:=by
 obtain⟨h0,hf⟩:=uL hx h;obtain⟨s1,s2⟩:=uW (k:=2) (by decide) (sz:=Ux) (by rw[hx];rfl) h0 hf (mayR (natsI (numsR (sectR xs))));have h3:natsI (numsR (sectR xs))=xs:=s2;refine⟨?_,h3⟩;unfold okR;rw[show okGet (sectR xs) 2 Ux (mayR (natsI (numsR (sectR xs))))=mayR (natsI (numsR (sectR xs)))from s1,h3];exact h
theorem zae:okR zB=false:=by kernel_rfl
theorem ql{α:Type}(f:α->Int):∀{L L':List α},L.Pairwise (fun x y=>f x<f y)->L'.Pairwise (fun x y=>f x<f y)->(∀x,x∈L↔x∈L')->L=L'
 |[],[],_,_,_=>rfl
 |[],y::L',_,_,h=>by cases (h y).2 qzt
 |x::L,[],_,_,h=>by cases (h x).1 qzt
 |x::L,y::L',h1,h2,h=>by
  rw[List.pairwise_cons]at h1 h2;have exy:x=y:=by
   rcases qzr.1 ((h x).1 qzt)with e|hx
   .exact e
   .rcases qzr.1 ((h y).2 qzt)with e|hy
    .exact e.symm
    .have:=h1.1 y hy;have:=h2.1 x hx;omega
  subst exy
  congr 1
  refine ql f h1.2 h2.2 (fun z=>⟨fun hz=>?_,fun hz=>?_⟩)
  .rcases qzr.1 ((h z).1 (qzs _ hz))with rfl|hz'
   .have:=h1.1 _ hz;omega
   .exact hz'
  .rcases qzr.1 ((h z).2 (qzs _ hz))with rfl|hz'
   .have:=h2.1 _ hz;omega
   .exact hz'
def rcN(R:Nat->List Int)(t:Nat):List Nat:=numsR (sectR (R t))
section
variable{n:CaN}{Z:Nat->Bk}{a:CaS}{E:Nat->List Ent}{R:Nat->List Int}{f0 com fp:Nat}
theorem Hs.recN(h:Hs n Z a E R f0 com fp){t:Nat}(h1:f0<t)(h2:t<a.next):natsI (rcN R t)=R t/\rseq (rcN R t)=t/\Xq n.jo ((t-1)%n.jo) (sectR (R t))=true:=by
 obtain⟨⟨q1,q2,q3,q4⟩,-⟩:=h.rc t h1 h2;obtain⟨e1,e2⟩:=Sk q1 q2;have g0:(numsR (sectR (R t))).getD 0 0=t:=by
  have:=yo (numsR (sectR (R t))) 0;rw[e2,q3]at this;omega
 have g1:(numsR (sectR (R t))).getD 1 0=(t-1)/n.jo:=by
  have:=yo (numsR (sectR (R t))) 1;rw[e2,q4]at this;exact(Int.ofNat_inj.1 this).symm
 refine⟨e2,g0,?_⟩;unfold Xq;rw[e1,g0,g1];simp
theorem Hs.newest(h:Hs n Z a E R f0 com fp)(hok:n.Ok)(hN:a.next<=1099511627776):∃wh s0,wh<=1/\a.cov<=s0/\s0<=fp/\nwS a.dF [] 1 n.pa 2=(true,wh,s0,E s0):=by
 have c1:=h.c1;have c3:=h.c3;have c4:=h.c4;have hown:readOk (secsOf a.dF [] (1+a.which*n.pa) n.pa)=true/\readSeq (secsOf a.dF [] (1+a.which*n.pa) n.pa)=a.cov/\readEs (secsOf a.dF [] (1+a.which*n.pa) n.pa)=E a.cov:=by
  obtain⟨n1,n2,n3⟩:=(h.en a.cov (by omega)).need hok;refine wy (by omega) n3 n2 (by rw[yq];exact n1) (fun i hi=>?_);rw[yq]at hi;rw[uF _ _ _ _ _ hi];exact h.sd i hi
 have hoth:readOk (secsOf a.dF [] (1+(1-a.which)*n.pa) n.pa)=true->∃s,s<=fp/\readSeq (secsOf a.dF [] (1+(1-a.which)*n.pa) n.pa)=s/\readEs (secsOf a.dF [] (1+(1-a.which)*n.pa) n.pa)=E s:=fun hr=>by
  obtain⟨s,s1,s2,s3,-⟩:=Tk (H:=E) (top:=fp) (by omega) (fun s hs=>((h.en s (by omega)).need hok).2.2) (fun s hs=>((h.en s (by omega)).need hok).2.1) (l:=secsOf a.dF [] (1+(1-a.which)*n.pa) n.pa) (fun i hi=>by
   rw[yq]at hi;rw[uF _ _ _ _ _ hi];exact h.so i hi) hr
  exact⟨s,s1,s2,s3⟩
 obtain⟨r1,r2,r3⟩:=hown;rcases(show a.which=0\/a.which=1 by have:=h.wh;omega)with e|e
 .rw [e]at r1 r2 r3 hoth;rw[show(1:Nat)-0=1 from rfl]at hoth;have e1:nwS a.dF [] 1 n.pa 1=(true,0,a.cov,E a.cov):=by
   rw[nwS,r1,r2,r3];rfl
  rw[nwS,e1];split
  .next hc=>
   rw[qxo]at hc;obtain⟨s,s1,s2,s3⟩:=hoth hc.1;rw[s2,s3];have hlt:a.cov<s:=by
    have:=hc.2;rw[s2]at this;simpa using this
   exact⟨1,s,qXv _,by omega,s1,rfl⟩
  .exact ⟨0,a.cov,by omega,qXv _,by omega,rfl⟩
 .rw [e]at r1 r2 r3 hoth;rw[show(1:Nat)-1=0 from rfl]at hoth;rw[nwS,r1,r2,r3];rw[qxp];cases hq:readOk (secsOf a.dF [] (1+0*n.pa) n.pa)with
  |false=>
   have e1:nwS a.dF [] 1 n.pa 1=(false,0,0,[]):=by rw[nwS,hq];rfl
   rw[e1];exact⟨1,a.cov,qXv _,qXv _,by omega,rfl⟩
  |true=>
   obtain⟨s,s1,s2,s3⟩:=hoth hq;have e1:nwS a.dF [] 1 n.pa 1=(true,0,s,E s):=by rw[nwS,hq,s2,s3];rfl
   rw[e1];by_cases hlt:s<a.cov
   .rw [if_pos (by simp[hlt])];exact⟨1,a.cov,qXv _,qXv _,by omega,rfl⟩
   .rw [if_neg (by simp[hlt])];exact⟨0,s,by omega,by omega,s1,rfl⟩
theorem Hs.scan(h:Hs n Z a E R f0 com fp):∀k,k<=n.jo->
  (∀r∈scanTo a.dF [] n.jb n.jo k,∃t,f0<t/\t<=fp/\(t-1)%n.jo<k/\r=rcN R t)/\(scanTo a.dF [] n.jb n.jo k).Pairwise (fun x y=>rseq x≠rseq y)/\(∀t,a.cov<t->t<=com->(t-1)%n.jo<k->rcN R t∈scanTo a.dF [] n.jb n.jo k)
 |0,_=>⟨fun r hr=>(by cases hr),List.Pairwise.nil,fun t _ _ h=>(by omega)⟩
 |k+1,hk=>by
  obtain⟨i1,i2,i3⟩:=Hs.scan h k (by omega);have c4:=h.c4;have hcur:curB a.dF [] (n.jb+k)=a.dF.getD (n.jb+k) zB:=rfl;have hnew:∀r∈scL n.jo k (a.dF.getD (n.jb+k) zB),∃t,f0<t/\t<=fp/\(t-1)%n.jo=k/\r=rcN R t:=fun r hr=>by
   rcases h.jr k (by omega)with e|⟨t,t1,t2,t3,e⟩
   .rw [e]at hr;unfold scL Xq at hr;rw[zae]at hr;simp at hr
   .rw [e]at hr;unfold scL at hr;split at hr
    .exact ⟨t,t1,t2,t3,qzy.1 hr⟩
    .cases hr
  rw[scanTo,hcur];refine⟨fun r hr=>?_,?_,fun t t1 t2 t3=>?_⟩
  .rcases qzq.1 hr with hr|hr
   .obtain ⟨t,t1,t2,t3,e⟩:=i1 r hr;exact⟨t,t1,t2,by omega,e⟩
   .obtain ⟨t,t1,t2,t3,e⟩:=hnew r hr;exact⟨t,t1,t2,by omega,e⟩
  .rw [List.pairwise_append];refine⟨i2,?_,fun x hx y hy e=>?_⟩
   .unfold scL;split
    .exact List.pairwise_singleton _ _
    .exact List.Pairwise.nil
   .obtain ⟨t,t1,t2,t3,rfl⟩:=i1 x hx;obtain⟨t',p1,p2,p3,rfl⟩:=hnew y hy;rw[(h.recN t1 (by omega)).2.1,(h.recN p1 (by omega)).2.1]at e;subst e;omega
  .rw [qzq];by_cases hlt:(t-1)%n.jo<k
   .exact .inl (i3 t t1 t2 hlt)
   .right
    have hk2:(t-1)%n.jo=k:=by omega
    have hw:=h.jw t t1 t2;rw[hk2]at hw;rw[hw];unfold scL;have:=(h.recN (t:=t) (by have:=h.f1;omega) (by have:=h.c3;omega)).2.2;rw[hk2]at this;rw[if_pos this];exact qzy.2 rfl
theorem VV{L:List (List Nat)}(hs:L.Pairwise (fun x y=>rseq x<rseq y))(s0:Nat):∀k,k<=L.length->
  (repS (L.take k) s0).l=s0+(repS (L.take k) s0).d.length/\(∀i (hi:i<(repS (L.take k) s0).d.length),rseq (repS (L.take k) s0).d[i]=s0+1+i/\(repS (L.take k) s0).d[i]∈L)/\
   (∀r∈L.take k,rseq r<=(repS (L.take k) s0).l\/(repS (L.take k) s0).l+1<rseq r)/\(∀r∈L.take k,rseq r<=(repS (L.take k) s0).g)/\s0<=(repS (L.take k) s0).g/\(repS (L.take k) s0).l<=(repS (L.take k) s0).g/\((repS (L.take k) s0).g=s0\/∃r∈L,rseq r=(repS (L.take k) s0).g)
 |0,_=>by
  rw[List.take_zero];exact⟨rfl,fun i hi=>absurd hi (Nat.not_lt_zero _),fun r hr=>(by cases hr),fun r hr=>(by cases hr),qXv _,qXv _,.inl rfl⟩
 |k+1,hk=>by
  obtain⟨h1,h2,h3,h4,h5,h6,h7⟩:=VV hs s0 k (by omega);have hk':k<L.length:=by omega
  rw[uZ L s0 hk'];have hlt:∀r∈L.take k,rseq r<rseq L[k]:=fun r hr=>by
   obtain⟨i,hi,rfl⟩:=qza hr;rw[qzk]at hi;rw[List.getElem_take];exact qXe.1 hs i k (by omega) hk' (by omega)
  have hmem:∀{r},r∈L.take (k+1)->r∈L.take k\/r=L[k]:=fun{r} hr=>by
   rw[qXq hk',qzq,qzy]at hr;exact hr
  obtain⟨s,hsd⟩:=qqe (repS (L.take k) s0);rw[<-hsd]at h1 h2 h3 h4 h5 h6 h7⊢;have hg:∀s':RepS,s'.g=max s.g (rseq L[k])->(∀r∈L.take (k+1),rseq r<=s'.g)/\s0<=s'.g/\(s'.g=s0\/∃r∈L,rseq r=s'.g):=fun s' e=>by
   refine⟨fun r hr=>?_,by rw[e];omega,?_⟩
   .rcases hmem hr with hr|rfl
    .have:=h4 r hr;rw[e];omega
    .rw [e];omega
   .rcases Nat.le_total s.g (rseq L[k])with hle|hle
    .exact .inr ⟨L[k],qyz hk',by rw[e];omega⟩
    .rw [e,Nat.max_eq_left hle];exact h7
  unfold repStep;split
  .next he=>
   obtain⟨g1,g2,g3⟩:=hg ⟨s.d++[L[k]],max s.g (rseq L[k]),rseq L[k]⟩ rfl;refine⟨by show rseq L[k]=s0+(s.d++[L[k]]).length;rw[qzd];simp;omega,fun i hi=>?_,fun r hr=>?_,g1,g2,by show rseq L[k]<=max _ _;omega,g3⟩
   .show rseq (s.d++[L[k]])[i]=_/\(s.d++[L[k]])[i]∈L;have hi:i<(s.d++[L[k]]).length:=hi;rw[qzd]at hi;by_cases hid:i<s.d.length
    .rw [List.getElem_append_left hid];exact h2 i hid
    .have:i=s.d.length:=by simp at hi;omega
     subst this;rw[List.getElem_append_right (qXv _)];simp only[Nat.sub_self,qyx];exact⟨by omega,qyz hk'⟩
   .show rseq r<=rseq L[k]\/rseq L[k]+1<rseq r;rcases hmem hr with hr|rfl
    .exact .inl (by have:=hlt r hr;omega)
    .exact .inl (qXv _)
  .next he=>
   obtain⟨g1,g2,g3⟩:=hg ⟨s.d,max s.g (rseq L[k]),s.l⟩ rfl;refine⟨h1,h2,fun r hr=>?_,g1,g2,by show s.l<=max _ _;omega,g3⟩;show rseq r<=s.l\/s.l+1<rseq r;rcases hmem hr with hr|rfl
   .exact h3 r hr
   .omega
end
end Go.Proofs.YtfhfbpmlnjdfoaaGreatDoor
